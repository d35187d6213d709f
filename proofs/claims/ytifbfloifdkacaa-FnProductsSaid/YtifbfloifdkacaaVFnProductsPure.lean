/- The determinant of a product is the product of the determinants, and the transpose of a product is the product of the transposes in the opposite order. No condition: for every input that the statement lets in. -/
import Derived.Test.YtifbfloifdkacaaVFnProductsPx12
namespace Go.Proofs.Ytifbfloifdkacaa.Pure
open Go.RowKit Go.Proofs.Ytifbfloifdkacaa.PFnProducts Go.Proofs.YtifbfloifdkacaaW.PrintWords Go.Proofs.YtifbfloifdkacaaW.PrintLast

set_option linter.unusedSimpArgs false
set_option linter.unusedVariables false
/-- Expansion along one row: the alternating sum over the columns. -/
def ex (r : Nat → Int) (G : List Nat → Int) : List Nat → Int
  | [] => 0
  | c :: cs => r c * G cs - ex r (fun ds => G (c :: ds)) cs
/-- The determinant of rows at columns. -/
def det : List (Nat → Int) → List Nat → Int
  | [], _ => 1
  | r :: rs, cols => ex r (det rs) cols
theorem ex_add_row (r s : Nat → Int) : ∀ (cols : List Nat) (G : List Nat → Int), ex (fun c => r c + s c) G cols = ex r G cols + ex s G cols
  | [], _ => rfl
  | c :: cs, G => by
    simp only [ex]
    rw [ex_add_row r s cs, Int.add_mul]
    omega
theorem ex_smul_row (a : Int) (r : Nat → Int) : ∀ (cols : List Nat) (G : List Nat → Int), ex (fun c => a * r c) G cols = a * ex r G cols
  | [], _ => by simp [ex]
  | c :: cs, G => by
    simp only [ex]
    rw [ex_smul_row a r cs, Int.mul_sub, Int.mul_assoc]
theorem ex_add (r : Nat → Int) : ∀ (cols : List Nat) (G H : List Nat → Int), ex r (fun ds => G ds + H ds) cols = ex r G cols + ex r H cols
  | [], _, _ => rfl
  | c :: cs, G, H => by
    simp only [ex]
    rw [ex_add r cs, Int.mul_add]
    omega
theorem ex_smul (a : Int) (r : Nat → Int) : ∀ (cols : List Nat) (G : List Nat → Int), ex r (fun ds => a * G ds) cols = a * ex r G cols
  | [], _ => by simp [ex]
  | c :: cs, G => by
    simp only [ex]
    rw [ex_smul a r cs, Int.mul_sub, Int.mul_left_comm]
theorem ex_zero (r : Nat → Int) : ∀ (cols : List Nat), ex r (fun _ => 0) cols = 0
  | [] => rfl
  | c :: cs => by
    simp only [ex]
    rw [ex_zero r cs]
    simp
theorem ex_ex (r : Nat → Int) : ∀ (cols : List Nat) (G : List Nat → Int), ex r (ex r G) cols = 0
  | [], _ => rfl
  | c :: cs, G => by
    have h : (fun ds => ex r G (c :: ds)) = fun ds => r c * G ds + (-1) * ex r (fun es => G (c :: es)) ds := by
      funext ds
      simp only [ex]
      omega
    show r c * ex r G cs - ex r (fun ds => ex r G (c :: ds)) cs = 0
    rw [h, ex_add, ex_smul, ex_smul, ex_ex r cs]
    simp
theorem ex_swap (r s : Nat → Int) (cols : List Nat) (G : List Nat → Int) : ex r (ex s G) cols = - ex s (ex r G) cols := by
  have h := ex_ex (fun c => r c + s c) cols G
  have e : ex (fun c => r c + s c) G = fun ds => ex r G ds + ex s G ds := funext fun ds => ex_add_row r s ds G
  rw [ex_add_row, e, ex_add, ex_add, ex_ex, ex_ex] at h
  omega
/-- The determinant is linear in each row. -/
theorem det_lin (a b : Int) (r s : Nat → Int) (R : List (Nat → Int)) : ∀ (L : List (Nat → Int)) (C : List Nat), det (L ++ (fun c => a * r c + b * s c) :: R) C = a * det (L ++ r :: R) C + b * det (L ++ s :: R) C
  | [], C => by
    show ex _ (det R) C = _
    rw [ex_add_row, ex_smul_row, ex_smul_row]
    rfl
  | l :: L, C => by
    show ex l (det (L ++ _ :: R)) C = a * ex l (det (L ++ r :: R)) C + b * ex l (det (L ++ s :: R)) C
    rw [show det (L ++ (fun c => a * r c + b * s c) :: R) = fun ds => a * det (L ++ r :: R) ds + b * det (L ++ s :: R) ds from funext fun ds => det_lin a b r s R L ds, ex_add, ex_smul, ex_smul]
theorem det_same0 (r : Nat → Int) (R : List (Nat → Int)) : ∀ (M : List (Nat → Int)) (C : List Nat), det (r :: (M ++ r :: R)) C = 0
  | [], C => ex_ex r C (det R)
  | m :: M, C => by
    show ex r (ex m (det (M ++ r :: R))) C = 0
    rw [ex_swap, show ex r (det (M ++ r :: R)) = fun _ => 0 from funext fun ds => det_same0 r R M ds, ex_zero]
    rfl
/-- Two equal rows. -/
theorem det_same (r : Nat → Int) (M R : List (Nat → Int)) : ∀ (L : List (Nat → Int)) (C : List Nat), det (L ++ r :: (M ++ r :: R)) C = 0
  | [], C => det_same0 r R M C
  | l :: L, C => by
    show ex l (det (L ++ r :: (M ++ r :: R))) C = 0
    rw [show det (L ++ r :: (M ++ r :: R)) = fun _ => 0 from funext fun ds => det_same r M R L ds, ex_zero]
theorem det_add (r s : Nat → Int) (R L : List (Nat → Int)) (C : List Nat) : det (L ++ (fun c => r c + s c) :: R) C = det (L ++ r :: R) C + det (L ++ s :: R) C := by
  have h := det_lin 1 1 r s R L C
  simpa using h
/-- Two rows exchanged. -/
theorem det_swap (r s : Nat → Int) (L M R : List (Nat → Int)) (C : List Nat) : det (L ++ r :: (M ++ s :: R)) C = - det (L ++ s :: (M ++ r :: R)) C := by
  have h := det_same (fun c => r c + s c) M R L C
  rw [det_add r s (M ++ (fun c => r c + s c) :: R) L C] at h
  have e1 := det_add r s R (L ++ r :: M) C
  have e2 := det_add r s R (L ++ s :: M) C
  simp only [List.append_assoc, List.cons_append] at e1 e2
  rw [e1, e2, det_same, det_same] at h
  omega
/-- Where the row is 0, the column counts for nothing. -/
theorem ex_off (r : Nat → Int) : ∀ (cols : List Nat) (G : List Nat → Int), (∀ c ∈ cols, r c = 0) → ex r G cols = 0
  | [], _, _ => rfl
  | c :: cs, G, h => by
    simp only [ex]
    rw [ex_off r cs _ (fun x hx => h x (List.mem_cons_of_mem _ hx)), h c (List.mem_cons_self ..)]
    simp
theorem ex_cons_off (r : Nat → Int) (c : Nat) (cs : List Nat) (G : List Nat → Int) (h : ∀ x ∈ cs, r x = 0) : ex r G (c :: cs) = r c * G cs := by
  simp only [ex]
  rw [ex_off r cs _ h]
  simp
/-- If at each column the row or what is left is 0, the expansion is 0. -/
theorem ex_none (r : Nat → Int) : ∀ (cols : List Nat) (G : List Nat → Int), (∀ a c b, cols = a ++ c :: b → r c = 0 ∨ G (a ++ b) = 0) → ex r G cols = 0
  | [], _, _ => rfl
  | c :: cs, G, h => by
    simp only [ex]
    rw [ex_none r cs (fun ds => G (c :: ds)) (fun a x b e => h (c :: a) x b (by rw [e]; rfl))]
    rcases h [] c cs rfl with h | h
    · rw [h]; simp
    · rw [show G cs = 0 from h]; simp
/-- More rows than columns that count. -/
theorem det_wide (p : Nat → Bool) (R : List (Nat → Int)) : ∀ (L : List (Nat → Int)) (C : List Nat), (∀ r ∈ L, ∀ c ∈ C, p c = false → r c = 0) → (C.filter p).length < L.length → det (L ++ R) C = 0
  | [], C, _, h => absurd h (by simp)
  | l :: L, C, h0, h => by
    show ex l (det (L ++ R)) C = 0
    refine ex_none l C _ fun a c b e => ?_
    cases hp : p c with
    | false => exact .inl (h0 l (List.mem_cons_self ..) c (by rw [e]; simp) hp)
    | true =>
      refine .inr (det_wide p R L (a ++ b) (fun r hr x hx => h0 r (List.mem_cons_of_mem _ hr) x (by rw [e]; simp at hx ⊢; rcases hx with hx | hx <;> simp [hx])) ?_)
      rw [e] at h
      simp [List.filter_append, hp] at h ⊢
      omega
/-- The sum of absolute values. -/
def nabs (r : Nat → Int) (C : List Nat) : Nat := (C.map fun c => (r c).natAbs).sum
theorem nabs_sub (r : Nat → Int) {a C : List Nat} (h : a.Sublist C) : nabs r a ≤ nabs r C := by
  induction h with
  | slnil => exact Nat.le_refl _
  | cons x _ ih => simp only [nabs, List.map_cons, List.sum_cons] at ih ⊢; omega
  | cons_cons x _ ih => simp only [nabs, List.map_cons, List.sum_cons] at ih ⊢; omega
theorem ex_bound (r : Nat → Int) (B : Nat) : ∀ (cols : List Nat) (G : List Nat → Int), (∀ a c b, cols = a ++ c :: b → (G (a ++ b)).natAbs ≤ B) → (ex r G cols).natAbs ≤ nabs r cols * B
  | [], _, _ => by simp [ex]
  | c :: cs, G, h => by
    have h1 := ex_bound r B cs (fun ds => G (c :: ds)) (fun a x b e => h (c :: a) x b (by rw [e]; rfl))
    have h2 : (r c * G cs).natAbs ≤ (r c).natAbs * B := by rw [Int.natAbs_mul]; exact Nat.mul_le_mul_left _ (h [] c cs rfl)
    have h3 : nabs r (c :: cs) * B = (r c).natAbs * B + nabs r cs * B := by rw [← Nat.add_mul]; rfl
    simp only [ex]
    rw [h3]
    omega
/-- The product over the rows of the sums of absolute values, each at least 1. -/
def vol : List (Nat → Int) → List Nat → Nat
  | [], _ => 1
  | r :: R, C => max (nabs r C) 1 * vol R C
theorem vol_sub : ∀ (R : List (Nat → Int)) {a C : List Nat}, a.Sublist C → vol R a ≤ vol R C
  | [], _, _, _ => Nat.le_refl _
  | r :: R, _, _, h => Nat.mul_le_mul (by have := nabs_sub r h; omega) (vol_sub R h)
theorem det_bound : ∀ (R : List (Nat → Int)) (C : List Nat), (det R C).natAbs ≤ vol R C
  | [], _ => by simp [det, vol]
  | r :: R, C => by
    have h := ex_bound r (vol R C) C (det R) (fun a c b e => Nat.le_trans (det_bound R (a ++ b)) (vol_sub R (by rw [e]; exact (List.Sublist.refl a).append (List.sublist_cons_self c b))))
    exact Nat.le_trans h (Nat.mul_le_mul_right _ (Nat.le_max_left ..))
/-- The rows of a volume: leaving some out makes it no greater, and their order is of no matter. -/
theorem vol_perm {R S : List (Nat → Int)} (h : R.Perm S) (C : List Nat) : vol R C = vol S C := by
  induction h with
  | nil => rfl
  | cons x _ ih => simp only [vol]; rw [ih]
  | swap x y l => simp only [vol]; rw [Nat.mul_left_comm]
  | trans _ _ i1 i2 => exact i1.trans i2
theorem vol_sublist {R S : List (Nat → Int)} (h : R.Sublist S) (C : List Nat) : vol R C ≤ vol S C := by
  induction h with
  | slnil => exact Nat.le_refl _
  | cons x _ ih => simp only [vol]; exact Nat.le_trans ih (Nat.le_mul_of_pos_left _ (by omega))
  | cons_cons x _ ih => simp only [vol]; exact Nat.mul_le_mul_left _ ih

/-- The sum over all columns of T of a row times what F says of the column. -/
def mex (T : List Nat) : List (Nat → Int) → (List Nat → Int) → Int
  | [], F => F []
  | r :: R, F => (T.map fun t => r t * mex T R (fun ds => F (t :: ds))).sum
theorem sum_add' (T : List Nat) (f g : Nat → Int) : (T.map fun t => f t + g t).sum = (T.map f).sum + (T.map g).sum := by
  induction T with
  | nil => rfl
  | cons t T ih => simp only [List.map_cons, List.sum_cons]; omega
theorem sum_mul' (T : List Nat) (a : Int) (f : Nat → Int) : (T.map fun t => a * f t).sum = a * (T.map f).sum := by
  induction T with
  | nil => simp
  | cons t T ih => simp only [List.map_cons, List.sum_cons]; rw [ih, Int.mul_add]
theorem sum_zero' (T : List Nat) (f : Nat → Int) (h : ∀ t ∈ T, f t = 0) : (T.map f).sum = 0 := by
  induction T with
  | nil => rfl
  | cons t T ih => simp only [List.map_cons, List.sum_cons]; rw [h t (List.mem_cons_self ..), ih fun x hx => h x (List.mem_cons_of_mem _ hx)]; rfl
/-- What is asked of F: it is 0 at a column outside the list or at two equal ones, and an exchange of neighbours changes its sign. -/
structure Alt (F : List Nat → Int) : Prop where
  same : ∀ a t b c, F (a ++ t :: (b ++ t :: c)) = 0
  swap : ∀ a t u b, F (a ++ t :: u :: b) = - F (a ++ u :: t :: b)
theorem Alt.cons {F : List Nat → Int} (h : Alt F) (t : Nat) : Alt fun ds => F (t :: ds) :=
  ⟨fun a u b c => h.same (t :: a) u b c, fun a u v b => h.swap (t :: a) u v b⟩
theorem Alt.front {F : List Nat → Int} (h : Alt F) (t : Nat) (b : List Nat) : ∀ (a : List Nat), F (t :: (a ++ b)) = (if a.length % 2 = 0 then 1 else -1) * F (a ++ t :: b)
  | [] => by simp
  | x :: a => by
    have h1 := h.swap [] t x (a ++ b)
    have h2 := (h.cons x).front t b a
    simp only [List.nil_append] at h1
    simp only [List.cons_append, List.length_cons]
    rw [h1, h2]
    by_cases e : a.length % 2 = 0
    · rw [if_pos e, if_neg (by omega)]; simp
    · rw [if_neg e, if_pos (by omega)]; simp
/-- A sum over T of what is 0 outside a sublist. -/
theorem sum_sub {C T : List Nat} (h : C.Sublist T) (hn : T.Nodup) : ∀ (f : Nat → Int), (∀ t ∈ T, t ∉ C → f t = 0) → (T.map f).sum = (C.map f).sum := by
  induction h with
  | slnil => intro f _; rfl
  | @cons l₁ l₂ x hs ih =>
    intro f h0
    rw [List.nodup_cons] at hn
    have hx : x ∉ l₁ := fun hm => hn.1 (hs.subset hm)
    simp only [List.map_cons, List.sum_cons]
    rw [h0 x (List.mem_cons_self ..) hx, ih hn.2 f (fun t ht => h0 t (List.mem_cons_of_mem _ ht))]
    simp
  | @cons_cons l₁ l₂ x hs ih =>
    intro f h0
    rw [List.nodup_cons] at hn
    have hx1 : x ∉ l₁ := fun hm => hn.1 (hs.subset hm)
    simp only [List.map_cons, List.sum_cons]
    rw [ih hn.2 f (fun t ht hc => h0 t (List.mem_cons_of_mem _ ht) (fun hm => by
      rcases List.mem_cons.mp hm with e | hm
      · exact hn.1 (e ▸ ht)
      · exact hc hm))]
theorem sum_ex (r : Nat → Int) : ∀ (C : List Nat) (G : List Nat → Int) (g : Nat → Int), (∀ a t b, C = a ++ t :: b → g t = r t * ((if a.length % 2 = 0 then 1 else -1) * G (a ++ b))) → (C.map g).sum = ex r G C
  | [], _, _, _ => rfl
  | c :: cs, G, g, h => by
    have h1 := sum_ex r cs (fun ds => (-1) * G (c :: ds)) g (fun a t b e => by
      rw [h (c :: a) t b (by rw [e]; rfl)]
      simp only [List.cons_append, List.length_cons]
      by_cases e : a.length % 2 = 0
      · rw [if_pos e, if_neg (by omega)]; simp
      · rw [if_neg e, if_pos (by omega)]; simp)
    rw [ex_smul] at h1
    simp only [List.map_cons, List.sum_cons, ex]
    rw [h1, h [] c cs rfl]
    simp
    omega
theorem mex_zero (T : List Nat) : ∀ (R : List (Nat → Int)) (F : List Nat → Int), (∀ ds, F ds = 0) → mex T R F = 0
  | [], F, h => h []
  | r :: R, F, h => sum_zero' T _ fun t _ => by rw [mex_zero T R _ (fun ds => h (t :: ds))]; simp
theorem mex_add (T : List Nat) : ∀ (R : List (Nat → Int)) (F G : List Nat → Int), mex T R (fun ds => F ds + G ds) = mex T R F + mex T R G
  | [], _, _ => rfl
  | r :: R, F, G => by
    simp only [mex]
    rw [← sum_add']
    congr 1
    exact List.map_congr_left fun t _ => by rw [mex_add T R, Int.mul_add]
theorem mex_smul (T : List Nat) (a : Int) : ∀ (R : List (Nat → Int)) (F : List Nat → Int), mex T R (fun ds => a * F ds) = a * mex T R F
  | [], _ => rfl
  | r :: R, F => by
    simp only [mex]
    rw [← sum_mul']
    congr 1
    exact List.map_congr_left fun t _ => by rw [mex_smul T a R, Int.mul_left_comm]
/-- Whatever is linear in each row and changes its sign so is the determinant but for a factor. -/
theorem mex_det (T : List Nat) (hT : T.Nodup) : ∀ (R : List (Nat → Int)) (C : List Nat) (F : List Nat → Int), Alt F → C.Sublist T → R.length = C.length → (∀ a t b, t ∈ T → t ∉ C → F (a ++ t :: b) = 0) → mex T R F = det R C * F C
  | [], C, F, _, _, hl, _ => by
    obtain rfl : C = [] := by cases C with | nil => rfl | cons _ _ => cases hl
    simp [mex, det]
  | r :: R, C, F, hF, hs, hl, h0 => by
    show (T.map fun t => r t * mex T R (fun ds => F (t :: ds))).sum = ex r (det R) C * F C
    rw [sum_sub hs hT _ (fun t ht hc => by rw [mex_zero T R (fun ds => F (t :: ds)) (fun ds => h0 [] t ds ht hc)]; simp)]
    have e : ex r (det R) C * F C = ex r (fun ds => F C * det R ds) C := by rw [ex_smul, Int.mul_comm]
    rw [e]
    refine sum_ex r C _ _ fun a t b hC => ?_
    have hn : (a ++ t :: b).Nodup := by rw [← hC]; exact hT.sublist hs
    rw [mex_det T hT R (a ++ b) (fun ds => F (t :: ds)) (hF.cons t) ((by rw [hC]; exact (List.Sublist.refl a).append (List.sublist_cons_self t b) : (a ++ b).Sublist C).trans hs) (by rw [hC] at hl; simp at hl ⊢; omega)
      (fun a' u b' hu hc => by
        by_cases e : u = t
        · rw [e]
          have := hF.same [] t a' b'
          simpa using this
        · exact h0 (t :: a') u b' hu (fun hm => by rw [hC] at hm; simp at hm hc; rcases hm with hm | hm | hm <;> simp_all))]
    show r t * (det R (a ++ b) * F (t :: (a ++ b))) = _
    rw [hF.front t b a, ← hC]
    congr 1
    rw [Int.mul_left_comm, Int.mul_comm (det R (a ++ b))]
theorem ex_sum (T : List Nat) (a : Nat → Int) (B : Nat → Nat → Int) : ∀ (C : List Nat) (G : List Nat → Int), ex (fun c => (T.map fun t => a t * B t c).sum) G C = (T.map fun t => a t * ex (B t) G C).sum
  | [], G => by
    simp only [ex]
    rw [sum_zero' T _ (fun t _ => by simp)]
  | c :: cs, G => by
    simp only [ex]
    rw [ex_sum T a B cs, Int.mul_comm, ← sum_mul', show ∀ x y : Int, x - y = x + (-1) * y from fun x y => by omega, ← sum_mul', ← sum_add']
    congr 1
    exact List.map_congr_left fun t _ => by rw [Int.mul_sub, Int.mul_left_comm, Int.mul_comm (G cs)]; omega
theorem mex_ex (T : List Nat) (s : Nat → Int) (R : List (Nat → Int)) : ∀ (C : List Nat) (H : List Nat → List Nat → Int), mex T R (fun ts => ex s (H ts) C) = ex s (fun ds => mex T R (fun ts => H ts ds)) C
  | [], H => mex_zero T R _ fun _ => rfl
  | c :: cs, H => by
    simp only [ex]
    rw [← mex_ex T s R cs (fun ts ds => H ts (c :: ds)), ← mex_smul, show ∀ x y : Int, x - y = x + (-1) * y from fun x y => by omega, ← mex_smul, ← mex_add]
    congr 1
    funext ts
    omega
/-- A row times a matrix. -/
def rowMul (T : List Nat) (B : Nat → Nat → Int) (r : Nat → Int) : Nat → Int := fun c => (T.map fun t => r t * B t c).sum
theorem det_mex (T : List Nat) (B : Nat → Nat → Int) : ∀ (R : List (Nat → Int)) (C : List Nat), det (R.map (rowMul T B)) C = mex T R (fun ts => det (ts.map B) C)
  | [], C => rfl
  | r :: R, C => by
    show ex (rowMul T B r) (det (R.map (rowMul T B))) C = (T.map fun t => r t * mex T R (fun ds => det ((t :: ds).map B) C)).sum
    rw [show det (R.map (rowMul T B)) = fun ds => mex T R (fun ts => det (ts.map B) ds) from funext fun ds => det_mex T B R ds]
    show ex (fun c => (T.map fun t => r t * B t c).sum) _ C = _
    rw [ex_sum]
    congr 1
    refine List.map_congr_left fun t _ => ?_
    congr 1
    exact (mex_ex T (B t) R C (fun ts ds => det (ts.map B) ds)).symm
/-- The determinant of a product. -/
theorem det_mul (T : List Nat) (hT : T.Nodup) (B : Nat → Nat → Int) (R : List (Nat → Int)) (C : List Nat) (hl : R.length = T.length) : det (R.map (rowMul T B)) C = det R T * det (T.map B) C := by
  rw [det_mex]
  refine mex_det T hT R T _ ⟨fun a t b c => ?_, fun a t u b => ?_⟩ (List.Sublist.refl T) hl (fun a t b h1 h2 => absurd h1 h2)
  · simp only [List.map_append, List.map_cons]
    exact det_same (B t) _ _ _ C
  · simp only [List.map_append, List.map_cons]
    exact det_swap (B t) (B u) _ [] _ C

def RC : Nat → List Nat
  | 0 => []
  | k + 1 => k :: RC k
theorem RC_mem {k x : Nat} : x ∈ RC k ↔ x < k := by
  induction k with
  | zero => simp [RC]
  | succ k ih => simp only [RC, List.mem_cons, ih]; omega
theorem RC_nodup (k : Nat) : (RC k).Nodup := by
  induction k with
  | zero => exact List.nodup_nil
  | succ k ih => exact List.nodup_cons.mpr ⟨by rw [RC_mem]; omega, ih⟩
theorem RC_le {k n : Nat} (h : k ≤ n) : (RC k).Sublist (RC n) := by
  induction h with
  | refl => exact List.Sublist.refl _
  | step _ ih => exact ih.cons _
theorem RC_cons {k n x : Nat} (h1 : k ≤ x) (h2 : x < n) : (x :: RC k).Sublist (RC n) :=
  ((RC_le h1).cons_cons x).trans (RC_le (by omega) : (RC (x + 1)).Sublist (RC n))
def RR (A : Nat → Nat → Int) (k : Nat) : List (Nat → Int) := (RC k).map A
def cutv (k : Nat) (f : Nat → Int) : Nat → Int := fun c => if c < k then 0 else f c
/-- The elimination without fractions before its round k: A has the rows as they stand, W the entries reached, p the last pivot. -/
structure Bar (n k : Nat) (A W : Nat → Nat → Int) (p : Int) : Prop where
  hp : p = det (RR A k) (RC k)
  h0 : p ≠ 0
  H : ∀ a, k ≤ a → a < n → ∀ L M C, det (L ++ cutv k (W a) :: (M ++ RR A k)) C = p * det (L ++ A a :: (M ++ RR A k)) C
def Dm (A : Nat → Nat → Int) (k a x : Nat) : Int := det (A a :: RR A k) (x :: RC k)
theorem Bar.start (n : Nat) (A : Nat → Nat → Int) : Bar n 0 A A 1 :=
  ⟨rfl, by decide, fun a _ _ L M C => by rw [show cutv 0 (A a) = A a from funext fun c => by simp [cutv]]; simp⟩
theorem det_cut (k : Nat) (f : Nat → Int) (R : List (Nat → Int)) (x : Nat) (h : k ≤ x) : det (cutv k f :: R) (x :: RC k) = f x * det R (RC k) := by
  show ex (cutv k f) (det R) (x :: RC k) = _
  rw [ex_cons_off _ _ _ _ (fun c hc => by rw [RC_mem] at hc; simp [cutv, hc])]
  rw [show cutv k f x = f x from if_neg (by omega)]
theorem Bar.entry {n k : Nat} {A W : Nat → Nat → Int} {p : Int} (B : Bar n k A W p) {a x : Nat} (h1 : k ≤ a) (h2 : a < n) (h3 : k ≤ x) : W a x = Dm A k a x := by
  have h := B.H a h1 h2 [] [] (x :: RC k)
  simp only [List.nil_append] at h
  rw [det_cut k (W a) _ x h3, ← B.hp, Int.mul_comm] at h
  exact Int.eq_of_mul_eq_mul_left B.h0 h
theorem Bar.pivot {n k : Nat} {A W : Nat → Nat → Int} {p : Int} (B : Bar n k A W p) (hk : k < n) : W k k = det (RR A (k + 1)) (RC (k + 1)) := B.entry (Nat.le_refl k) hk (Nat.le_refl k)
theorem Bar.bound {n k : Nat} {A W : Nat → Nat → Int} {p : Int} (B : Bar n k A W p) {a x : Nat} (h1 : k ≤ a) (h2 : a < n) (h3 : k ≤ x) (h4 : x < n) : (W a x).natAbs ≤ vol (RR A n) (RC n) := by
  rw [B.entry h1 h2 h3]
  refine Nat.le_trans (det_bound _ _) (Nat.le_trans (vol_sub _ (RC_cons h3 h4)) (vol_sublist ?_ _))
  exact (RC_cons h1 h2).map A
/-- One round: the division leaves no rest, and what it gives is a minor. -/
theorem Bar.exact {n k : Nat} {A W : Nat → Nat → Int} {p : Int} (B : Bar n k A W p) (hk : k < n) (hz : W k k ≠ 0) {a x : Nat} (h1 : k < a) (h2 : a < n) (h3 : k < x) :
    W a x * W k k - W a k * W k x = p * Dm A (k + 1) a x := by
  obtain ⟨w, hw⟩ : ∃ w : Nat → Int, w = fun c => W k k * cutv k (W a) c + (- W a k) * cutv k (W k) c := ⟨_, rfl⟩
  have hw0 : ∀ c ∈ RC (k + 1), w c = 0 := by
    intro c hc
    rw [RC_mem] at hc
    rw [hw]
    show W k k * cutv k (W a) c + (- W a k) * cutv k (W k) c = 0
    by_cases e : c < k
    · simp [cutv, e]
    · obtain rfl : c = k := by omega
      simp only [cutv, Nat.lt_irrefl, if_false]
      rw [Int.neg_mul, Int.mul_comm (W a c)]
      omega
  have h := det_lin (W k k) (- W a k) (cutv k (W a)) (cutv k (W k)) (RR A (k + 1)) [] (x :: RC (k + 1))
  rw [← hw] at h
  simp only [List.nil_append] at h
  have e1 := B.H a (by omega) h2 [] [A k] (x :: RC (k + 1))
  have e2 := B.H k (Nat.le_refl k) hk [] [A k] (x :: RC (k + 1))
  simp only [List.nil_append] at e1 e2
  rw [show A k :: ([A k] ++ RR A k) = A k :: ([] ++ A k :: RR A k) from rfl, det_same0] at e2
  change det (cutv k (W a) :: RR A (k + 1)) (x :: RC (k + 1)) = p * Dm A (k + 1) a x at e1
  change det (cutv k (W k) :: RR A (k + 1)) (x :: RC (k + 1)) = p * 0 at e2
  rw [e1, e2] at h
  change ex w (det (RR A (k + 1))) (x :: RC (k + 1)) = _ at h
  rw [ex_cons_off w x _ _ hw0, ← B.pivot hk, Int.mul_comm] at h
  have h5 : W k k * w x = W k k * (p * Dm A (k + 1) a x) := by rw [h]; simp
  have h6 := Int.eq_of_mul_eq_mul_left hz h5
  rw [← h6, hw]
  simp only [cutv]
  rw [if_neg (by omega), if_neg (by omega), Int.neg_mul, Int.mul_comm (W k k)]
  omega
theorem Bar.step {n k : Nat} {A W : Nat → Nat → Int} {p : Int} (B : Bar n k A W p) (hk : k < n) (hz : W k k ≠ 0) (W' : Nat → Nat → Int) (hW : ∀ a, k < a → a < n → ∀ x, k < x → W' a x = Dm A (k + 1) a x) : Bar n (k + 1) A W' (W k k) := by
  refine ⟨B.pivot hk, hz, fun a h1 h2 L M C => ?_⟩
  have hw : (fun c => W k k * cutv k (W a) c + (- W a k) * cutv k (W k) c) = fun c => p * cutv (k + 1) (W' a) c + 0 * A k c := by
    funext c
    by_cases e : c < k
    · simp [cutv, e, show c < k + 1 by omega]
    · by_cases e2 : c = k
      · subst e2
        simp only [cutv, Nat.lt_irrefl, if_false, Nat.lt_succ_self, if_true]
        rw [Int.neg_mul, Int.mul_comm (W a c)]
        simp
        omega
      · have h := B.exact hk hz (a := a) (x := c) h1 h2 (by omega)
        simp only [cutv]
        rw [if_neg e, if_neg e, if_neg (by omega), hW a h1 h2 c (by omega), ← h, Int.neg_mul, Int.mul_comm (W k k)]
        omega
  have h := det_lin (W k k) (- W a k) (cutv k (W a)) (cutv k (W k)) (M ++ RR A (k + 1)) L C
  rw [hw, det_lin] at h
  have e1 := B.H a (by omega) h2 L (M ++ [A k]) C
  have e2 := B.H k (Nat.le_refl k) hk L (M ++ [A k]) C
  simp only [List.append_assoc] at e1 e2
  change det (L ++ cutv k (W a) :: (M ++ RR A (k + 1))) C = p * det (L ++ A a :: (M ++ RR A (k + 1))) C at e1
  change det (L ++ cutv k (W k) :: (M ++ RR A (k + 1))) C = p * det (L ++ A k :: (M ++ A k :: RR A k)) C at e2
  rw [det_same] at e2
  rw [e1, e2] at h
  refine Int.eq_of_mul_eq_mul_left B.h0 ?_
  rw [Int.mul_left_comm]
  simpa using h
/-- No pivot. -/
theorem Bar.none {n k : Nat} {A W : Nat → Nat → Int} {p : Int} (B : Bar n k A W p) (hk : k < n) (hz : ∀ a, k ≤ a → a < n → W a k = 0) : det (RR A n) (RC n) = 0 := by
  -- the rows from m down to k (without m), replaced
  have key : ∀ (d : Nat) (m : Nat), m = k + d → m ≤ n → ∀ (L : List (Nat → Int)) (C : List Nat), ∃ s : Int, s ≠ 0 ∧ s * det (L ++ RR A m) C = det (L ++ ((RC m).filter (fun a => decide (k ≤ a))).map (fun a => cutv k (W a)) ++ RR A k) C := by
    intro d
    induction d with
    | zero =>
      intro m hm _ L C
      obtain rfl : m = k := hm
      refine ⟨1, by decide, ?_⟩
      rw [List.filter_eq_nil_iff.mpr (fun a ha => by rw [RC_mem] at ha; simp; omega)]
      simp
    | succ d ih =>
      intro m hm hn L C
      obtain ⟨m, rfl⟩ : ∃ q, m = q + 1 := ⟨k + d, by omega⟩
      obtain ⟨s, hs, h⟩ := ih m (by omega) (by omega) (L ++ [cutv k (W m)]) C
      have hA : RR A (m + 1) = A m :: RR A m := rfl
      have hsplit : ∃ M, RR A m = M ++ RR A k := by
        have : ∀ q, k ≤ q → ∃ M, RR A q = M ++ RR A k := by
          intro q hq
          induction hq with
          | refl => exact ⟨[], rfl⟩
          | step _ ih => obtain ⟨M, e⟩ := ih; exact ⟨_ :: M, by rw [show RR A (_ + 1) = _ :: RR A _ from rfl, e]; rfl⟩
        exact this m (by omega)
      obtain ⟨M, hM⟩ := hsplit
      have hH := B.H m (by omega) (by omega) L M C
      rw [← hM] at hH
      refine ⟨s * p, Int.mul_ne_zero hs B.h0, ?_⟩
      rw [hA, Int.mul_assoc, ← hH]
      rw [show L ++ [cutv k (W m)] ++ RR A m = L ++ cutv k (W m) :: RR A m by simp] at h
      rw [h]
      rw [show RC (m + 1) = m :: RC m from rfl, List.filter_cons_of_pos (by simp; omega)]
      simp
  obtain ⟨s, hs, h⟩ := key (n - k) n (by omega) (Nat.le_refl n) [] (RC n)
  simp only [List.nil_append] at h
  rw [det_wide (fun c => decide (k < c)) (RR A k)] at h
  · rcases Int.mul_eq_zero.mp h with h | h
    · exact absurd h hs
    · exact h
  · intro r hr c _ hc
    simp only [List.mem_map, List.mem_filter, RC_mem, decide_eq_true_eq] at hr
    obtain ⟨a, ⟨h1, h2⟩, rfl⟩ := hr
    simp only [decide_eq_false_iff_not] at hc
    by_cases e : c < k
    · simp [cutv, e]
    · obtain rfl : c = k := by omega
      simp only [cutv, Nat.lt_irrefl, if_false]
      exact hz a h2 h1
  · rw [List.length_map]
    have cnt : ∀ m, ((RC m).filter (fun c => decide (k < c))).length = m - (k + 1) ∧ ((RC m).filter (fun a => decide (k ≤ a))).length = m - k := by
      intro m
      induction m with
      | zero => exact ⟨by simp [RC], by simp [RC]⟩
      | succ m ih =>
        rw [show RC (m + 1) = m :: RC m from rfl, List.filter_cons, List.filter_cons]
        refine ⟨?_, ?_⟩
        · by_cases e : k < m
          · rw [if_pos (by simpa using e), List.length_cons, ih.1]; omega
          · rw [if_neg (by simpa using e), ih.1]; omega
        · by_cases e : k ≤ m
          · rw [if_pos (by simpa using e), List.length_cons, ih.2]; omega
          · rw [if_neg (by simpa using e), ih.2]; omega
    rw [(cnt n).1, (cnt n).2]
    omega
/-- Two rows exchanged. -/
def sw (i j : Nat) (A : Nat → Nat → Int) : Nat → Nat → Int := fun a => if a = i then A j else if a = j then A i else A a
theorem RR_sw (i j : Nat) (A : Nat → Nat → Int) (k : Nat) (h1 : k ≤ i) (h2 : k ≤ j) : RR (sw i j A) k = RR A k := by
  unfold RR
  refine List.map_congr_left fun a ha => ?_
  rw [RC_mem] at ha
  simp [sw, show a ≠ i by omega, show a ≠ j by omega]
theorem Bar.swap {n k q : Nat} {A W : Nat → Nat → Int} {p : Int} (B : Bar n k A W p) (hk : k < n) (h1 : k ≤ q) (h2 : q < n) : Bar n k (sw k q A) (sw k q W) p := by
  refine ⟨by rw [RR_sw k q A k (Nat.le_refl k) h1]; exact B.hp, B.h0, fun a ha hn L M C => ?_⟩
  rw [RR_sw k q A k (Nat.le_refl k) h1]
  simp only [sw]
  by_cases e : a = k
  · rw [if_pos e, if_pos e]; exact B.H q h1 h2 L M C
  · rw [if_neg e, if_neg e]
    by_cases e2 : a = q
    · rw [if_pos e2, if_pos e2]; exact B.H k (Nat.le_refl k) hk L M C
    · rw [if_neg e2, if_neg e2]; exact B.H a ha hn L M C
theorem RR_two (A : Nat → Nat → Int) (k q n : Nat) (h1 : k < q) (h2 : q < n) : ∃ L M R : List Nat, RC n = L ++ q :: (M ++ k :: R) ∧ ∀ x, x ∈ L ∨ x ∈ M ∨ x ∈ R → x ≠ k ∧ x ≠ q := by
  have s1 : k ∈ RC q := by rw [RC_mem]; exact h1
  have s2 : ∀ m, q < m → ∃ L, RC m = L ++ q :: RC q ∧ ∀ x ∈ L, q < x := by
    intro m hm
    induction hm with
    | refl => exact ⟨[], rfl, fun x hx => by cases hx⟩
    | step hm ih =>
      obtain ⟨L, e, hL⟩ := ih
      refine ⟨_ :: L, by rw [show RC (_ + 1) = _ :: RC _ from rfl, e]; rfl, fun x hx => ?_⟩
      rcases List.mem_cons.mp hx with e | hx
      · rw [e]; exact hm
      · exact hL x hx
  obtain ⟨L, e, hL⟩ := s2 n h2
  obtain ⟨M, R, e2⟩ := List.append_of_mem s1
  have hn := RC_nodup q
  rw [e2] at hn
  have hlt : ∀ x, x ∈ M ++ k :: R → x < q := fun x hx => by rw [← e2, RC_mem] at hx; exact hx
  refine ⟨L, M, R, by rw [e, e2], fun x hx => ?_⟩
  rw [List.nodup_append] at hn
  obtain ⟨_, n2, n3⟩ := hn
  rcases hx with hx | hx | hx
  · have := hL x hx; omega
  · have := hlt x (by simp [hx]); have := n3 x hx k (by simp); omega
  · have h3 := hlt x (by simp [hx])
    rw [List.nodup_cons] at n2
    exact ⟨fun e => n2.1 (e ▸ hx), by omega⟩
theorem sw_det (A : Nat → Nat → Int) (k q n : Nat) (h1 : k < q) (h2 : q < n) (C : List Nat) : det (RR (sw k q A) n) C = - det (RR A n) C ∧ vol (RR (sw k q A) n) C = vol (RR A n) C := by
  obtain ⟨L, M, R, e, h⟩ := RR_two A k q n h1 h2
  unfold RR
  rw [e]
  have hc : ∀ S : List Nat, (∀ x ∈ S, x ≠ k ∧ x ≠ q) → S.map (sw k q A) = S.map A := fun S hS => List.map_congr_left fun a ha => by simp [sw, hS a ha]
  simp only [List.map_append, List.map_cons]
  rw [hc L (fun x hx => h x (.inl hx)), hc M (fun x hx => h x (.inr (.inl hx))), hc R (fun x hx => h x (.inr (.inr hx)))]
  rw [show sw k q A k = A q by simp [sw], show sw k q A q = A k by simp [sw, show q ≠ k by omega]]
  refine ⟨det_swap _ _ _ _ _ C, vol_perm ?_ C⟩
  refine List.Perm.append_left _ ?_
  refine (List.perm_middle (l₁ := A k :: M.map A)).trans ?_
  simp only [List.cons_append]
  refine List.Perm.cons _ ?_
  exact List.perm_middle.symm

theorem w64 (x : Int) (h0 : -9223372036854775808 ≤ x) (h1 : x ≤ 9223372036854775807) : wrap64 x = x := by
  unfold wrap64
  omega
theorem w64n (n : Nat) (h : n ≤ 9223372036854775807) : wrap64 (n : Int) = (n : Int) := w64 _ (by omega) (by omega)
theorem rd_nat (l : List Int) (i : Nat) (h : i < l.length) : rd l (i : Int) = l[i] := by
  simp [rd, List.getD, List.getElem?_eq_getElem h]
theorem succ_k {k n : Nat} (h : n < k) : ∃ m, k = m + 1 := ⟨k - 1, by omega⟩
theorem cast_succ (i : Nat) : ((i : Int) + 1) = ((i + 1 : Nat) : Int) := by omega
theorem drop_rd (l : List Int) (k : Nat) (h : k < l.length) : l.drop k = rd l (k : Int) :: l.drop (k + 1) := by
  rw [List.drop_eq_getElem_cons h, rd_nat l k h]

theorem idx_lt {r c i j : Nat} (hi : i < r) (hj : j < c) : i * c + j < r * c := by
  have h := Nat.mul_le_mul_right c (show i + 1 ≤ r by omega)
  rw [Nat.succ_mul] at h
  omega

theorem idx_inj {n i j a x : Nat} (hj : j < n) (hx : x < n) (h : i * n + j = a * n + x) : i = a ∧ j = x := by
  have e1 : (i * n + j) / n = i := by rw [Nat.mul_comm, Nat.mul_add_div (by omega), Nat.div_eq_of_lt hj, Nat.add_zero]
  have e2 : (a * n + x) / n = a := by rw [Nat.mul_comm, Nat.mul_add_div (by omega), Nat.div_eq_of_lt hx, Nat.add_zero]
  have e : i = a := by rw [← e1, ← e2, h]
  subst e
  exact ⟨rfl, by omega⟩

theorem rd_set_idx (n : Nat) (l : List Int) (hl : l.length = n * n) (i j a x : Nat) (hi : i < n) (hj : j < n) (hx : x < n) (v : Int) : rd (l.set (i * n + j) v) ((a * n + x : Nat) : Int) = if a = i ∧ x = j then v else rd l ((a * n + x : Nat) : Int) := by
  unfold rd
  rw [Int.toNat_natCast, List.getD_eq_getElem?_getD, List.getD_eq_getElem?_getD]
  have hlt := idx_lt hi hj
  by_cases h : i * n + j = a * n + x
  · obtain ⟨e1, e2⟩ := idx_inj hj hx h
    rw [if_pos ⟨e1.symm, e2.symm⟩, ← h, List.getElem?_set_self (by omega)]
    rfl
  · rw [if_neg (fun e => h (by rw [e.1, e.2])), List.getElem?_set_ne h]
/-- The state before round k: the entries from row and column k on are the minors. -/
structure St (n k : Nat) (A : Nat → Nat → Int) (l : List Int) (p : Int) : Prop where
  B : Bar n k A (Dm A k) p
  len : l.length = n * n
  cell : ∀ a x, k ≤ a → a < n → k ≤ x → x < n → rd l ((a * n + x : Nat) : Int) = Dm A k a x
def Inv4 (n k : Nat) (A : Nat → Nat → Int) (i j : Nat) (l : List Int) : Prop :=
  l.length = n * n ∧ ∀ a x, k ≤ a → a < n → k ≤ x → x < n → rd l ((a * n + x : Nat) : Int) = if k < a ∧ k < x ∧ (a < i ∨ (a = i ∧ x < j)) then Dm A (k + 1) a x else Dm A k a x
theorem Inv4.start {n k : Nat} {A : Nat → Nat → Int} {l : List Int} {p : Int} (S : St n k A l p) : Inv4 n k A (k + 1) (k + 1) l :=
  ⟨S.len, fun a x h1 h2 h3 h4 => by rw [if_neg (by omega)]; exact S.cell a x h1 h2 h3 h4⟩
theorem Inv4.row {n k : Nat} {A : Nat → Nat → Int} {i : Nat} {l : List Int} (h : Inv4 n k A i n l) : Inv4 n k A (i + 1) (k + 1) l :=
  ⟨h.1, fun a x h1 h2 h3 h4 => by
    rw [h.2 a x h1 h2 h3 h4]
    by_cases c : k < a ∧ k < x ∧ (a < i ∨ (a = i ∧ x < n))
    · rw [if_pos c, if_pos (by omega)]
    · rw [if_neg c, if_neg (by omega)]⟩
theorem prod_le {x y : Int} {B : Nat} (hx : x.natAbs ≤ B) (hy : y.natAbs ≤ B) : (x * y).natAbs ≤ B * B := by
  rw [Int.natAbs_mul]
  exact Nat.mul_le_mul hx hy
/-- The new entry: nothing overflows, and the division leaves no rest. -/
theorem new_entry {w x y z p D : Int} (hw : w.natAbs ≤ 1000000000) (hx : x.natAbs ≤ 1000000000) (hy : y.natAbs ≤ 1000000000) (hz : z.natAbs ≤ 1000000000) (hD : D.natAbs ≤ 1000000000) (hp : p ≠ 0) (h : w * x - y * z = p * D) :
    wrap64 (Int.tdiv (wrap64 (wrap64 (w * x) - wrap64 (y * z))) p) = D := by
  have h1 := prod_le hw hx
  have h2 := prod_le hy hz
  rw [w64 (w * x) (by omega) (by omega), w64 (y * z) (by omega) (by omega), w64 (w * x - y * z) (by omega) (by omega), h, Int.mul_tdiv_cancel_left _ hp, w64 D (by omega) (by omega)]
theorem Inv4.step {n k : Nat} {A : Nat → Nat → Int} {p : Int} (B : Bar n k A (Dm A k) p) (hk : k < n) (hz : Dm A k k k ≠ 0) (hV : vol (RR A n) (RC n) ≤ 1000000000) {i j : Nat} {l : List Int} (h : Inv4 n k A i j l) (hi : k < i) (hi2 : i < n) (hj : k < j) (hj2 : j < n) :
    ∃ v, Inv4 n k A i (j + 1) (l.set (i * n + j) v) ∧ wrap64 (Int.tdiv (wrap64 (wrap64 (rd l ((i * n + j : Nat) : Int) * rd l ((k * n + k : Nat) : Int)) - wrap64 (rd l ((i * n + k : Nat) : Int) * rd l ((k * n + j : Nat) : Int)))) p) = v := by
  have bd := fun a x h1 h2 h3 h4 => Nat.le_trans (B.bound (a := a) (x := x) h1 h2 h3 h4) hV
  have hs := B.step hk hz (Dm A (k + 1)) (fun _ _ _ _ _ => rfl)
  have bd2 := Nat.le_trans (hs.bound (a := i) (x := j) hi hi2 hj hj2) hV
  refine ⟨Dm A (k + 1) i j, ⟨by rw [List.length_set]; exact h.1, fun a x h1 h2 h3 h4 => ?_⟩, ?_⟩
  · rw [rd_set_idx n l h.1 i j a x hi2 hj2 h4]
    by_cases e : a = i ∧ x = j
    · rw [if_pos e, if_pos (by omega), e.1, e.2]
    · rw [if_neg e, h.2 a x h1 h2 h3 h4]
      by_cases c : k < a ∧ k < x ∧ (a < i ∨ (a = i ∧ x < j))
      · rw [if_pos c, if_pos (by omega)]
      · rw [if_neg c, if_neg (by omega)]
  · rw [h.2 i j (by omega) hi2 (by omega) hj2, h.2 k k (by omega) hk (by omega) hk, h.2 i k (by omega) hi2 (by omega) hk, h.2 k j (by omega) hk (by omega) hj2]
    rw [if_neg (by omega), if_neg (by omega), if_neg (by omega), if_neg (by omega)]
    exact new_entry (bd i j (by omega) hi2 (by omega) hj2) (bd k k (by omega) hk (by omega) hk) (bd i k (by omega) hi2 (by omega) hk) (bd k j (by omega) hk (by omega) hj2) bd2 B.h0 (B.exact hk hz hi hi2 hj)
theorem Inv4.done {n k : Nat} {A : Nat → Nat → Int} {p : Int} (B : Bar n k A (Dm A k) p) (hk : k < n) (hz : Dm A k k k ≠ 0) {l : List Int} (h : Inv4 n k A n (k + 1) l) : St n (k + 1) A l (Dm A k k k) :=
  ⟨B.step hk hz (Dm A (k + 1)) (fun _ _ _ _ _ => rfl), h.1, fun a x h1 h2 h3 h4 => by rw [h.2 a x (by omega) h2 (by omega) h4, if_pos (by omega)]⟩
theorem Inv4.diag {n k : Nat} {A : Nat → Nat → Int} {i j : Nat} {l : List Int} (h : Inv4 n k A i j l) (hk : k < n) : rd l ((k * n + k : Nat) : Int) = Dm A k k k := by
  rw [h.2 k k (by omega) hk (by omega) hk, if_neg (by omega)]
theorem Dm_sw (A : Nat → Nat → Int) (k q : Nat) (h : k ≤ q) : Dm (sw k q A) k = sw k q (Dm A k) := by
  funext a x
  unfold Dm
  rw [RR_sw k q A k (Nat.le_refl k) h]
  simp only [sw]
  by_cases e : a = k
  · rw [if_pos e, if_pos e]
  · rw [if_neg e, if_neg e]
    by_cases e2 : a = q
    · rw [if_pos e2, if_pos e2]
    · rw [if_neg e2, if_neg e2]
def swn (k q a : Nat) : Nat := if a = k then q else if a = q then k else a
theorem St.swap {n k q : Nat} {A : Nat → Nat → Int} {l l' : List Int} {p : Int} (S : St n k A l p) (hk : k < n) (h1 : k ≤ q) (h2 : q < n) (hl : l'.length = n * n) (h : ∀ a x, a < n → x < n → rd l' ((a * n + x : Nat) : Int) = rd l ((swn k q a * n + x : Nat) : Int)) : St n k (sw k q A) l' p := by
  refine ⟨by rw [Dm_sw A k q h1]; exact S.B.swap hk h1 h2, hl, fun a x ha hn hx hxn => ?_⟩
  rw [h a x hn hxn, Dm_sw A k q h1]
  simp only [sw, swn]
  by_cases e : a = k
  · rw [if_pos e, if_pos e]; exact S.cell q x h1 h2 hx hxn
  · rw [if_neg e, if_neg e]
    by_cases e2 : a = q
    · rw [if_pos e2, if_pos e2]; exact S.cell k x (Nat.le_refl k) hk hx hxn
    · rw [if_neg e2, if_neg e2]; exact S.cell a x ha hn hx hxn
/-- The rows k and q exchanged in the columns before j. -/
def SwJ (n k q j : Nat) (l0 l : List Int) : Prop := l.length = n * n ∧ ∀ a x, a < n → x < n → rd l ((a * n + x : Nat) : Int) = if x < j then rd l0 ((swn k q a * n + x : Nat) : Int) else rd l0 ((a * n + x : Nat) : Int)
theorem SwJ.start {n k q : Nat} {l : List Int} (h : l.length = n * n) : SwJ n k q 0 l l := ⟨h, fun a x _ _ => by rw [if_neg (by omega)]⟩
theorem SwJ.step {n k q j : Nat} {l0 l : List Int} (h : SwJ n k q j l0 l) (hk : k < n) (hq : q < n) (hkq : k ≠ q) (hj : j < n) :
    SwJ n k q (j + 1) l0 ((l.set (k * n + j) (rd l ((q * n + j : Nat) : Int))).set (q * n + j) (rd l ((k * n + j : Nat) : Int))) := by
  refine ⟨by rw [List.length_set, List.length_set]; exact h.1, fun a x ha hx => ?_⟩
  have hq1 : rd l ((q * n + j : Nat) : Int) = rd l0 ((q * n + j : Nat) : Int) := by rw [h.2 q j hq hj, if_neg (by omega)]
  have hk1 : rd l ((k * n + j : Nat) : Int) = rd l0 ((k * n + j : Nat) : Int) := by rw [h.2 k j hk hj, if_neg (by omega)]
  rw [rd_set_idx n _ (by rw [List.length_set]; exact h.1) q j a x hq hj hx, rd_set_idx n l h.1 k j a x hk hj hx, hq1, hk1, h.2 a x ha hx]
  have s1 : swn k q q = k := by simp [swn, Ne.symm hkq]
  have s2 : swn k q k = q := by simp [swn]
  by_cases e : x = j
  · rw [e]
    by_cases e1 : a = q
    · rw [e1, s1, if_pos ⟨rfl, rfl⟩, if_pos (by omega)]
    · by_cases e2 : a = k
      · rw [e2, s2, if_neg (fun c => hkq c.1), if_pos ⟨rfl, rfl⟩, if_pos (by omega)]
      · have s3 : swn k q a = a := by simp [swn, e1, e2]
        rw [s3, if_neg (fun c => e1 c.1), if_neg (fun c => e2 c.1), if_neg (by omega), if_pos (by omega)]
  · rw [if_neg (fun c => e c.2), if_neg (fun c => e c.2)]
    by_cases c : x < j
    · rw [if_pos c, if_pos (by omega)]
    · rw [if_neg c, if_neg (by omega)]
/-- The determinant of a square list of entries. -/
def detL (n : Nat) (l : List Int) : Int := det (RR (fun a c => rd l ((a * n + c : Nat) : Int)) n) (RC n)
def volL (n : Nat) (l : List Int) : Nat := vol (RR (fun a c => rd l ((a * n + c : Nat) : Int)) n) (RC n)
theorem St.first (n : Nat) (l : List Int) (h : l.length = n * n) : St n 0 (fun a c => rd l ((a * n + c : Nat) : Int)) l 1 := by
  have e : Dm (fun a c => rd l ((a * n + c : Nat) : Int)) 0 = fun a c => rd l ((a * n + c : Nat) : Int) := by
    funext a c
    simp [Dm, RR, RC, det, ex]
  refine ⟨by rw [e]; exact Bar.start n _, h, fun a x _ _ _ _ => by rw [e]⟩

/-- The sum of the parts of an entry of a product, from m on. -/
def sumS (M C : Nat) (A B : List Int) (i j : Nat) : Nat → Nat → Int
  | 0, _ => 0
  | d + 1, m => rd A ((i * M + m : Nat) : Int) * rd B ((m * C + j : Nat) : Int) + sumS M C A B i j d (m + 1)
def absS (M C : Nat) (A B : List Int) (i j : Nat) : Nat → Nat → Nat
  | 0, _ => 0
  | d + 1, m => (rd A ((i * M + m : Nat) : Int) * rd B ((m * C + j : Nat) : Int)).natAbs + absS M C A B i j d (m + 1)
theorem sumS_snoc (M C : Nat) (A B : List Int) (i j : Nat) : ∀ (d m : Nat), sumS M C A B i j (d + 1) m = rd A ((i * M + (m + d) : Nat) : Int) * rd B (((m + d) * C + j : Nat) : Int) + sumS M C A B i j d m
  | 0, m => by simp [sumS]
  | d + 1, m => by
    rw [sumS, sumS_snoc M C A B i j d (m + 1), sumS, show m + 1 + d = m + (d + 1) by omega]
    omega
theorem sumS_le (M C : Nat) (A B : List Int) (i j : Nat) : ∀ (d m : Nat), (sumS M C A B i j d m).natAbs ≤ absS M C A B i j d m
  | 0, _ => Nat.le_refl _
  | d + 1, m => by
    have h := sumS_le M C A B i j d (m + 1)
    rw [sumS, absS]
    omega

theorem ex_congr (r s : Nat → Int) : ∀ (C : List Nat) (G H : List Nat → Int), (∀ c ∈ C, r c = s c) → (∀ a c b, C = a ++ c :: b → G (a ++ b) = H (a ++ b)) → ex r G C = ex s H C
  | [], _, _, _, _ => rfl
  | c :: cs, G, H, h1, h2 => by
    simp only [ex]
    rw [h1 c (List.mem_cons_self ..), show G cs = H cs from h2 [] c cs rfl, ex_congr r s cs (fun ds => G (c :: ds)) (fun ds => H (c :: ds)) (fun x hx => h1 x (List.mem_cons_of_mem _ hx)) (fun a x b e => h2 (c :: a) x b (by rw [e]; rfl))]
theorem det_congr (f g : Nat → Nat → Int) : ∀ (is C : List Nat), (∀ i ∈ is, ∀ c ∈ C, f i c = g i c) → det (is.map f) C = det (is.map g) C
  | [], _, _ => rfl
  | i :: is, C, h => by
    show ex (f i) (det (is.map f)) C = ex (g i) (det (is.map g)) C
    refine ex_congr _ _ C _ _ (h i (List.mem_cons_self ..)) fun a c b e => ?_
    refine det_congr f g is (a ++ b) fun j hj x hx => h j (List.mem_cons_of_mem _ hj) x ?_
    rw [e]
    rcases List.mem_append.mp hx with hx | hx
    · exact List.mem_append_left _ hx
    · exact List.mem_append_right _ (List.mem_cons_of_mem _ hx)
theorem sumS_eq (M C : Nat) (A B : List Int) (i j : Nat) : ∀ d, sumS M C A B i j d 0 = ((RC d).map fun t => rd A ((i * M + t : Nat) : Int) * rd B ((t * C + j : Nat) : Int)).sum
  | 0 => rfl
  | d + 1 => by
    rw [sumS_snoc, sumS_eq M C A B i j d, Nat.zero_add]
    rfl
/-- The determinant of a product of square lists. -/
theorem detL_mul (n : Nat) (A B P : List Int) (h : ∀ i j, i < n → j < n → rd P ((i * n + j : Nat) : Int) = sumS n n A B i j n 0) : detL n P = detL n A * detL n B := by
  unfold detL RR
  rw [det_congr (fun a c => rd P ((a * n + c : Nat) : Int)) (fun i => rowMul (RC n) (fun a c => rd B ((a * n + c : Nat) : Int)) (fun c => rd A ((i * n + c : Nat) : Int))) (RC n) (RC n) (fun i hi c hc => by
    rw [RC_mem] at hi hc
    rw [h i c hi hc, sumS_eq]
    rfl)]
  rw [show (RC n).map (fun i => rowMul (RC n) (fun a c => rd B ((a * n + c : Nat) : Int)) (fun c => rd A ((i * n + c : Nat) : Int))) = ((RC n).map (fun i c => rd A ((i * n + c : Nat) : Int))).map (rowMul (RC n) (fun a c => rd B ((a * n + c : Nat) : Int))) by rw [List.map_map]; rfl]
  rw [det_mul (RC n) (RC_nodup n) _ _ _ (by rw [List.length_map])]

/-- With enough rounds, the answer is r. -/
def Evt {α : Type} (f : Nat → Option α) (r : α) : Prop := ∃ c, ∀ K, c ≤ K → f K = some r
theorem Evt.step {α : Type} {f g : Nat → Option α} {r : α} (h : Evt g r) (e : ∀ K, f (K + 1) = g K) : Evt f r := by
  obtain ⟨c, hc⟩ := h
  refine ⟨c + 1, fun K hK => ?_⟩
  obtain ⟨K, rfl⟩ : ∃ m, K = m + 1 := ⟨K - 1, by omega⟩
  rw [e K]
  exact hc K (by omega)
theorem Evt.same {α : Type} {f g : Nat → Option α} {r : α} (h : Evt g r) (e : ∀ K, f K = g K) : Evt f r := by
  obtain ⟨c, hc⟩ := h
  exact ⟨c, fun K hK => by rw [e K]; exact hc K hK⟩
theorem Evt.now {α : Type} {f : Nat → Option α} {r : α} (e : ∀ K, f (K + 1) = some r) : Evt f r := by
  refine ⟨1, fun K hK => ?_⟩
  obtain ⟨K, rfl⟩ : ∃ m, K = m + 1 := ⟨K - 1, by omega⟩
  exact e K
theorem Evt.const {α : Type} {f : Nat → Option α} {r : α} (e : ∀ K, f K = some r) : Evt f r := ⟨0, fun K _ => e K⟩
theorem Evt.bind {α β : Type} {f : Nat → Option β} {g : Nat → Option α} {h : Nat → α → Option β} {x : α} {r : β} (hg : Evt g x) (hh : Evt (fun K => h K x) r) (e : ∀ K, f K = (g K).bind (h K)) : Evt f r := by
  obtain ⟨c, hc⟩ := hg
  obtain ⟨d, hd⟩ := hh
  exact ⟨c + d, fun K hK => by rw [e K, hc K (by omega)]; exact hd K (by omega)⟩
theorem Evt.bind1 {α β : Type} {f : Nat → Option β} {g : Nat → Option α} {h : Nat → α → Option β} {x : α} {r : β} (hg : Evt g x) (hh : Evt (fun K => h K x) r) (e : ∀ K, f (K + 1) = (g K).bind (h K)) : Evt f r :=
  Evt.step (g := fun K => (g K).bind (h K)) (Evt.bind hg hh fun _ => rfl) e
theorem rd_small (l : List Int) (h : ∀ x ∈ l, x.natAbs ≤ 1000000000000) (i : Int) : (rd l i).natAbs ≤ 1000000000000 := by
  unfold rd
  rw [List.getD_eq_getElem?_getD]
  cases e : l[i.toNat]? with
  | none => simp
  | some x => exact h x (List.mem_of_getElem? e)
theorem isMatB_small {a b : Int} {l : List Int} (h : isMatB a b l = true) : ∀ x ∈ l, x.natAbs ≤ 1000000000000 := by
  intro x hx
  unfold isMatB at h
  simp only [Bool.and_eq_true, Bool.not_eq_true', List.any_eq_false] at h
  have h1 := h.2.2.2 x hx
  unfold matBad at h1
  simp at h1
  omega

theorem isMatB_len {a b : Int} {l : List Int} (h : isMatB a b l = true) : (0 ≤ a ∧ a ≤ 48) ∧ (0 ≤ b ∧ b ≤ 48) ∧ (l.length : Int) = a * b := by
  unfold isMatB at h
  simp only [Bool.and_eq_true, decide_eq_true_eq] at h
  exact ⟨h.1, h.2.1, h.2.2.1⟩

theorem iabs_eq (x : Int) (h : x.natAbs ≤ 1000000000000) : impl_abs.f x = some (x.natAbs : Int) := by
  unfold impl_abs.f
  split
  · rw [w64 _ (by omega) (by omega)]; congr 1; omega
  · congr 1; omega
theorem prod_small {x y : Int} (hx : x.natAbs ≤ 1000000000000) (hy : y.natAbs ≤ 1000000000000) : impl_product.f x y 1000000000000 = some (if (x * y).natAbs ≤ 1000000000000 then (x * y, true) else (0, false)) := by
  unfold impl_product.f
  by_cases h0 : x = 0
  · subst h0
    simp [wrap64]
  · rw [if_neg h0, iabs_eq y hy, iabs_eq x hx]
    simp only [Option.bind_some]
    have hq : Int.tdiv 1000000000000 (x.natAbs : Int) = ((1000000000000 / x.natAbs : Nat) : Int) := by
      rw [Int.tdiv_eq_ediv_of_nonneg (by omega)]
      exact (Int.natCast_ediv 1000000000000 x.natAbs).symm
    have hle : 1000000000000 / x.natAbs ≤ 1000000000000 := Nat.div_le_self _ _
    have hiff : ((y.natAbs : Int) > ((1000000000000 / x.natAbs : Nat) : Int)) ↔ ¬ (x * y).natAbs ≤ 1000000000000 := by
      rw [Int.natAbs_mul]
      have := Nat.div_lt_iff_lt_mul (x := 1000000000000) (y := y.natAbs) (show 0 < x.natAbs by omega)
      rw [Nat.mul_comm] at this
      omega
    rw [if_neg (by omega), hq, w64n _ (by omega)]
    by_cases c : (x * y).natAbs ≤ 1000000000000
    · rw [if_pos c, if_neg (fun g => (hiff.mp g) c), w64 _ (by omega) (by omega)]
    · rw [if_neg c, if_pos (hiff.mpr c)]
theorem mat_idx2 (R C r c : Nat) (h : r * C + c < 2304) : wrap64 (wrap64 ((r : Int) * (C : Int)) + (c : Int)) = ((r * C + c : Nat) : Int) := by
  have e1 : (r : Int) * (C : Int) = ((r * C : Nat) : Int) := by simp
  rw [e1, w64n (r * C) (by omega)]
  exact w64n (r * C + c) (by omega)
theorem at_im2 (R C : Nat) (a : Int) (hR : R ≤ 48) (hC : C ≤ 48) (l : List Int) (hl : l.length = R * C) (r c : Nat) (hr : r < R) (hc : c < C) :
    impl_Matrix_at.f a (C : Int) l (r : Int) (c : Int) = some ((r * C + c : Nat) : Int) ∧ (0 : Int) ≤ ((r * C + c : Nat) : Int) ∧ ((r * C + c : Nat) : Int) < (l.length : Int) := by
  have h := idx_lt hr hc
  have hm := Nat.mul_le_mul hR hC
  have h1 : (0 : Int) ≤ ((r * C + c : Nat) : Int) := Int.natCast_nonneg _
  have h2 : ((r * C + c : Nat) : Int) < (l.length : Int) := by rw [hl]; exact Int.ofNat_lt.2 h
  refine ⟨?_, h1, h2⟩
  unfold impl_Matrix_at.f
  rw [mat_idx2 R C r c (by omega), if_pos h1, if_pos h2]
theorem ent_ev (R M C : Nat) (hR : R ≤ 48) (hM : M ≤ 48) (hC : C ≤ 48) (A B : List Int) (hA : A.length = R * M) (hB : B.length = M * C) (hAw : ∀ x ∈ A, x.natAbs ≤ 1000000000000) (hBw : ∀ x ∈ B, x.natAbs ≤ 1000000000000) (i j : Nat) (hi : i < R) (hj : j < C) :
    ∀ (d m : Nat) (s : Int) (T : Nat), m + d = M → T ≤ 1000000000000 → s.natAbs ≤ T → Evt (fun K => impl_entryOf.l0 K (i : Int) (j : Int) s (T : Int) (M : Int) (m : Int) (R : Int) (M : Int) A (M : Int) (C : Int) B) (if T + absS M C A B i j d m ≤ 1000000000000 then (s + sumS M C A B i j d m, true) else (0, false)) := by
  intro d
  induction d with
  | zero =>
    intro m s T hm hT _
    refine Evt.now fun K => ?_
    rw [impl_entryOf.l0, if_neg (by omega), absS, sumS, if_pos (by omega), Int.add_zero]
  | succ d ih =>
    intro m s T hm hT hs
    have hmM : m < M := by omega
    obtain ⟨a1, a2, a3⟩ := at_im2 R M (R : Int) hR hM A hA i m hi hmM
    obtain ⟨b1, b2, b3⟩ := at_im2 M C (M : Int) hM hC B hB m j hmM hj
    have hx := rd_small A hAw ((i * M + m : Nat) : Int)
    have hy := rd_small B hBw ((m * C + j : Nat) : Int)
    have hp := prod_small hx hy
    have hm1 : (m : Int) < (M : Int) := by omega
    rw [absS, sumS]
    obtain ⟨p, hpe⟩ : ∃ p, p = rd A ((i * M + m : Nat) : Int) * rd B ((m * C + j : Nat) : Int) := ⟨_, rfl⟩
    rw [← hpe] at hp ⊢
    by_cases c : p.natAbs ≤ 1000000000000
    · rw [if_pos c] at hp
      have hab := iabs_eq p c
      by_cases c2 : T + p.natAbs ≤ 1000000000000
      · have h1 := ih (m + 1) (s + p) (T + p.natAbs) (by omega) c2 (by omega)
        rw [Nat.add_assoc, Int.add_assoc] at h1
        refine Evt.step h1 fun K => ?_
        have em : wrap64 ((m : Int) + 1) = ((m + 1 : Nat) : Int) := w64n (m + 1) (by omega)
        have e1 : wrap64 ((T : Int) + (p.natAbs : Int)) = ((T + p.natAbs : Nat) : Int) := by rw [← Int.natCast_add]; exact w64n _ (by clear em; omega)
        have e2 : wrap64 (s + p) = s + p := w64 _ (by clear em e1; omega) (by clear em e1; omega)
        have c3 : ¬ (((T + p.natAbs : Nat) : Int) > 1000000000000) := by clear em e1 e2; omega
        rw [impl_entryOf.l0, a1, b1]
        simp only [hm1, a2, a3, b2, b3, if_true, Option.bind_some, hp]
        rw [hab, Option.bind_some, e1, e2, em, if_neg c3]
      · rw [if_neg (by omega)]
        refine Evt.now fun K => ?_
        have e1 : wrap64 ((T : Int) + (p.natAbs : Int)) = ((T + p.natAbs : Nat) : Int) := by rw [← Int.natCast_add]; exact w64n _ (by omega)
        have c3 : ((T + p.natAbs : Nat) : Int) > 1000000000000 := by clear e1; omega
        rw [impl_entryOf.l0, a1, b1]
        simp only [hm1, a2, a3, b2, b3, if_true, Option.bind_some, hp]
        rw [hab, Option.bind_some, e1, if_pos c3]
    · rw [if_neg c] at hp
      rw [if_neg (by omega)]
      refine Evt.now fun K => ?_
      have hab := iabs_eq 0 (by omega)
      rw [impl_entryOf.l0, a1, b1]
      simp only [hm1, a2, a3, b2, b3, if_true, Option.bind_some, hp, hab]
      rfl
theorem rd_set_gen (C : Nat) (l : List Int) (i j a x : Nat) (h : i * C + j < l.length) (hj : j < C) (hx : x < C) (v : Int) : rd (l.set (i * C + j) v) ((a * C + x : Nat) : Int) = if a = i ∧ x = j then v else rd l ((a * C + x : Nat) : Int) := by
  unfold rd
  rw [Int.toNat_natCast, List.getD_eq_getElem?_getD, List.getD_eq_getElem?_getD]
  by_cases e : i * C + j = a * C + x
  · obtain ⟨e1, e2⟩ := idx_inj hj hx e
    rw [if_pos ⟨e1.symm, e2.symm⟩, ← e, List.getElem?_set_self h]
    rfl
  · rw [if_neg (fun g => e (by rw [g.1, g.2])), List.getElem?_set_ne e]
/-- The entries before row i, column j are those of a product. -/
def Fil (R M C : Nat) (A B : List Int) (i j : Nat) (l : List Int) : Prop := l.length = R * C ∧ ∀ a x, a < R → x < C → (a < i ∨ (a = i ∧ x < j)) → rd l ((a * C + x : Nat) : Int) = sumS M C A B a x M 0 ∧ absS M C A B a x M 0 ≤ 1000000000000
def Over (R M C : Nat) (A B : List Int) : Prop := ∃ i j, i < R ∧ j < C ∧ ¬ absS M C A B i j M 0 ≤ 1000000000000
theorem ml_l1 (R M C : Nat) (hR : R ≤ 48) (hM : M ≤ 48) (hC : C ≤ 48) (A B : List Int) (hA : A.length = R * M) (hB : B.length = M * C) (hAw : ∀ x ∈ A, x.natAbs ≤ 1000000000000) (hBw : ∀ x ∈ B, x.natAbs ≤ 1000000000000) (i : Nat) (hi : i < R) :
    ∀ (d j : Nat) (l : List Int), j + d = C → Fil R M C A B i j l →
      (∃ l', Fil R M C A B (i + 1) 0 l' ∧ ∀ r, Evt (fun K => impl_MultiplyMatrices.l0 K (R : Int) ((i + 1 : Nat) : Int) (R : Int) (M : Int) A (M : Int) (C : Int) B (R : Int) (C : Int) l') r → Evt (fun K => impl_MultiplyMatrices.l1 K (i : Int) (R : Int) (i : Int) (C : Int) (j : Int) (R : Int) (M : Int) A (M : Int) (C : Int) B (R : Int) (C : Int) l) r) ∨
      (Over R M C A B ∧ Evt (fun K => impl_MultiplyMatrices.l1 K (i : Int) (R : Int) (i : Int) (C : Int) (j : Int) (R : Int) (M : Int) A (M : Int) (C : Int) B (R : Int) (C : Int) l) (0, 0, [], 3)) := by
  intro d
  induction d with
  | zero =>
    intro j l hj h
    obtain rfl : j = C := hj
    refine .inl ⟨l, ⟨h.1, fun a x ha hx hc => h.2 a x ha hx (by omega)⟩, fun r hr => Evt.step hr fun K => ?_⟩
    rw [impl_MultiplyMatrices.l1, if_neg (by omega), w64 ((i : Int) + 1) (by omega) (by omega), cast_succ]
  | succ d ih =>
    intro j l hj h
    have hjC : j < C := by omega
    have hj1 : (j : Int) < (C : Int) := by omega
    have he := ent_ev R M C hR hM hC A B hA hB hAw hBw i j hi hjC M 0 0 0 (by omega) (by omega) (by omega)
    rw [Nat.zero_add, Int.zero_add] at he
    by_cases c : absS M C A B i j M 0 ≤ 1000000000000
    · rw [if_pos c] at he
      obtain ⟨a1, a2, a3⟩ := at_im2 R C (R : Int) hR hC l h.1 i j hi hjC
      have hlt : i * C + j < l.length := by rw [h.1]; exact idx_lt hi hjC
      have hF : Fil R M C A B i (j + 1) (l.set (i * C + j) (sumS M C A B i j M 0)) := by
        refine ⟨by rw [List.length_set]; exact h.1, fun a x ha hx hc => ?_⟩
        rw [rd_set_gen C l i j a x hlt hjC hx]
        by_cases e : a = i ∧ x = j
        · rw [if_pos e, e.1, e.2]; exact ⟨rfl, c⟩
        · rw [if_neg e]; exact h.2 a x ha hx (by omega)
      have hstep : ∀ r, Evt (fun K => impl_MultiplyMatrices.l1 K (i : Int) (R : Int) (i : Int) (C : Int) ((j + 1 : Nat) : Int) (R : Int) (M : Int) A (M : Int) (C : Int) B (R : Int) (C : Int) (l.set (i * C + j) (sumS M C A B i j M 0))) r → Evt (fun K => impl_MultiplyMatrices.l1 K (i : Int) (R : Int) (i : Int) (C : Int) (j : Int) (R : Int) (M : Int) A (M : Int) (C : Int) B (R : Int) (C : Int) l) r := by
        intro r hr
        refine Evt.bind1 (g := fun K => impl_entryOf.f K (R : Int) (M : Int) A (M : Int) (C : Int) B (i : Int) (j : Int)) (h := fun K bt => if bt.2 = true then ((impl_Matrix_at.f (R : Int) (C : Int) l (i : Int) (j : Int)).bind fun t => (if 0 ≤ t then (if t < (l.length : Int) then (impl_MultiplyMatrices.l1 K (i : Int) (R : Int) (i : Int) (C : Int) (wrap64 ((j : Int) + 1)) (R : Int) (M : Int) A (M : Int) (C : Int) B (R : Int) (C : Int) (l.set (t : Int).toNat bt.1)) else none) else none)) else some (0, 0, [], 3)) he ?_ fun K => ?_
        · have ej : wrap64 ((j : Int) + 1) = ((j + 1 : Nat) : Int) := w64n (j + 1) (by omega)
          refine Evt.same hr fun K => ?_
          rw [a1, ej]
          simp only [a2, a3, if_true, Option.bind_some, Int.toNat_natCast]
        · rw [impl_MultiplyMatrices.l1, if_pos hj1]
      rcases ih (j + 1) _ (by omega) hF with ⟨l', h1, h2⟩ | ⟨h1, h2⟩
      · exact .inl ⟨l', h1, fun r hr => hstep r (h2 r hr)⟩
      · exact .inr ⟨h1, hstep _ h2⟩
    · rw [if_neg c] at he
      refine .inr ⟨⟨i, j, hi, hjC, c⟩, ?_⟩
      refine Evt.bind1 (g := fun K => impl_entryOf.f K (R : Int) (M : Int) A (M : Int) (C : Int) B (i : Int) (j : Int)) (h := fun K bt => if bt.2 = true then ((impl_Matrix_at.f (R : Int) (C : Int) l (i : Int) (j : Int)).bind fun t => (if 0 ≤ t then (if t < (l.length : Int) then (impl_MultiplyMatrices.l1 K (i : Int) (R : Int) (i : Int) (C : Int) (wrap64 ((j : Int) + 1)) (R : Int) (M : Int) A (M : Int) (C : Int) B (R : Int) (C : Int) (l.set (t : Int).toNat bt.1)) else none) else none)) else some (0, 0, [], 3)) he ?_ fun K => ?_
      · exact Evt.const fun K => by simp
      · rw [impl_MultiplyMatrices.l1, if_pos hj1]
theorem ml_l0 (R M C : Nat) (hR : R ≤ 48) (hM : M ≤ 48) (hC : C ≤ 48) (A B : List Int) (hA : A.length = R * M) (hB : B.length = M * C) (hAw : ∀ x ∈ A, x.natAbs ≤ 1000000000000) (hBw : ∀ x ∈ B, x.natAbs ≤ 1000000000000) :
    ∀ (d i : Nat) (l : List Int), i + d = R → Fil R M C A B i 0 l →
      (∃ l', Fil R M C A B R 0 l' ∧ Evt (fun K => impl_MultiplyMatrices.l0 K (R : Int) (i : Int) (R : Int) (M : Int) A (M : Int) (C : Int) B (R : Int) (C : Int) l) ((R : Int), (C : Int), l', 0)) ∨
      (Over R M C A B ∧ Evt (fun K => impl_MultiplyMatrices.l0 K (R : Int) (i : Int) (R : Int) (M : Int) A (M : Int) (C : Int) B (R : Int) (C : Int) l) (0, 0, [], 3)) := by
  intro d
  induction d with
  | zero =>
    intro i l hi h
    obtain rfl : i = R := hi
    refine .inl ⟨l, h, Evt.now fun K => ?_⟩
    rw [impl_MultiplyMatrices.l0, if_neg (by omega)]
  | succ d ih =>
    intro i l hi h
    have hiR : i < R := by omega
    have hstep : ∀ r, Evt (fun K => impl_MultiplyMatrices.l1 K (i : Int) (R : Int) (i : Int) (C : Int) ((0 : Nat) : Int) (R : Int) (M : Int) A (M : Int) (C : Int) B (R : Int) (C : Int) l) r → Evt (fun K => impl_MultiplyMatrices.l0 K (R : Int) (i : Int) (R : Int) (M : Int) A (M : Int) (C : Int) B (R : Int) (C : Int) l) r := by
      intro r hr
      refine Evt.step hr fun K => ?_
      rw [impl_MultiplyMatrices.l0, if_pos (by omega)]
      rfl
    rcases ml_l1 R M C hR hM hC A B hA hB hAw hBw i hiR C 0 l (by omega) h with ⟨l', h1, h2⟩ | ⟨h1, h2⟩
    · rcases ih (i + 1) l' (by omega) h1 with ⟨l2, g1, g2⟩ | ⟨g1, g2⟩
      · exact .inl ⟨l2, g1, hstep _ (h2 _ g2)⟩
      · exact .inr ⟨g1, hstep _ (h2 _ g2)⟩
    · exact .inr ⟨h1, hstep _ h2⟩
theorem isMatB_mk (R C : Nat) (hR : R ≤ 48) (hC : C ≤ 48) (l : List Int) (hl : l.length = R * C) (h : ∀ i j, i < R → j < C → (rd l ((i * C + j : Nat) : Int)).natAbs ≤ 1000000000000) : isMatB (R : Int) (C : Int) l = true := by
  unfold isMatB
  have hb : (l.any matBad) = false := by
    rw [List.any_eq_false]
    intro x hx
    obtain ⟨q, hq, rfl⟩ := List.mem_iff_getElem.mp hx
    have hC0 : 0 < C := by
      rcases Nat.eq_zero_or_pos C with e | e
      · rw [e] at hl; omega
      · exact e
    have h1 : q / C < R := by rw [Nat.div_lt_iff_lt_mul hC0, ← hl]; exact hq
    have h2 := h (q / C) (q % C) h1 (Nat.mod_lt _ hC0)
    rw [Nat.mul_comm, Nat.div_add_mod, rd_nat l q hq] at h2
    unfold matBad
    simp
    omega
  rw [hb]
  have e : (l.length : Int) = (R : Int) * (C : Int) := by rw [hl]; simp
  simp [e]
  omega
/-- What the product of two matrices is. -/
theorem mul_ev (R M C : Nat) (A B : List Int) (hmA : isMatB (R : Int) (M : Int) A = true) (hmB : isMatB (M : Int) (C : Int) B = true) :
    (∃ l', Fil R M C A B R 0 l' ∧ Evt (fun K => impl_MultiplyMatrices.f K (R : Int) (M : Int) A (M : Int) (C : Int) B) ((R : Int), (C : Int), l', 0)) ∨
    (Over R M C A B ∧ Evt (fun K => impl_MultiplyMatrices.f K (R : Int) (M : Int) A (M : Int) (C : Int) B) (0, 0, [], 3)) := by
  obtain ⟨g1, g2, g3⟩ := isMatB_len hmA
  obtain ⟨_, g4, g5⟩ := isMatB_len hmB
  rw [← Int.natCast_mul] at g3 g5
  have m3 := Nat.mul_le_mul (show R ≤ 48 by omega) (show C ≤ 48 by omega)
  have hf : ∀ r, Evt (fun K => impl_MultiplyMatrices.l0 K (R : Int) ((0 : Nat) : Int) (R : Int) (M : Int) A (M : Int) (C : Int) B (R : Int) (C : Int) (List.replicate (R * C) 0)) r → Evt (fun K => impl_MultiplyMatrices.f K (R : Int) (M : Int) A (M : Int) (C : Int) B) r := by
    intro r hr
    have h1 : Evt (fun K => impl_MultiplyMatrices.j0 K false (R : Int) (M : Int) A (M : Int) (C : Int) B) r := by
      refine Evt.step hr fun K => ?_
      have e3 : (R : Int) * (C : Int) = ((R * C : Nat) : Int) := by simp
      have hz : impl_zeroMatrix.f (R : Int) (C : Int) = some ((R : Int), (C : Int), List.replicate (R * C) 0) := by
        unfold impl_zeroMatrix.f
        rw [e3, w64n _ (by omega), Int.toNat_natCast, if_pos (Int.natCast_nonneg _), if_pos (by omega)]
      rw [impl_MultiplyMatrices.j0, if_neg (by simp), if_pos rfl, hz]
      rfl
    refine Evt.same h1 fun K => ?_
    unfold impl_MultiplyMatrices.f impl_isMatrix.f
    rw [hmA, hmB]
    rfl
  rcases ml_l0 R M C (by omega) (by omega) (by omega) A B (by omega) (by omega) (isMatB_small hmA) (isMatB_small hmB) R 0 (List.replicate (R * C) 0) (by omega) ⟨by simp, fun a x _ _ hc => absurd hc (by omega)⟩ with ⟨l', h1, h2⟩ | ⟨h1, h2⟩
  · exact .inl ⟨l', h1, hf _ h2⟩
  · exact .inr ⟨h1, hf _ h2⟩
theorem Fil.isMat {R M C : Nat} {A B l : List Int} (h : Fil R M C A B R 0 l) (hR : R ≤ 48) (hC : C ≤ 48) : isMatB (R : Int) (C : Int) l = true :=
  isMatB_mk R C hR hC l h.1 fun i j hi hj => by
    obtain ⟨h1, h2⟩ := h.2 i j hi hj (by omega)
    have h3 := sumS_le M C A B i j M 0
    rw [h1]
    omega

def TrF (R C : Nat) (A : List Int) (i j : Nat) (l : List Int) : Prop := l.length = C * R ∧ ∀ a x, a < R → x < C → (a < i ∨ (a = i ∧ x < j)) → rd l ((x * R + a : Nat) : Int) = rd A ((a * C + x : Nat) : Int)
theorem tr_l1 (R C : Nat) (hR : R ≤ 48) (hC : C ≤ 48) (A : List Int) (hA : A.length = R * C) (i : Nat) (hi : i < R) :
    ∀ (d j : Nat) (l : List Int), j + d = C → TrF R C A i j l → ∃ l', TrF R C A (i + 1) 0 l' ∧ ∀ r, Evt (fun K => impl_Transpose.l0 K (R : Int) ((i + 1 : Nat) : Int) (R : Int) (C : Int) A (C : Int) (R : Int) l') r → Evt (fun K => impl_Transpose.l1 K (i : Int) (R : Int) (i : Int) (C : Int) (j : Int) (R : Int) (C : Int) A (C : Int) (R : Int) l) r := by
  intro d
  induction d with
  | zero =>
    intro j l hj h
    obtain rfl : j = C := hj
    refine ⟨l, ⟨h.1, fun a x ha hx hc => h.2 a x ha hx (by omega)⟩, fun r hr => Evt.step hr fun K => ?_⟩
    rw [impl_Transpose.l1, if_neg (by omega), w64 ((i : Int) + 1) (by omega) (by omega), cast_succ]
  | succ d ih =>
    intro j l hj h
    have hjC : j < C := by omega
    have hj1 : (j : Int) < (C : Int) := by omega
    obtain ⟨a1, a2, a3⟩ := at_im2 C R (C : Int) hC hR l h.1 j i hjC hi
    obtain ⟨b1, b2, b3⟩ := at_im2 R C (R : Int) hR hC A hA i j hi hjC
    have hlt : j * R + i < l.length := by rw [h.1]; exact idx_lt hjC hi
    obtain ⟨l', h1, h2⟩ := ih (j + 1) (l.set (j * R + i) (rd A ((i * C + j : Nat) : Int))) (by omega) ⟨by rw [List.length_set]; exact h.1, fun a x ha hx hc => by
      rw [rd_set_gen R l j i x a hlt hi ha]
      by_cases e : x = j ∧ a = i
      · rw [if_pos e, e.1, e.2]
      · rw [if_neg e]; exact h.2 a x ha hx (by omega)⟩
    refine ⟨l', h1, fun r hr => Evt.step (h2 r hr) fun K => ?_⟩
    have ej : wrap64 ((j : Int) + 1) = ((j + 1 : Nat) : Int) := w64n (j + 1) (by omega)
    rw [impl_Transpose.l1, a1, b1, ej]
    simp only [hj1, a2, a3, b2, b3, if_true, Option.bind_some, Int.toNat_natCast]
theorem tr_l0 (R C : Nat) (hR : R ≤ 48) (hC : C ≤ 48) (A : List Int) (hA : A.length = R * C) :
    ∀ (d i : Nat) (l : List Int), i + d = R → TrF R C A i 0 l → ∃ l', TrF R C A R 0 l' ∧ Evt (fun K => impl_Transpose.l0 K (R : Int) (i : Int) (R : Int) (C : Int) A (C : Int) (R : Int) l) ((C : Int), (R : Int), l') := by
  intro d
  induction d with
  | zero =>
    intro i l hi h
    obtain rfl : i = R := hi
    refine ⟨l, h, Evt.now fun K => ?_⟩
    rw [impl_Transpose.l0, if_neg (by omega)]
  | succ d ih =>
    intro i l hi h
    obtain ⟨l1, h1, h2⟩ := tr_l1 R C hR hC A hA i (by omega) C 0 l (by omega) h
    obtain ⟨l2, g1, g2⟩ := ih (i + 1) l1 (by omega) h1
    refine ⟨l2, g1, Evt.step (h2 _ g2) fun K => ?_⟩
    rw [impl_Transpose.l0, if_pos (by omega)]
    rfl
theorem tr_ev (R C : Nat) (A : List Int) (hm : isMatB (R : Int) (C : Int) A = true) : ∃ l', TrF R C A R 0 l' ∧ isMatB (C : Int) (R : Int) l' = true ∧ Evt (fun K => impl_Transpose.f K (R : Int) (C : Int) A) ((C : Int), (R : Int), l') := by
  obtain ⟨g1, g2, g3⟩ := isMatB_len hm
  rw [← Int.natCast_mul] at g3
  have m3 := Nat.mul_le_mul (show C ≤ 48 by omega) (show R ≤ 48 by omega)
  obtain ⟨l', h1, h2⟩ := tr_l0 R C (by omega) (by omega) A (by omega) R 0 (List.replicate (C * R) 0) (by omega) ⟨by simp, fun a x _ _ hc => absurd hc (by omega)⟩
  refine ⟨l', h1, isMatB_mk C R (by omega) (by omega) l' h1.1 (fun i j hi hj => by rw [h1.2 j i hj hi (by omega)]; exact rd_small A (isMatB_small hm) _), Evt.same h2 fun K => ?_⟩
  have e3 : (C : Int) * (R : Int) = ((C * R : Nat) : Int) := by simp
  have hz : impl_zeroMatrix.f (C : Int) (R : Int) = some ((C : Int), (R : Int), List.replicate (C * R) 0) := by
    unfold impl_zeroMatrix.f
    rw [e3, w64n _ (by omega), Int.toNat_natCast, if_pos (Int.natCast_nonneg _), if_pos (by omega)]
  unfold impl_Transpose.f impl_isMatrix.f
  rw [hm, hz]
  rfl
theorem sumS_tr (R M C : Nat) (A B At Bt : List Int) (hA : TrF R M A R 0 At) (hB : TrF M C B M 0 Bt) (i j : Nat) (hi : i < R) (hj : j < C) : ∀ (d m : Nat), m + d ≤ M → sumS M R Bt At j i d m = sumS M C A B i j d m ∧ absS M R Bt At j i d m = absS M C A B i j d m
  | 0, _, _ => ⟨rfl, rfl⟩
  | d + 1, m, h => by
    obtain ⟨h1, h2⟩ := sumS_tr R M C A B At Bt hA hB i j hi hj d (m + 1) (by omega)
    simp only [sumS, absS]
    rw [h1, h2, hA.2 i m hi (by omega) (by omega), hB.2 m j (by omega) hj (by omega), Int.mul_comm]
    exact ⟨rfl, rfl⟩
theorem list_ext_idx (R C : Nat) (l m : List Int) (hl : l.length = R * C) (hm : m.length = R * C) (h : ∀ i j, i < R → j < C → rd l ((i * C + j : Nat) : Int) = rd m ((i * C + j : Nat) : Int)) : l = m := by
  refine List.ext_getElem (by omega) fun q h1 h2 => ?_
  have hC0 : 0 < C := by
    rcases Nat.eq_zero_or_pos C with e | e
    · rw [e] at hl; omega
    · exact e
  have h3 := h (q / C) (q % C) (by rw [Nat.div_lt_iff_lt_mul hC0, ← hl]; exact h1) (Nat.mod_lt _ hC0)
  rw [Nat.mul_comm, Nat.div_add_mod, rd_nat l q h1, rd_nat m q h2] at h3
  exact h3

theorem like_l0 (l : List Int) (hl : l.length ≤ 1048576) : ∀ (d i : Nat), i + d = l.length → Evt (fun K => laws_likeInts.l0 K l l (i : Int)) true := by
  intro d
  induction d with
  | zero =>
    intro i hi
    refine Evt.now fun K => ?_
    rw [laws_likeInts.l0, if_neg (by omega)]
  | succ d ih =>
    intro i hi
    refine Evt.step (ih (i + 1) (by omega)) fun K => ?_
    rw [laws_likeInts.l0, if_pos (by omega), if_pos (by omega), if_pos (by omega), if_pos rfl, w64 ((i : Int) + 1) (by omega) (by omega), cast_succ]
theorem likeInts_ev (l : List Int) (hl : l.length ≤ 1048576) : Evt (fun K => laws_likeInts.f K l l) true := by
  refine Evt.same (like_l0 l hl l.length 0 (by omega)) fun K => ?_
  unfold laws_likeInts.f
  rw [if_pos rfl]
  rfl

theorem dbyte_of (x : Int) (h : (Lit.int .u8 x).wf = true) : 0 ≤ x ∧ x ≤ 255 := by
  simpa [Lit.wf, IntKind.min, IntKind.max, IntKind.signed, IntKind.bits] using h
theorem dbyte_at (b : List Int) (hb : ∀ x ∈ b, (Lit.int .u8 x).wf = true) (i : Nat) (hi : i < b.length) : 0 ≤ rd b i ∧ rd b i ≤ 255 := by
  refine dbyte_of _ (hb _ ?_)
  rw [rd_nat b i hi]
  exact List.getElem_mem hi
theorem from_step (c x : Int) (h0 : 0 ≤ c) (h1 : c < 2147483647) (x0 : 0 ≤ x) (x1 : x ≤ 255) : 0 ≤ Int.tmod (wrap64 (wrap64 (c * 37) + wrap64 x)) 2147483647 ∧ Int.tmod (wrap64 (wrap64 (c * 37) + wrap64 x)) 2147483647 < 2147483647 := by
  rw [w64 (c * 37) (by omega) (by omega), w64 x (by omega) (by omega), w64 (c * 37 + x) (by omega) (by omega)]
  exact ⟨Int.tmod_nonneg _ (by omega), Int.tmod_lt_of_pos _ (by omega)⟩
theorem from_l0 (b : List Int) (hb : ∀ x ∈ b, (Lit.int .u8 x).wf = true) (hl : b.length ≤ 4096) : ∀ (d i k : Nat) (c : Int), i + d = b.length → d < k → 0 ≤ c → c < 2147483647 → ∃ c', spec_l01From.l0 k b (i : Int) b 0 c = some (b, 0, c') ∧ 0 ≤ c' ∧ c' < 2147483647 := by
  intro d
  induction d with
  | zero =>
    intro i k c hi hk h0 h1
    obtain ⟨k, rfl⟩ := succ_k hk
    simp only [spec_l01From.l0]
    rw [if_neg (by omega)]
    exact ⟨c, rfl, h0, h1⟩
  | succ d ih =>
    intro i k c hi hk h0 h1
    obtain ⟨k, rfl⟩ := succ_k hk
    simp only [spec_l01From.l0]
    rw [if_pos (by omega)]
    by_cases c4 : (i : Int) < 64
    · obtain ⟨x0, x1⟩ := dbyte_at b hb i (by omega)
      obtain ⟨s0, s1⟩ := from_step c _ h0 h1 x0 x1
      rw [if_pos c4, if_pos (by omega), w64 ((i : Int) + 1) (by omega) (by omega), cast_succ]
      exact ih (i + 1) k _ (by omega) (by omega) s0 s1
    · rw [if_neg c4]
      exact ⟨c, rfl, h0, h1⟩
theorem from_ok (b : List Int) (hb : ∀ x ∈ b, (Lit.int .u8 x).wf = true) (hl : b.length ≤ 4096) (k : Nat) (hk : b.length < k) : ∃ c, spec_l01From.f k b = some (b, 0, c) ∧ 0 ≤ c ∧ c < 2147483647 :=
  from_l0 b hb hl b.length 0 k 97531 (by omega) hk (by omega) (by omega)
theorem next_seed (c : Int) (h0 : 0 ≤ c) (h1 : c < 2147483647) : 0 ≤ Int.tmod (wrap64 (wrap64 (c * 48271) + 11)) 2147483647 ∧ Int.tmod (wrap64 (wrap64 (c * 48271) + 11)) 2147483647 < 2147483647 := by
  rw [w64 (c * 48271) (by omega) (by omega), w64 (c * 48271 + 11) (by omega) (by omega)]
  exact ⟨Int.tmod_nonneg _ (by omega), Int.tmod_lt_of_pos _ (by omega)⟩
theorem next_ok (b : List Int) (hb : ∀ x ∈ b, (Lit.int .u8 x).wf = true) (hl : b.length ≤ 4096) (i c a : Int) (hi : 0 ≤ i) (h0 : 0 ≤ c) (h1 : c < 2147483647) :
    ∃ r i' c', spec_l01Next.f b i c a = some (r, i', c') ∧ 0 ≤ r ∧ (r < a ∨ r = 0) ∧ 0 ≤ i' ∧ 0 ≤ c' ∧ c' < 2147483647 := by
  unfold spec_l01Next.f
  obtain ⟨s0, s1⟩ := next_seed c h0 h1
  generalize Int.tmod (wrap64 (wrap64 (c * 48271) + 11)) 2147483647 = s at s0 s1 ⊢
  by_cases a1 : a ≤ 1
  · rw [if_pos a1]
    exact ⟨0, i, c, rfl, by omega, Or.inr rfl, hi, h0, h1⟩
  · rw [if_neg a1]
    have an : ¬ a = 0 := by omega
    have q0 : 0 ≤ Int.tdiv s 11 := Int.tdiv_nonneg s0 (by omega)
    have q1 : Int.tdiv s 11 ≤ 2147483647 := by rw [Int.tdiv_eq_ediv_of_nonneg s0]; omega
    generalize Int.tdiv s 11 = q at q0 q1 ⊢
    by_cases c1 : i < (b.length : Int)
    · obtain ⟨j, rfl⟩ : ∃ j : Nat, i = j := ⟨i.toNat, by omega⟩
      obtain ⟨x0, x1⟩ := dbyte_at b hb j (by omega)
      have b1 : -9223372036854775808 ≤ (j : Int) + 1 ∧ (j : Int) + 1 ≤ 9223372036854775807 := by omega
      have b2 : -9223372036854775808 ≤ (j : Int) + 1 - 1 ∧ (j : Int) + 1 - 1 ≤ 9223372036854775807 := by omega
      have e2 : (j : Int) + 1 - 1 = (j : Int) := by omega
      have b3 : 0 ≤ (j : Int) + 1 := by omega
      rw [w64 ((j : Int) + 1) b1.1 b1.2, w64 ((j : Int) + 1 - 1) b2.1 b2.2, e2]
      generalize rd b (j : Int) = x at x0 x1 ⊢
      have t0 := Int.tmod_nonneg a x0
      have t1 := Int.tmod_lt_of_pos x (show 0 < a by omega)
      have t2 := Int.tmod_nonneg a (show 0 ≤ q + x by omega)
      have t3 := Int.tmod_lt_of_pos (q + x) (show 0 < a by omega)
      have b4 : -9223372036854775808 ≤ x ∧ x ≤ 9223372036854775807 := by omega
      have b5 : -9223372036854775808 ≤ q ∧ q ≤ 9223372036854775807 := by omega
      have b6 : -9223372036854775808 ≤ q + x ∧ q + x ≤ 9223372036854775807 := by omega
      rw [w64 x b4.1 b4.2, w64 q b5.1 b5.2, w64 (q + x) b6.1 b6.2, if_pos c1, if_pos hi]
      by_cases c2 : a ≤ 256
      · rw [if_pos c2]
        by_cases c3 : ((j : Int) + 1).tmod 2 = 0
        · rw [if_pos c3, if_pos hi, if_pos c1, if_neg an]
          exact ⟨_, _, _, rfl, t0, Or.inl t1, b3, s0, s1⟩
        · rw [if_neg c3, if_neg an]
          exact ⟨_, _, _, rfl, t2, Or.inl t3, b3, s0, s1⟩
      · rw [if_neg c2, if_neg an]
        exact ⟨_, _, _, rfl, t2, Or.inl t3, b3, s0, s1⟩
    · have b5 : -9223372036854775808 ≤ q ∧ q ≤ 9223372036854775807 := by omega
      rw [if_neg c1, if_neg an, w64 q b5.1 b5.2]
      exact ⟨_, _, _, rfl, Int.tmod_nonneg a q0, Or.inl (Int.tmod_lt_of_pos q (by omega)), hi, s0, s1⟩

theorem wf_wrap (x : Int) : (Lit.int .i64 (wrap64 x)).wf = true := by
  simp [Lit.wf, IntKind.min, IntKind.max, IntKind.signed, IntKind.bits]
  unfold wrap64
  omega
theorem wf_set (l : List Int) (h : ∀ x ∈ l, (Lit.int .i64 x).wf = true) (i : Nat) (v : Int) (hv : (Lit.int .i64 v).wf = true) : ∀ x ∈ l.set i v, (Lit.int .i64 x).wf = true := by
  intro x hx
  rcases List.mem_or_eq_of_mem_set hx with hx | hx
  · exact h x hx
  · rw [hx]; exact hv
theorem size_l0 (b : List Int) (hb : ∀ x ∈ b, (Lit.int .u8 x).wf = true) (hl : b.length ≤ 4096) (s x y : Int) : ∀ (d i : Nat) (a c : Int) (l : List Int), i + d = l.length → l.length ≤ 100 → 0 ≤ a → 0 ≤ c → c < 2147483647 → (∀ x ∈ l, (Lit.int .i64 x).wf = true) →
    ∃ l' a' c', l'.length = l.length ∧ 0 ≤ a' ∧ 0 ≤ c' ∧ c' < 2147483647 ∧ (∀ x ∈ l', (Lit.int .i64 x).wf = true) ∧ Evt (fun K => spec_l01DrawSize.l0 K s (i : Int) b a c x y l) (x, y, l', a', c') := by
  intro d
  induction d with
  | zero =>
    intro i a c l hi _ ha hc hc2 hw
    refine ⟨l, a, c, rfl, ha, hc, hc2, hw, Evt.now fun K => ?_⟩
    rw [spec_l01DrawSize.l0, if_neg (by omega)]
  | succ d ih =>
    intro i a c l hi hl2 ha hc hc2 hw
    obtain ⟨r1, a1, c1, e1, p1, _, q1, q2, q3⟩ := next_ok b hb hl a c 3 ha hc hc2
    have ei : wrap64 ((i : Int) + 1) = ((i + 1 : Nat) : Int) := w64n (i + 1) (by omega)
    by_cases h : r1 > 0
    · obtain ⟨r2, a2, c2, e2, _, _, t1, t2, t3⟩ := next_ok b hb hl a1 c1 (wrap64 (wrap64 (2 * s) + 1)) q1 q2 q3
      obtain ⟨l', a', c', h1, h2, h3, h4, h5, h6⟩ := ih (i + 1) a2 c2 (l.set i (wrap64 (r2 - s))) (by simp; omega) (by simp; omega) t1 t2 t3 (wf_set l hw i _ (wf_wrap _))
      refine ⟨l', a', c', by simpa using h1, h2, h3, h4, h5, Evt.step h6 fun K => ?_⟩
      rw [spec_l01DrawSize.l0, if_pos (by omega), e1]
      simp only [Option.bind_some]
      rw [if_pos h, e2]
      simp only [Option.bind_some]
      rw [if_pos (by omega), ei, Int.toNat_natCast]
    · obtain ⟨l', a', c', h1, h2, h3, h4, h5, h6⟩ := ih (i + 1) a1 c1 l (by omega) hl2 q1 q2 q3 hw
      refine ⟨l', a', c', h1, h2, h3, h4, h5, Evt.step h6 fun K => ?_⟩
      rw [spec_l01DrawSize.l0, if_pos (by omega), e1]
      simp only [Option.bind_some]
      rw [if_neg h, ei]
theorem size_ok (b : List Int) (hb : ∀ x ∈ b, (Lit.int .u8 x).wf = true) (hl : b.length ≤ 4096) (a c : Int) (ha : 0 ≤ a) (hc : 0 ≤ c) (hc2 : c < 2147483647) (x y : Nat) (hx : x ≤ 5) (hy : y ≤ 5) :
    ∃ l' a' c', l'.length ≤ 25 ∧ 0 ≤ a' ∧ 0 ≤ c' ∧ c' < 2147483647 ∧ (∀ x ∈ l', (Lit.int .i64 x).wf = true) ∧ Evt (fun K => spec_l01DrawSize.f K b a c (x : Int) (y : Int)) ((x : Int), (y : Int), l', a', c') := by
  have hm := Nat.mul_le_mul hx hy
  obtain ⟨r1, a1, c1, e1, _, _, q1, q2, q3⟩ := next_ok b hb hl a c 6 ha hc hc2
  obtain ⟨l', a', c', h1, h2, h3, h4, h5, h6⟩ := size_l0 b hb hl (wrap64 (1 + r1)) (x : Int) (y : Int) (x * y) 0 a1 c1 (List.replicate (x * y) 0) (by simp) (by simp; omega) q1 q2 q3 (fun z hz => by rw [(List.mem_replicate.mp hz).2]; rfl)
  refine ⟨l', a', c', by rw [h1]; simp; omega, h2, h3, h4, h5, Evt.same h6 fun K => ?_⟩
  have e3 : (x : Int) * (y : Int) = ((x * y : Nat) : Int) := by simp
  unfold spec_l01DrawSize.f spec_l01Zero.f
  rw [e3, w64n _ (by omega), Int.toNat_natCast, if_pos (Int.natCast_nonneg _), if_pos (by omega)]
  simp only [Option.bind_some]
  rw [e1]
  rfl
theorem matrix_ok (b : List Int) (hb : ∀ x ∈ b, (Lit.int .u8 x).wf = true) (hl : b.length ≤ 4096) (a c : Int) (ha : 0 ≤ a) (hc : 0 ≤ c) (hc2 : c < 2147483647) :
    ∃ x y l' a' c', l'.length ≤ 26 ∧ 0 ≤ a' ∧ 0 ≤ c' ∧ c' < 2147483647 ∧ (∀ x ∈ l', (Lit.int .i64 x).wf = true) ∧ Evt (fun K => spec_l01DrawMatrix.f K b a c) (x, y, l', a', c') := by
  obtain ⟨r1, a1, c1, e1, p1, p1', q1, q2, q3⟩ := next_ok b hb hl a c 5 ha hc hc2
  obtain ⟨r2, a2, c2, e2, p2, p2', t1, t2, t3⟩ := next_ok b hb hl a1 c1 5 q1 q2 q3
  obtain ⟨x, rfl⟩ : ∃ x : Nat, r1 = x := ⟨r1.toNat, by omega⟩
  obtain ⟨y, rfl⟩ : ∃ y : Nat, r2 = y := ⟨r2.toNat, by omega⟩
  obtain ⟨l, a3, c3, hs, u1, u2, u3, hw, he⟩ := size_ok b hb hl a2 c2 t1 t2 t3 x y (by omega) (by omega)
  obtain ⟨r4, a4, c4, e4, p4, p4', v1, v2, v3⟩ := next_ok b hb hl a3 c3 24 u1 u2 u3
  have fin : ∀ (res : Int × Int × List Int × Int × Int), (∀ K, spec_l01DrawSize.f K b a2 c2 (x : Int) (y : Int) = some ((x : Int), (y : Int), l, a3, c3) → spec_l01DrawMatrix.f K b a c = some res) → Evt (fun K => spec_l01DrawMatrix.f K b a c) res := by
    intro res hf
    obtain ⟨n, hn⟩ := he
    exact ⟨n, fun K hK => hf K (hn K hK)⟩
  by_cases k0 : r4 = 0
  · refine ⟨_, _, l, a4, c4, by omega, v1, v2, v3, hw, fin (wrap64 ((x : Int) + 1), (y : Int), l, a4, c4) fun K h => ?_⟩
    unfold spec_l01DrawMatrix.f
    rw [e1, Option.bind_some, e2, Option.bind_some, h, Option.bind_some, e4, Option.bind_some, if_pos k0]
  by_cases k1 : r4 = 1
  · refine ⟨_, _, l ++ [0], a4, c4, by simp; omega, v1, v2, v3, fun z hz => ?_, fin ((x : Int), (y : Int), l ++ [0], a4, c4) fun K h => ?_⟩
    · rcases List.mem_append.mp hz with hz | hz
      · exact hw z hz
      · rw [List.mem_singleton.mp hz]; rfl
    · unfold spec_l01DrawMatrix.f
      rw [e1, Option.bind_some, e2, Option.bind_some, h, Option.bind_some, e4, Option.bind_some, if_neg k0, if_pos k1, if_pos (show l.length < 17592186044416 by omega)]
  by_cases k2 : r4 = 2
  · by_cases k3 : (l.length : Int) > 0
    · obtain ⟨r5, a5, c5, e5, p5, p5', w1, w2, w3⟩ := next_ok b hb hl a4 c4 (l.length : Int) v1 v2 v3
      obtain ⟨r6, a6, c6, e6, p6, p6', z1, z2, z3⟩ := next_ok b hb hl a5 c5 5 w1 w2 w3
      refine ⟨_, _, l.set (r5 : Int).toNat (rd [1000000000000, 1000000000001, (-1000000000000), (-1000000000001), (-9223372036854775808)] r6), a6, c6, by simp; omega, z1, z2, z3, wf_set l hw _ _ ?_, fin ((x : Int), (y : Int), _, a6, c6) fun K h => ?_⟩
      · obtain ⟨m, rfl⟩ : ∃ m : Nat, r6 = m := ⟨r6.toNat, by omega⟩
        have hm : m < 5 := by omega
        match m, hm with
        | 0, _ => rfl
        | 1, _ => rfl
        | 2, _ => rfl
        | 3, _ => rfl
        | 4, _ => rfl
      · unfold spec_l01DrawMatrix.f
        rw [e1, Option.bind_some, e2, Option.bind_some, h, Option.bind_some, e4, Option.bind_some, if_neg k0, if_neg k1, if_pos k2, if_pos k3, e5, Option.bind_some, Option.bind_some, e6, Option.bind_some, if_pos p6, if_pos (by simp; omega), if_pos p5, if_pos (show r5 < (l.length : Int) by omega)]
    · refine ⟨_, _, l, a4, c4, by omega, v1, v2, v3, hw, fin ((x : Int), (y : Int), l, a4, c4) fun K h => ?_⟩
      unfold spec_l01DrawMatrix.f
      rw [e1, Option.bind_some, e2, Option.bind_some, h, Option.bind_some, e4, Option.bind_some, if_neg k0, if_neg k1, if_pos k2, if_neg k3]
  by_cases k3 : r4 = 3
  · obtain ⟨r5, a5, c5, e5, p5, p5', w1, w2, w3⟩ := next_ok b hb hl a4 c4 3 v1 v2 v3
    refine ⟨_, _, [], a5, c5, by simp, w1, w2, w3, fun z hz => (by cases hz), fin (0, rd [48, 49, (-1)] r5, [], a5, c5) fun K h => ?_⟩
    unfold spec_l01DrawMatrix.f
    rw [e1, Option.bind_some, e2, Option.bind_some, h, Option.bind_some, e4, Option.bind_some, if_neg k0, if_neg k1, if_neg k2, if_pos k3, Option.bind_some, e5, Option.bind_some, if_pos p5, if_pos (by simp; omega)]
  refine ⟨_, _, l, a4, c4, by omega, v1, v2, v3, hw, fin ((x : Int), (y : Int), l, a4, c4) fun K h => ?_⟩
  unfold spec_l01DrawMatrix.f
  rw [e1, Option.bind_some, e2, Option.bind_some, h, Option.bind_some, e4, Option.bind_some, if_neg k0, if_neg k1, if_neg k2, if_neg k3]
theorem scale_l0 (u v : Int) (A : List Int) (x y : Int) : ∀ (d i : Nat) (l : List Int), i + d = l.length → l.length ≤ 100 → (∀ x ∈ l, (Lit.int .i64 x).wf = true) → ∃ l', l'.length = l.length ∧ (∀ x ∈ l', (Lit.int .i64 x).wf = true) ∧ Evt (fun K => spec_DrawMultiplyMatrices.l0 K (i : Int) u v A x y l) (u, v, A, x, y, l') := by
  intro d
  induction d with
  | zero =>
    intro i l hi _ hw
    refine ⟨l, rfl, hw, Evt.now fun K => ?_⟩
    rw [spec_DrawMultiplyMatrices.l0, if_neg (by omega)]
  | succ d ih =>
    intro i l hi hl hw
    obtain ⟨l', h1, h2, h3⟩ := ih (i + 1) (l.set i (wrap64 (rd l (i : Int) * 100000000000))) (by simp; omega) (by simp; omega) (wf_set l hw i _ (wf_wrap _))
    refine ⟨l', by simpa using h1, h2, Evt.step h3 fun K => ?_⟩
    have ei : wrap64 ((i : Int) + 1) = ((i + 1 : Nat) : Int) := w64n (i + 1) (by omega)
    rw [spec_DrawMultiplyMatrices.l0, if_pos (by omega), if_pos (by omega), ei, Int.toNat_natCast]
theorem drawMul_ok (b : List Int) (hb : ∀ x ∈ b, (Lit.int .u8 x).wf = true) (hl : b.length ≤ 4096) :
    ∃ u v A x y B, A.length ≤ 100 ∧ B.length ≤ 100 ∧ (∀ x ∈ A, (Lit.int .i64 x).wf = true) ∧ (∀ x ∈ B, (Lit.int .i64 x).wf = true) ∧ Evt (fun K => spec_DrawMultiplyMatrices.f K b) (u, v, A, x, y, B) := by
  obtain ⟨c0, e0, h1, h2⟩ := from_ok b hb hl (b.length + 1) (by omega)
  have hfr : Evt (fun K => spec_l01From.f K b) (b, 0, c0) := ⟨b.length + 1, fun K hK => by
    obtain ⟨c', e', _, _⟩ := from_ok b hb hl K (by omega)
    have h3 : spec_l01From.f K b = some (b, 0, c0) := at_rounds (g := fun K => spec_l01From.f K b) (spec_l01From.mono b) hK e0
    exact h3⟩
  obtain ⟨u, v, A, a1, c1, g1, g2, g3, g4, g5, g6⟩ := matrix_ok b hb hl 0 c0 (by omega) h1 h2
  obtain ⟨r2, a2, c2, e2, p2, p2', t1, t2, t3⟩ := next_ok b hb hl a1 c1 5 g2 g3 g4
  obtain ⟨y, rfl⟩ : ∃ y : Nat, r2 = y := ⟨r2.toNat, by omega⟩
  obtain ⟨x, hx, hx5⟩ : ∃ x : Nat, mx 0 (mn 5 v) = (x : Int) ∧ x ≤ 5 := by
    unfold mx mn
    split <;> split
    all_goals first
      | exact ⟨5, by omega, by omega⟩
      | exact ⟨v.toNat, by omega, by omega⟩
      | exact ⟨0, by omega, by omega⟩
  obtain ⟨B, a3, c3, s1, s2, s3, s4, s5, s6⟩ := size_ok b hb hl a2 c2 t1 t2 t3 x y hx5 (by omega)
  obtain ⟨r4, a4, c4, e4, p4, p4', v1, v2, v3⟩ := next_ok b hb hl a3 c3 10 s2 s3 s4
  have body : ∀ (res : Int × Int × List Int × Int × Int × List Int), Evt (fun K => if r4 = 0 then ((spec_l01DrawMatrix.f K b a4 c4).bind fun bt229 => (some (u, v, A, bt229.1, bt229.2.1, bt229.2.2.1))) else (if r4 = 1 then (spec_DrawMultiplyMatrices.l0 K 0 u v A (x : Int) (y : Int) B) else (some (u, v, A, (x : Int), (y : Int), B)))) res → Evt (fun K => spec_DrawMultiplyMatrices.f K b) res := by
    intro res hres
    obtain ⟨n1, k1⟩ := hfr
    obtain ⟨n2, k2⟩ := g6
    obtain ⟨n3, k3⟩ := s6
    obtain ⟨n4, k4⟩ := hres
    refine ⟨n1 + n2 + n3 + n4, fun K hK => ?_⟩
    have q1 : spec_l01From.f K b = some (b, 0, c0) := k1 K (by omega)
    have q2 : spec_l01DrawMatrix.f K b 0 c0 = some (u, v, A, a1, c1) := k2 K (by omega)
    have q3 : spec_l01DrawSize.f K b a2 c2 (x : Int) (y : Int) = some ((x : Int), (y : Int), B, a3, c3) := k3 K (by omega)
    have q4 := k4 K (by omega)
    show spec_DrawMultiplyMatrices.f K b = some res
    unfold spec_DrawMultiplyMatrices.f
    rw [q1, Option.bind_some, q2, Option.bind_some, e2, Option.bind_some, hx, q3, Option.bind_some, e4, Option.bind_some]
    exact q4
  by_cases k0 : r4 = 0
  · obtain ⟨u2, v2', B2, a5, c5, m1, m2, m3, m4, m5, m6⟩ := matrix_ok b hb hl a4 c4 v1 v2 v3
    refine ⟨u, v, A, u2, v2', B2, by omega, by omega, g5, m5, body _ ?_⟩
    simp only [k0, if_true]
    exact Evt.bind m6 (Evt.const fun _ => rfl) fun _ => rfl
  by_cases k1 : r4 = 1
  · obtain ⟨B2, m1, m2, m3⟩ := scale_l0 u v A (x : Int) (y : Int) B.length 0 B (by omega) (by omega) s5
    refine ⟨u, v, A, (x : Int), (y : Int), B2, by omega, by omega, g5, m2, body _ ?_⟩
    simp only [k1, if_true]
    exact Evt.same m3 fun K => by simp
  refine ⟨u, v, A, (x : Int), (y : Int), B, by omega, by omega, g5, s5, body _ (Evt.const fun K => ?_)⟩
  rw [if_neg k0, if_neg k1]

theorem wrap_rng (x : Int) : -9223372036854775808 ≤ wrap64 x ∧ wrap64 x ≤ 9223372036854775807 := by
  unfold wrap64
  omega
theorem abs_eq (x : Int) (h : -9223372036854775808 ≤ x ∧ x ≤ 9223372036854775807) : ∃ y, spec_l01Abs.f x = some y ∧ impl_abs.f x = some y := by
  unfold spec_l01Abs.f impl_abs.f mx
  refine ⟨_, rfl, ?_⟩
  by_cases h0 : x < 0
  · rw [if_pos h0]
    by_cases h1 : x = -9223372036854775808
    · subst h1
      have e : wrap64 (-(-9223372036854775808)) = -9223372036854775808 := by unfold wrap64; omega
      rw [e]
      rfl
    · rw [w64 (-x) (by omega) (by omega), if_pos (by omega)]
  · rw [if_neg h0, w64 (-x) (by omega) (by omega), if_neg (by omega)]
theorem times_eq (s t : Int) (hs : -9223372036854775808 ≤ s ∧ s ≤ 9223372036854775807) (ht : -9223372036854775808 ≤ t ∧ t ≤ 9223372036854775807) :
    ∃ p q, (-9223372036854775808 ≤ p ∧ p ≤ 9223372036854775807) ∧ spec_l01Times.f s t 1000000000000 = some (p, q) ∧ impl_product.f s t 1000000000000 = some (p, q) := by
  obtain ⟨u, h1, h2⟩ := abs_eq s hs
  obtain ⟨v, h3, h4⟩ := abs_eq t ht
  unfold spec_l01Times.f impl_product.f
  rw [h1, h2, h3, h4]
  simp only [Option.bind_some]
  by_cases c1 : s = 0
  · rw [if_pos c1]
    exact ⟨_, _, wrap_rng _, rfl, rfl⟩
  · rw [if_neg c1]
    have hu : ¬ u = 0 := by
      unfold impl_abs.f at h2
      by_cases h0 : s < 0
      · rw [if_pos h0] at h2
        have h5 := Option.some.inj h2
        intro h6
        rw [h6] at h5
        unfold wrap64 at h5
        omega
      · rw [if_neg h0] at h2
        have h5 := Option.some.inj h2
        omega
    rw [if_neg hu]
    by_cases c2 : v > wrap64 (Int.tdiv 1000000000000 u)
    · rw [if_pos c2]
      exact ⟨0, _, by omega, rfl, rfl⟩
    · rw [if_neg c2]
      exact ⟨_, _, wrap_rng _, rfl, rfl⟩

def sOut (R C : Int) (o : List Int × Bool) : Int × Int × List Int × Bool := if o.2 = true then (R, C, o.1, true) else (0, 0, [], false)
def iOut (R C : Int) (o : List Int × Bool) : Int × Int × List Int × Int := if o.2 = true then (R, C, o.1, 0) else (0, 0, [], 3)
theorem rng_of (l : List Int) (hw : ∀ x ∈ l, (Lit.int .i64 x).wf = true) (i : Nat) (h : i < l.length) : -9223372036854775808 ≤ rd l (i : Int) ∧ rd l (i : Int) ≤ 9223372036854775807 := by
  have hx : (Lit.int .i64 (rd l (i : Int))).wf = true := by rw [rd_nat l i h]; exact hw _ (List.getElem_mem _)
  simpa [Lit.wf, IntKind.min, IntKind.max, IntKind.signed, IntKind.bits] using hx
theorem at_idx (a b c : Nat) (n : Nat) (h : a * b + c < n) (hn : n ≤ 2304) : wrap64 (wrap64 ((a : Int) * (b : Int)) + (c : Int)) = ((a * b + c : Nat) : Int) := by
  have e1 : (a : Int) * (b : Int) = ((a * b : Nat) : Int) := by simp
  have h1 : wrap64 ((a * b : Nat) : Int) = ((a * b : Nat) : Int) := w64n (a * b) (Nat.le_trans (Nat.le_trans (Nat.le_add_right _ c) (Nat.le_of_lt (Nat.lt_of_lt_of_le h hn))) (by decide))
  rw [e1, h1]
  exact w64n (a * b + c) (Nat.le_trans (Nat.le_of_lt (Nat.lt_of_lt_of_le h hn)) (by decide))
theorem ent (R M C : Nat) (A B acc : List Int) (i j : Nat) (hi : i < R) (hj : j < C) (hM : M ≤ 48) (hC : C ≤ 48) (hAw : ∀ x ∈ A, (Lit.int .i64 x).wf = true) (hBw : ∀ x ∈ B, (Lit.int .i64 x).wf = true)
    (hA : ∀ i m : Nat, i < R → m < M → i * M + m < A.length) (hAl : A.length ≤ 2304) (hB : ∀ m j : Nat, m < M → j < C → m * C + j < B.length) (hBl : B.length ≤ 2304) (hZ : i * C + j < acc.length) (hZl : acc.length ≤ 2304) :
    ∀ (d m : Nat) (s t : Int), m + d = M → ∃ v b, (∀ k, d < k → impl_entryOf.l0 k i j s t M (m : Int) R M A M C B = some (v, b)) ∧
      (∀ k, spec_l01Multiply.l2 (k + d + 1) i j s t (m : Int) R M A M C B R C acc = if b = true then spec_l01Multiply.l1 k i ((j + 1 : Nat) : Int) R M A M C B R C (acc.set (i * C + j) v) else some (0, 0, [], false)) := by
  have hz := at_idx i C j acc.length hZ hZl
  have ej : wrap64 ((j : Int) + 1) = ((j + 1 : Nat) : Int) := w64n (j + 1) (by clear hz; omega)
  have z1 : (0 : Int) ≤ ((i * C + j : Nat) : Int) := Int.natCast_nonneg _
  have z2 : ((i * C + j : Nat) : Int) < (acc.length : Int) := Int.ofNat_lt.2 hZ
  have HZ := Aside0.mk hz
  have EJ := Aside0.mk ej
  have Z1 := Aside0.mk z1
  have Z2 := Aside0.mk z2
  clear hz ej z1 z2
  intro d
  induction d with
  | zero =>
    intro m s t hm
    refine ⟨s, true, fun k hk => ?_, fun k => ?_⟩
    · obtain ⟨k, rfl⟩ := succ_k hk
      simp only [impl_entryOf.l0]
      rw [if_neg (by omega)]
    · simp only [Nat.add_zero, spec_l01Multiply.l2]
      rw [if_neg (by omega), HZ.out, EJ.out, if_pos Z1.out, if_pos Z2.out, Int.toNat_natCast]
      rfl
  | succ d ih =>
    intro m s t hm
    have hml : m < M := by omega
    have c0 : (m : Int) < (M : Int) := by omega
    have hx := hA i m hi hml
    have hy := hB m j hml hj
    have em : wrap64 ((m : Int) + 1) = ((m + 1 : Nat) : Int) := w64n (m + 1) (by omega)
    have ea := at_idx i M m A.length hx hAl
    have eb := at_idx m C j B.length hy hBl
    have a1 : (0 : Int) ≤ ((i * M + m : Nat) : Int) := Int.natCast_nonneg _
    have a2 : ((i * M + m : Nat) : Int) < (A.length : Int) := Int.ofNat_lt.2 hx
    have b1 : (0 : Int) ≤ ((m * C + j : Nat) : Int) := Int.natCast_nonneg _
    have b2 : ((m * C + j : Nat) : Int) < (B.length : Int) := Int.ofNat_lt.2 hy
    obtain ⟨p, q, hp, h1, h2⟩ := times_eq (rd A ((i * M + m : Nat) : Int)) (rd B ((m * C + j : Nat) : Int)) (rng_of A hAw _ hx) (rng_of B hBw _ hy)
    obtain ⟨y, h3, h4⟩ := abs_eq p hp
    have hstep : ∀ k, impl_entryOf.l0 (k + 1) i j s t M (m : Int) R M A M C B = if q = true then (if wrap64 (t + y) > 1000000000000 then some (0, false) else impl_entryOf.l0 k i j (wrap64 (s + p)) (wrap64 (t + y)) M ((m + 1 : Nat) : Int) R M A M C B) else some (0, false) := by
      intro k
      rw [impl_entryOf.l0]
      unfold impl_Matrix_at.f
      rw [ea, eb]
      simp only [c0, a1, a2, b1, b2, if_true, Option.bind_some, h2, h4, em]
    have sstep : ∀ k, spec_l01Multiply.l2 (k + 1) i j s t (m : Int) R M A M C B R C acc = if q = true then (if wrap64 (t + y) > 1000000000000 then some (0, 0, [], false) else spec_l01Multiply.l2 k i j (wrap64 (s + p)) (wrap64 (t + y)) ((m + 1 : Nat) : Int) R M A M C B R C acc) else some (0, 0, [], false) := by
      intro k
      rw [spec_l01Multiply.l2]
      unfold spec_l01At.f
      rw [ea, eb]
      simp only [c0, a1, a2, b1, b2, if_true, Option.bind_some, h1, h3, em]
    clear em ea eb
    by_cases hq : q = true
    · by_cases ht : wrap64 (t + y) > 1000000000000
      · refine ⟨0, false, fun k hk => ?_, fun k => ?_⟩
        · cases k with
          | zero => exact absurd hk (Nat.not_lt_zero _)
          | succ k => rw [hstep k, if_pos hq, if_pos ht]
        · rw [sstep, if_pos hq, if_pos ht]
          rfl
      · obtain ⟨v, b, h5, h6⟩ := ih (m + 1) (wrap64 (s + p)) (wrap64 (t + y)) (by clear ht hstep sstep; omega)
        refine ⟨v, b, fun k hk => ?_, fun k => ?_⟩
        · cases k with
          | zero => exact absurd hk (Nat.not_lt_zero _)
          | succ k =>
            rw [hstep k, if_pos hq, if_neg ht]
            exact h5 k (Nat.lt_of_succ_lt_succ hk)
        · rw [sstep, if_pos hq, if_neg ht]
          exact h6 k
    · refine ⟨0, false, fun k hk => ?_, fun k => ?_⟩
      · cases k with
        | zero => exact absurd hk (Nat.not_lt_zero _)
        | succ k => rw [hstep k, if_neg hq]
      · rw [sstep, if_neg hq]
        rfl
theorem mu_l1 (R M C : Nat) (A B : List Int) (i Z : Nat) (hi : i < R) (hR : R ≤ 48) (hM : M ≤ 48) (hC : C ≤ 48) (hAw : ∀ x ∈ A, (Lit.int .i64 x).wf = true) (hBw : ∀ x ∈ B, (Lit.int .i64 x).wf = true)
    (hA : ∀ i m : Nat, i < R → m < M → i * M + m < A.length) (hAl : A.length ≤ 2304) (hB : ∀ m j : Nat, m < M → j < C → m * C + j < B.length) (hBl : B.length ≤ 2304) (hZ : ∀ i j : Nat, i < R → j < C → i * C + j < Z) (hZl : Z ≤ 2304) (F : Nat)
    (IH : ∀ (k : Nat) (acc : List Int), F < k → acc.length = Z → ∃ o, o.1.length ≤ 2304 ∧ spec_l01Multiply.l0 k ((i + 1 : Nat) : Int) R M A M C B R C acc = some (sOut R C o) ∧ impl_MultiplyMatrices.l0 k R ((i + 1 : Nat) : Int) R M A M C B R C acc = some (iOut R C o)) :
    ∀ (d j k : Nat) (acc : List Int), j + d = C → 60 * d + 1 + F < k → acc.length = Z →
    ∃ o, o.1.length ≤ 2304 ∧ spec_l01Multiply.l1 k (i : Int) (j : Int) R M A M C B R C acc = some (sOut R C o) ∧ impl_MultiplyMatrices.l1 k (i : Int) R (i : Int) C (j : Int) R M A M C B R C acc = some (iOut R C o) := by
  intro d
  induction d with
  | zero =>
    intro j k acc hj hk ha
    obtain ⟨k, rfl⟩ := succ_k (show F < k by omega)
    obtain ⟨o, h1, h2, h3⟩ := IH k acc (by omega) ha
    have e1 : wrap64 ((i : Int) + 1) = ((i + 1 : Nat) : Int) := w64n (i + 1) (by omega)
    have c0 : ¬ (j : Int) < (C : Int) := by clear e1; omega
    refine ⟨o, h1, ?_, ?_⟩
    · simp only [spec_l01Multiply.l1]
      rw [if_neg c0, e1, h2]
    · simp only [impl_MultiplyMatrices.l1]
      rw [if_neg c0, e1, h3]
  | succ d ih =>
    intro j k acc hj hk ha
    obtain ⟨k2, rfl⟩ : ∃ k2, k = k2 + M + 1 + 1 := ⟨k - M - 2, by omega⟩
    have hjc : j < C := by omega
    have c0 : (j : Int) < (C : Int) := by omega
    have hz : i * C + j < acc.length := by rw [ha]; exact hZ i j hi hjc
    obtain ⟨v, b, h5, h6⟩ := ent R M C A B acc i j hi hjc hM hC hAw hBw hA hAl hB hBl hz (by omega) M 0 0 0 (by omega)
    have h5' := h5 (k2 + M + 1) (by omega)
    have h6' := h6 k2
    rw [Int.natCast_zero] at h5' h6'
    have z1 : (0 : Int) ≤ ((i * C + j : Nat) : Int) := Int.natCast_nonneg _
    have z2 : ((i * C + j : Nat) : Int) < (acc.length : Int) := Int.ofNat_lt.2 hz
    have hk2 : 60 * d + 1 + F < k2 := by clear h5 h6 h5' h6' z1 z2 hz; omega
    have hj2 : j + 1 + d = C := by clear h5 h6 h5' h6' z1 z2 hz; omega
    have hle : k2 ≤ k2 + M + 1 := by clear h5 h6 h5' h6' z1 z2 hz; omega
    have hj3 : j + 1 ≤ 9223372036854775807 := by clear h5 h6 h5' h6' z1 z2 hz; omega
    have hz3 : acc.length ≤ 2304 := by rw [ha]; exact hZl
    have ej : wrap64 ((j : Int) + 1) = ((j + 1 : Nat) : Int) := w64n (j + 1) hj3
    have ez := at_idx i C j acc.length hz hz3
    cases b with
    | true =>
      obtain ⟨o, h1, h2, h3⟩ := ih (j + 1) k2 (acc.set (i * C + j) v) hj2 hk2 (by simp [ha])
      refine ⟨o, h1, ?_, ?_⟩
      · simp only [spec_l01Multiply.l1]
        rw [if_pos c0, h6', if_pos rfl]
        exact h2
      · simp only [impl_MultiplyMatrices.l1]
        unfold impl_entryOf.f impl_Matrix_at.f
        rw [if_pos c0, h5', ez, ej]
        simp only [Option.bind_some, z1, z2, if_true, Int.toNat_natCast]
        exact at_rounds (fun k => (impl_MultiplyMatrices.mono_l k).2.2 _ _ _ _ _ _ _ _ _ _ _ _ _ _) hle h3
    | false =>
      refine ⟨([], false), by simp, ?_, ?_⟩
      · simp only [spec_l01Multiply.l1]
        rw [if_pos c0, h6']
        rfl
      · simp only [impl_MultiplyMatrices.l1]
        unfold impl_entryOf.f
        rw [if_pos c0, h5']
        rfl
theorem mu_l0 (R M C : Nat) (A B : List Int) (Z : Nat) (hR : R ≤ 48) (hM : M ≤ 48) (hC : C ≤ 48) (hAw : ∀ x ∈ A, (Lit.int .i64 x).wf = true) (hBw : ∀ x ∈ B, (Lit.int .i64 x).wf = true)
    (hA : ∀ i m : Nat, i < R → m < M → i * M + m < A.length) (hAl : A.length ≤ 2304) (hB : ∀ m j : Nat, m < M → j < C → m * C + j < B.length) (hBl : B.length ≤ 2304) (hZ : ∀ i j : Nat, i < R → j < C → i * C + j < Z) (hZl : Z ≤ 2304) :
    ∀ (d i k : Nat) (acc : List Int), i + d = R → 3000 * d + 100 < k → acc.length = Z →
    ∃ o, o.1.length ≤ 2304 ∧ spec_l01Multiply.l0 k (i : Int) R M A M C B R C acc = some (sOut R C o) ∧ impl_MultiplyMatrices.l0 k R (i : Int) R M A M C B R C acc = some (iOut R C o) := by
  intro d
  induction d with
  | zero =>
    intro i k acc hi hk ha
    obtain ⟨k, rfl⟩ := succ_k (show 0 < k by omega)
    refine ⟨(acc, true), by rw [ha]; exact hZl, ?_, ?_⟩
    · simp only [spec_l01Multiply.l0]
      rw [if_neg (by omega)]
      rfl
    · simp only [impl_MultiplyMatrices.l0]
      rw [if_neg (by omega)]
      rfl
  | succ d ih =>
    intro i k acc hi hk ha
    obtain ⟨k, rfl⟩ := succ_k (show 3000 * d + 100 < k by omega)
    obtain ⟨o, h1, h2, h3⟩ := mu_l1 R M C A B i Z (by omega) hR hM hC hAw hBw hA hAl hB hBl hZ hZl (3000 * d + 100) (fun k acc h1 h2 => ih (i + 1) k acc (by omega) h1 h2) C 0 k acc (by omega) (by omega) ha
    refine ⟨o, h1, ?_, ?_⟩
    · simp only [spec_l01Multiply.l0]
      rw [if_pos (by omega)]
      exact h2
    · simp only [impl_MultiplyMatrices.l0]
      rw [if_pos (by omega)]
      exact h3

theorem specIsMatrix_l0 (a b : Int) (l : List Int) (hl : l.length ≤ 1048576) : ∀ (d i k : Nat), i + d = l.length → d < k →
    spec_IsMatrix.l0 k (i : Int) a b l = some (!((l.drop i).any matBad)) := by
  intro d
  induction d with
  | zero =>
    intro i k hd hk
    obtain ⟨k, rfl⟩ := succ_k hk
    simp only [spec_IsMatrix.l0]
    rw [if_neg (by omega), List.drop_of_length_le (by omega)]
    rfl
  | succ d ih =>
    intro i k hd hk
    obtain ⟨k, rfl⟩ := succ_k hk
    simp only [spec_IsMatrix.l0]
    rw [if_pos (by omega), if_pos (by omega), w64 _ (by omega) (by omega), cast_succ, ih (i + 1) k (by omega) (by omega), drop_rd l i (by omega)]
    unfold spec_l01In.f
    rw [List.any_cons]
    unfold matBad
    generalize rd l (i : Int) = y
    by_cases h1 : -1000000000000 ≤ y <;> by_cases h2 : y ≤ 1000000000000 <;> simp [h1, h2]
theorem prod48 (a b : Int) (h1 : 0 ≤ a) (h2 : a ≤ 48) (h3 : 0 ≤ b) (h4 : b ≤ 48) : 0 ≤ a * b ∧ a * b ≤ 2304 :=
  ⟨Int.mul_nonneg h1 h3, Int.le_trans (Int.mul_le_mul h2 h4 h3 (by omega)) (by omega)⟩
theorem specIsMatrix_eq (a b : Int) (l : List Int) (k : Nat) (hl : l.length ≤ 1048576) (hk : l.length + 1 < k) : spec_IsMatrix.f k a b l = some (isMatB a b l) := by
  obtain ⟨k, rfl⟩ := succ_k hk
  have hs := specIsMatrix_l0 a b l hl l.length 0 k (by omega) (by omega)
  unfold spec_IsMatrix.f spec_l01In.f isMatB
  simp only [spec_IsMatrix.j0]
  by_cases h1 : 0 ≤ a <;> by_cases h2 : a ≤ 48 <;> by_cases h3 : 0 ≤ b <;> by_cases h4 : b ≤ 48
  case pos =>
    have hp := prod48 a b h1 h2 h3 h4
    rw [w64 (a * b) (by omega) (by omega)]
    rw [Int.natCast_zero] at hs
    by_cases h5 : (l.length : Int) = a * b
    · have h5' : ((l.length : Int) != a * b) = false := by simp [h5]
      simp [h1, h2, h3, h4, h5, h5', hs]
    · have h5' : ((l.length : Int) != a * b) = true := by simp [h5]
      simp [h1, h2, h3, h4, h5, h5']
  all_goals simp [h1, h2, h3, h4]

theorem spec_MultiplyMatrices_j0 (k : Nat) (M C R : Int) (A B : List Int) :
    ((some true).bind fun t157 => if t157 = true then ((some true).bind fun t158 => spec_MultiplyMatrices.j0 (k + 1) (!t158) R M A M C B) else spec_MultiplyMatrices.j0 (k + 1) true R M A M C B) = (spec_l01Multiply.f k R M A M C B).bind fun bt159 => (if bt159.2.2.2 = true then (some (bt159.1, bt159.2.1, bt159.2.2.1, 0)) else (some (0, 0, ([] : List Int), 3))) := by
  show spec_MultiplyMatrices.j0 (k + 1) false R M A M C B = _
  rw [spec_MultiplyMatrices.j0, if_neg (by simp), if_pos rfl]
theorem impl_MultiplyMatrices_j0 (k : Nat) (M C R : Int) (A B : List Int) :
    ((some true).bind fun t184 => if t184 = true then ((some true).bind fun t185 => impl_MultiplyMatrices.j0 (k + 1) (!t185) R M A M C B) else impl_MultiplyMatrices.j0 (k + 1) true R M A M C B) = (impl_zeroMatrix.f R C).bind fun bt186 => (impl_MultiplyMatrices.l0 k R 0 R M A M C B bt186.1 bt186.2.1 bt186.2.2) := by
  show impl_MultiplyMatrices.j0 (k + 1) false R M A M C B = _
  rw [impl_MultiplyMatrices.j0, if_neg (by simp), if_pos rfl]
theorem mul_both (a b : Int) (A : List Int) (c d : Int) (B : List Int) (hA : A.length ≤ 1048576) (hB : B.length ≤ 1048576) (hAw : ∀ x ∈ A, (Lit.int .i64 x).wf = true) (hBw : ∀ x ∈ B, (Lit.int .i64 x).wf = true) :
    ∃ x y r t, r.length ≤ 1048576 ∧ ∀ k, 1200000 < k → (spec_MultiplyMatrices.f k a b A c d B = some (x, y, r, t) ∧ impl_MultiplyMatrices.f k a b A c d B = some (x, y, r, t)) := by
  by_cases h1 : isMatB a b A = true
  case neg =>
    refine ⟨0, 0, [], 1, by simp, fun k hk => ?_⟩
    obtain ⟨k, rfl⟩ := succ_k hk
    unfold spec_MultiplyMatrices.f impl_MultiplyMatrices.f impl_isMatrix.f
    rw [specIsMatrix_eq a b A _ hA (by omega)]
    have h1' : isMatB a b A = false := by simpa using h1
    simp [h1', spec_MultiplyMatrices.j0, impl_MultiplyMatrices.j0]
  by_cases h2 : isMatB c d B = true
  case neg =>
    refine ⟨0, 0, [], 1, by simp, fun k hk => ?_⟩
    obtain ⟨k, rfl⟩ := succ_k hk
    unfold spec_MultiplyMatrices.f impl_MultiplyMatrices.f impl_isMatrix.f
    rw [specIsMatrix_eq a b A _ hA (by omega), specIsMatrix_eq c d B _ hB (by omega)]
    have h2' : isMatB c d B = false := by simpa using h2
    simp [h1, h2', spec_MultiplyMatrices.j0, impl_MultiplyMatrices.j0]
  by_cases h3 : b = c
  case neg =>
    refine ⟨0, 0, [], 2, by simp, fun k hk => ?_⟩
    obtain ⟨k, rfl⟩ := succ_k hk
    unfold spec_MultiplyMatrices.f impl_MultiplyMatrices.f impl_isMatrix.f
    rw [specIsMatrix_eq a b A _ hA (by omega), specIsMatrix_eq c d B _ hB (by omega)]
    simp [h1, h2, h3, spec_MultiplyMatrices.j0, impl_MultiplyMatrices.j0]
  subst h3
  obtain ⟨g1, g2, g3⟩ := isMatB_len h1
  obtain ⟨_, g5, g6⟩ := isMatB_len h2
  obtain ⟨R, rfl⟩ : ∃ R : Nat, a = R := ⟨a.toNat, by omega⟩
  obtain ⟨M, rfl⟩ : ∃ M : Nat, b = M := ⟨b.toNat, by omega⟩
  obtain ⟨C, rfl⟩ : ∃ C : Nat, d = C := ⟨d.toNat, by omega⟩
  have m1 := Nat.mul_le_mul (show R ≤ 48 by omega) (show M ≤ 48 by omega)
  have m2 := Nat.mul_le_mul (show M ≤ 48 by omega) (show C ≤ 48 by omega)
  have m3 := Nat.mul_le_mul (show R ≤ 48 by omega) (show C ≤ 48 by omega)
  have e1 : (R : Int) * (M : Int) = ((R * M : Nat) : Int) := by simp
  have e2 : (M : Int) * (C : Int) = ((M * C : Nat) : Int) := by simp
  have e3 : (R : Int) * (C : Int) = ((R * C : Nat) : Int) := by simp
  rw [e1] at g3
  rw [e2] at g6
  have g3' : A.length = R * M := by omega
  have g6' : B.length = M * C := by omega
  obtain ⟨K, hK⟩ : ∃ K : Nat, K = 150000 := ⟨_, rfl⟩
  obtain ⟨o, h4, h5, h6⟩ := mu_l0 R M C A B (R * C) (by omega) (by omega) (by omega) hAw hBw (fun i m hi hm => by rw [g3']; exact idx_lt hi hm) (by omega) (fun m j hm hj => by rw [g6']; exact idx_lt hm hj) (by omega) (fun i j hi hj => idx_lt hi hj) (by omega) R 0 K (List.replicate (R * C) 0) (by omega) (by omega) (by simp)
  rw [Int.natCast_zero] at h5 h6
  have q1 : (0 : Int) ≤ ((R * C : Nat) : Int) := Int.natCast_nonneg _
  have q2 : R * C ≤ 35184372088832 := by omega
  have q3 : R * C ≤ 9223372036854775807 := by omega
  have ew : wrap64 ((R * C : Nat) : Int) = ((R * C : Nat) : Int) := w64n (R * C) q3
  have hs : ∀ k, K ≤ k → spec_l01Multiply.f k (R : Int) M A M C B = some (sOut R C o) := by
    intro k hk
    unfold spec_l01Multiply.f spec_l01Zero.f
    rw [e3, ew, Int.toNat_natCast, if_pos q1, if_pos q2]
    exact at_rounds (fun k => (spec_l01Multiply.mono_l k).1 _ _ _ _ _ _ _ _ _ _) hk h5
  have hi : ∀ k, K ≤ k → (impl_zeroMatrix.f (R : Int) C).bind (fun bt => impl_MultiplyMatrices.l0 k R 0 R M A M C B bt.1 bt.2.1 bt.2.2) = some (iOut R C o) := by
    intro k hk
    unfold impl_zeroMatrix.f
    rw [e3, ew, Int.toNat_natCast, if_pos q1, if_pos q2]
    exact at_rounds (fun k => (impl_MultiplyMatrices.mono_l k).2.1 _ _ _ _ _ _ _ _ _ _ _) hk h6
  clear ew
  refine ⟨(iOut R C o).1, (iOut R C o).2.1, (iOut R C o).2.2.1, (iOut R C o).2.2.2, ?_, fun k hk => ?_⟩
  · unfold iOut
    split
    · show o.1.length ≤ 1048576
      omega
    · simp
  obtain ⟨k, rfl⟩ := succ_k (show 1199999 < k by omega)
  unfold spec_MultiplyMatrices.f impl_MultiplyMatrices.f impl_isMatrix.f
  rw [specIsMatrix_eq _ _ A _ hA (by omega), specIsMatrix_eq _ _ B _ hB (by omega)]
  have hsk := hs k (by omega)
  have hik := hi k (by omega)
  clear hs hi h5 h6 hK
  rw [h1, h2, spec_MultiplyMatrices_j0 k M C R A B, impl_MultiplyMatrices_j0 k M C R A B, hsk, hik]
  constructor
  · unfold sOut iOut
    obtain ⟨r, t⟩ := o
    cases t <;> rfl
  · rfl

/-- The product of the row sums (each at least 1) of the rows from i on. -/
def volF (n : Nat) (l : List Int) : Nat → Nat → Nat
  | 0, _ => 1
  | d + 1, i => max (nabs (fun c => rd l ((i * n + c : Nat) : Int)) (RC n)) 1 * volF n l d (i + 1)
theorem volF_snoc (n : Nat) (l : List Int) : ∀ (d i : Nat), volF n l (d + 1) i = max (nabs (fun c => rd l (((i + d) * n + c : Nat) : Int)) (RC n)) 1 * volF n l d i
  | 0, i => by simp [volF]
  | d + 1, i => by
    rw [volF, volF_snoc n l d (i + 1), volF, show i + 1 + d = i + (d + 1) by omega, Nat.mul_left_comm]
theorem volF_eq (n : Nat) (l : List Int) : ∀ d, volF n l d 0 = vol (RR (fun a c => rd l ((a * n + c : Nat) : Int)) d) (RC n)
  | 0 => rfl
  | d + 1 => by
    rw [volF_snoc, volF_eq n l d, Nat.zero_add]
    rfl
theorem volF_pos (n : Nat) (l : List Int) : ∀ (d i : Nat), 1 ≤ volF n l d i
  | 0, _ => Nat.le_refl _
  | d + 1, i => Nat.mul_le_mul (Nat.le_max_right (nabs (fun c => rd l ((i * n + c : Nat) : Int)) (RC n)) 1) (volF_pos n l d (i + 1))
/-- A row's sum, counted from the front. -/
def rowS (f : Nat → Int) : Nat → Nat → Nat
  | 0, _ => 0
  | d + 1, j => (f j).natAbs + rowS f d (j + 1)
theorem rowS_snoc (f : Nat → Int) : ∀ (d j : Nat), rowS f (d + 1) j = (f (j + d)).natAbs + rowS f d j
  | 0, j => by simp [rowS]
  | d + 1, j => by
    rw [rowS, rowS_snoc f d (j + 1), rowS, show j + 1 + d = j + (d + 1) by omega]
    omega
theorem rowS_eq (f : Nat → Int) : ∀ d, rowS f d 0 = nabs f (RC d)
  | 0 => rfl
  | d + 1 => by
    rw [rowS_snoc, rowS_eq f d, Nat.zero_add]
    rfl
theorem rowS_le (f : Nat → Int) (B : Nat) (h : ∀ c, (f c).natAbs ≤ B) : ∀ (d j : Nat), rowS f d j ≤ d * B
  | 0, _ => by simp [rowS]
  | d + 1, j => by
    have h1 := rowS_le f B h d (j + 1)
    have h2 := h j
    rw [rowS, Nat.succ_mul]
    omega
theorem volAbs_eq (x : Int) (h : x.natAbs ≤ 1000000000000) : volAbs x = (x.natAbs : Int) := by
  unfold volAbs
  split
  · rw [w64 _ (by omega) (by omega)]; omega
  · omega
theorem volRow_eq (y : List Int) (hy : ∀ j : Nat, (rd y (j : Int)).natAbs ≤ 1000000000000) : ∀ (d j : Nat) (s : Nat), j + d ≤ 48 → s ≤ j * 1000000000000 → volRow y d j (s : Int) = ((s + rowS (fun c => rd y (c : Int)) d j : Nat) : Int)
  | 0, j, s, _, _ => by simp [volRow, rowS]
  | d + 1, j, s, hj, hs => by
    have h1 := hy j
    rw [volRow, volAbs_eq _ h1, w64 _ (by omega) (by omega)]
    rw [show (s : Int) + ((rd y (j : Int)).natAbs : Int) = ((s + (rd y (j : Int)).natAbs : Nat) : Int) by omega, volRow_eq y hy d (j + 1) _ (by omega) (by rw [Nat.succ_mul]; omega), rowS, Nat.add_assoc]
theorem row_cut (n : Nat) (l : List Int) (i c : Nat) (hc : c < n) (h : i * n + n ≤ l.length) : rd ((l.take (i * n + n)).drop (i * n)) (c : Int) = rd l ((i * n + c : Nat) : Int) := by
  unfold rd
  rw [Int.toNat_natCast, Int.toNat_natCast, List.getD_eq_getElem?_getD, List.getD_eq_getElem?_getD, List.getElem?_drop, List.getElem?_take, if_pos (by omega)]
theorem rowS_congr (f g : Nat → Int) : ∀ (d j : Nat), (∀ c, j ≤ c → c < j + d → f c = g c) → rowS f d j = rowS g d j
  | 0, _, _ => rfl
  | d + 1, j, h => by rw [rowS, rowS, h j (Nat.le_refl j) (by omega), rowS_congr f g d (j + 1) (fun c h1 h2 => h c (by omega) (by omega))]
theorem row_sum (n : Nat) (hn : n ≤ 48) (l : List Int) (hl : l.length = n * n) (hw : ∀ x ∈ l, x.natAbs ≤ 1000000000000) (i : Nat) (hi : i < n) :
    volRow ((l.take (i * n + n)).drop (i * n)) n 0 0 = (nabs (fun c => rd l ((i * n + c : Nat) : Int)) (RC n) : Int) ∧ nabs (fun c => rd l ((i * n + c : Nat) : Int)) (RC n) ≤ 48000000000000 := by
  have h1 : (i + 1) * n ≤ n * n := Nat.mul_le_mul_right n (by omega)
  rw [Nat.succ_mul] at h1
  have h2 := volRow_eq ((l.take (i * n + n)).drop (i * n)) (fun j => rd_small _ (fun x hx => hw x (List.mem_of_mem_take (List.mem_of_mem_drop hx))) _) n 0 0 (by omega) (by omega)
  rw [rowS_congr _ (fun c => rd l ((i * n + c : Nat) : Int)) n 0 (fun c _ h => row_cut n l i c (by omega) (by omega)), rowS_eq] at h2
  refine ⟨by simpa using h2, ?_⟩
  have h3 := rowS_le (fun c => rd l ((i * n + c : Nat) : Int)) 1000000000000 (fun c => rd_small l hw _) n 0
  rw [rowS_eq] at h3
  omega
theorem volGo_eq (n : Nat) (hn : n ≤ 48) (l : List Int) (hl : l.length = n * n) (hw : ∀ x ∈ l, x.natAbs ≤ 1000000000000) : ∀ (d i o : Nat), i + d = n → 1 ≤ o → o ≤ 1000000000 → (volGo n l d i (o : Int) > 1000000000 ↔ o * volF n l d i > 1000000000)
  | 0, i, o, _, h1, h2 => by simp [volGo, volF]; omega
  | d + 1, i, o, hi, h1, h2 => by
    obtain ⟨e, hb⟩ := row_sum n hn l hl hw i (by omega)
    rw [volGo, volF, e]
    obtain ⟨m, hm⟩ : ∃ m : Nat, m = nabs (fun c => rd l ((i * n + c : Nat) : Int)) (RC n) := ⟨_, rfl⟩
    rw [← hm] at hb ⊢
    clear e hm
    have hp := volF_pos n l d (i + 1)
    obtain ⟨f, hf⟩ : ∃ f : Nat, mx (mn (m : Int) 1000000001) 1 = (f : Int) ∧ 1 ≤ f ∧ f ≤ 1000000001 ∧ (m ≤ 1000000001 → f = max m 1) ∧ (1000000001 < m → f = 1000000001) := by
      refine ⟨max (min m 1000000001) 1, ?_, by omega, by omega, by omega, by omega⟩
      unfold mx mn
      split <;> split <;> omega
    obtain ⟨f1, f2, f3, f4, f5⟩ := hf
    have hof : o * f ≤ 1000000000 * 1000000001 := Nat.mul_le_mul h2 f3
    have ew : wrap64 ((o : Int) * (f : Int)) = ((o * f : Nat) : Int) := by rw [← Int.natCast_mul]; exact w64n _ (by omega)
    rw [f1, ew]
    clear f1 ew
    have hfm : f ≤ max m 1 := by
      by_cases c : m ≤ 1000000001
      · rw [f4 c]; omega
      · rw [f5 (by omega)]; omega
    by_cases c : ((o * f : Nat) : Int) > 1000000000
    · rw [if_pos c]
      refine ⟨fun _ => ?_, fun _ => c⟩
      have g1 : o * f ≤ o * (max m 1 * volF n l d (i + 1)) := Nat.mul_le_mul_left o (Nat.le_trans hfm (Nat.le_mul_of_pos_right _ hp))
      omega
    · rw [if_neg c]
      have hm : m ≤ 1000000001 := by
        by_cases g : m ≤ 1000000001
        · exact g
        · have := f5 (by omega)
          have g2 : 1 * f ≤ o * f := Nat.mul_le_mul_right f h1
          omega
      have hof1 : 1 * 1 ≤ o * f := Nat.mul_le_mul h1 f2
      have := volGo_eq n hn l hl hw d (i + 1) (o * f) (by omega) (by omega) (by omega)
      rw [this, f4 hm, Nat.mul_assoc]
theorem volL_eq (n : Nat) (l : List Int) : volL n l = volF n l n 0 := (volF_eq n l n).symm
theorem implVol (n : Nat) (hn : n ≤ 48) (l : List Int) (hl : l.length = n * n) (hw : ∀ x ∈ l, x.natAbs ≤ 1000000000000) : ∃ v, impl_volume.f (n : Int) (n : Int) l = some v ∧ (v > 1000000000 ↔ volL n l > 1000000000) := by
  have h := volGo_eq n hn l hl hw n 0 1 (by omega) (by omega) (by omega)
  refine ⟨volGo n l n 0 1, ?_, by rw [volL_eq]; simpa using h⟩
  unfold impl_volume.f
  rw [if_pos ⟨by omega, by omega, by omega, by omega, by rw [hl]; simp⟩, Int.toNat_natCast]

theorem mat_idx (n : Nat) (hn : n ≤ 48) (r c : Nat) (hr : r < n) (hc : c < n) : wrap64 (wrap64 ((r : Int) * (n : Int)) + (c : Int)) = ((r * n + c : Nat) : Int) := by
  have h := idx_lt hr hc
  have hm := Nat.mul_le_mul hn hn
  have e1 : (r : Int) * (n : Int) = ((r * n : Nat) : Int) := by simp
  rw [e1, w64n (r * n) (by omega)]
  exact w64n (r * n + c) (by omega)
theorem at_im (n : Nat) (hn : n ≤ 48) (l : List Int) (hl : l.length = n * n) (r c : Nat) (hr : r < n) (hc : c < n) :
    impl_Matrix_at.f (n : Int) (n : Int) l (r : Int) (c : Int) = some ((r * n + c : Nat) : Int) ∧ (0 : Int) ≤ ((r * n + c : Nat) : Int) ∧ ((r * n + c : Nat) : Int) < (l.length : Int) := by
  have h := idx_lt hr hc
  have h1 : (0 : Int) ≤ ((r * n + c : Nat) : Int) := Int.natCast_nonneg _
  have h2 : ((r * n + c : Nat) : Int) < (l.length : Int) := by rw [hl]; exact Int.ofNat_lt.2 h
  refine ⟨?_, h1, h2⟩
  unfold impl_Matrix_at.f
  rw [mat_idx n hn r c hr hc, if_pos h1, if_pos h2]
theorem id_l4 (n k i : Nat) (hn : n ≤ 48) (A : Nat → Nat → Int) (s p : Int) (B : Bar n k A (Dm A k) p) (hk : k < n) (hz : Dm A k k k ≠ 0) (hV : vol (RR A n) (RC n) ≤ 1000000000) (hi : k < i) (hi2 : i < n) :
    ∀ (d j : Nat) (l : List Int), j + d = n → k < j → Inv4 n k A i j l → ∃ l', Inv4 n k A i n l' ∧ ∀ r, Evt (fun K => impl_determinant.l3 K s p (k : Int) ((i + 1 : Nat) : Int) (n : Int) (k : Int) (n : Int) (n : Int) l') r → Evt (fun K => impl_determinant.l4 K s p (k : Int) (i : Int) (j : Int) (n : Int) (k : Int) (n : Int) (n : Int) l) r := by
  intro d
  induction d with
  | zero =>
    intro j l hj _ h
    obtain rfl : j = n := hj
    refine ⟨l, h, fun r hr => Evt.step hr fun K => ?_⟩
    rw [impl_determinant.l4, if_neg (by omega), w64 ((i : Int) + 1) (by omega) (by omega), cast_succ]
  | succ d ih =>
    intro j l hj hkj h
    have hjn : j < n := by omega
    obtain ⟨v, h1, h2⟩ := Inv4.step B hk hz hV h hi hi2 hkj hjn
    obtain ⟨l', h3, h4⟩ := ih (j + 1) _ (by omega) (by omega) h1
    refine ⟨l', h3, fun r hr => Evt.step (h4 r hr) fun K => ?_⟩
    obtain ⟨a1, a2, a3⟩ := at_im n hn l h.1 i j hi2 hjn
    obtain ⟨b1, b2, b3⟩ := at_im n hn l h.1 k k hk hk
    obtain ⟨c1, c2, c3⟩ := at_im n hn l h.1 i k hi2 hk
    obtain ⟨d1, d2, d3⟩ := at_im n hn l h.1 k j hk hjn
    have hj1 : (j : Int) < (n : Int) := by omega
    have ej : wrap64 ((j : Int) + 1) = ((j + 1 : Nat) : Int) := w64n (j + 1) (by omega)
    rw [impl_determinant.l4, a1, b1, c1, d1, ej]
    simp only [hj1, a2, a3, b2, b3, c2, c3, d2, d3, if_true, Option.bind_some, if_neg B.h0, Int.toNat_natCast, h2]
theorem id_l3 (n k : Nat) (hn : n ≤ 48) (A : Nat → Nat → Int) (s p : Int) (B : Bar n k A (Dm A k) p) (hk : k < n) (hz : Dm A k k k ≠ 0) (hV : vol (RR A n) (RC n) ≤ 1000000000) :
    ∀ (d i : Nat) (l : List Int), i + d = n → k < i → Inv4 n k A i (k + 1) l → ∃ l', St n (k + 1) A l' (Dm A k k k) ∧ ∀ r, Evt (fun K => impl_determinant.l0 K s (Dm A k k k) (n : Int) ((k + 1 : Nat) : Int) (n : Int) (n : Int) l') r → Evt (fun K => impl_determinant.l3 K s p (k : Int) (i : Int) (n : Int) (k : Int) (n : Int) (n : Int) l) r := by
  intro d
  induction d with
  | zero =>
    intro i l hi _ h
    obtain rfl : i = n := hi
    refine ⟨l, Inv4.done B hk hz h, fun r hr => Evt.step hr fun K => ?_⟩
    obtain ⟨b1, b2, b3⟩ := at_im i hn l h.1 k k hk hk
    have ek : wrap64 ((k : Int) + 1) = ((k + 1 : Nat) : Int) := w64n (k + 1) (by omega)
    rw [impl_determinant.l3, if_neg (by omega), b1, ek]
    simp only [b2, b3, if_true, Option.bind_some, h.diag hk]
  | succ d ih =>
    intro i l hi hki h
    have hin : i < n := by omega
    obtain ⟨l1, h1, h2⟩ := id_l4 n k i hn A s p B hk hz hV hki hin (n - (k + 1)) (k + 1) l (by omega) (by omega) h
    obtain ⟨l2, h3, h4⟩ := ih (i + 1) l1 (by omega) (by omega) h1.row
    refine ⟨l2, h3, fun r hr => Evt.step (h2 r (h4 r hr)) fun K => ?_⟩
    rw [impl_determinant.l3, if_pos (by omega), w64 ((k : Int) + 1) (by omega) (by omega), cast_succ]
theorem id_l1 (n k : Nat) (hn : n ≤ 48) (A : Nat → Nat → Int) (s p : Int) (l : List Int) (S : St n k A l p) (hk : k < n) :
    ∀ (d q : Nat), q + d = n → k ≤ q → (∀ a, k ≤ a → a < q → Dm A k a k = 0) → ∃ q', k ≤ q' ∧ q' ≤ n ∧ (∀ a, k ≤ a → a < q' → Dm A k a k = 0) ∧ (q' < n → Dm A k q' k ≠ 0) ∧
      ∀ r, Evt (fun K => impl_determinant.j2 K s p (k : Int) (q' : Int) (n : Int) (k : Int) (n : Int) (n : Int) l) r → Evt (fun K => impl_determinant.l1 K s p (k : Int) (q : Int) (n : Int) (k : Int) (n : Int) (n : Int) l) r := by
  intro d
  induction d with
  | zero =>
    intro q hq hkq h
    obtain rfl : q = n := hq
    refine ⟨q, hkq, Nat.le_refl _, h, fun e => absurd e (by omega), fun r hr => Evt.step hr fun K => ?_⟩
    rw [impl_determinant.l1, if_neg (by omega)]
  | succ d ih =>
    intro q hq hkq h
    have hqn : q < n := by omega
    obtain ⟨a1, a2, a3⟩ := at_im n hn l S.len q k hqn hk
    have hq1 : (q : Int) < (n : Int) := by omega
    have hc := S.cell q k hkq hqn (Nat.le_refl k) hk
    by_cases e : Dm A k q k = 0
    · obtain ⟨q', h1, h2, h3, h4, h5⟩ := ih (q + 1) (by omega) (by omega) (fun a h1 h2 => by
        by_cases c : a = q
        · rw [c]; exact e
        · exact h a h1 (by omega))
      refine ⟨q', h1, h2, h3, h4, fun r hr => Evt.step (h5 r hr) fun K => ?_⟩
      have ej : wrap64 ((q : Int) + 1) = ((q + 1 : Nat) : Int) := w64n (q + 1) (by omega)
      rw [impl_determinant.l1, a1, ej]
      simp only [hq1, a2, a3, if_true, Option.bind_some, hc, e]
    · refine ⟨q, hkq, by omega, h, fun _ => e, fun r hr => Evt.step hr fun K => ?_⟩
      rw [impl_determinant.l1, a1]
      simp only [hq1, a2, a3, if_true, Option.bind_some, hc, if_neg e]
theorem id_l2 (n k q : Nat) (hn : n ≤ 48) (s p : Int) (l0 : List Int) (hk : k < n) (hq : q < n) (hkq : k ≠ q) :
    ∀ (d j : Nat) (l : List Int), j + d = n → SwJ n k q j l0 l → ∃ l', SwJ n k q n l0 l' ∧ ∀ r, Evt (fun K => impl_determinant.j4 K s p (k : Int) (n : Int) (k : Int) (n : Int) (n : Int) l') r → Evt (fun K => impl_determinant.l2 K s p (k : Int) (q : Int) (n : Int) (k : Int) (n : Int) (j : Int) (n : Int) (n : Int) l) r := by
  intro d
  induction d with
  | zero =>
    intro j l hj h
    obtain rfl : j = n := hj
    refine ⟨l, h, fun r hr => Evt.step hr fun K => ?_⟩
    rw [impl_determinant.l2, if_neg (by omega)]
  | succ d ih =>
    intro j l hj h
    have hjn : j < n := by omega
    obtain ⟨l', h3, h4⟩ := ih (j + 1) _ (by omega) (h.step hk hq hkq hjn)
    refine ⟨l', h3, fun r hr => Evt.step (h4 r hr) fun K => ?_⟩
    obtain ⟨a1, a2, a3⟩ := at_im n hn l h.1 k j hk hjn
    obtain ⟨b1, b2, b3⟩ := at_im n hn l h.1 q j hq hjn
    have hj1 : (j : Int) < (n : Int) := by omega
    have ej : wrap64 ((j : Int) + 1) = ((j + 1 : Nat) : Int) := w64n (j + 1) (by omega)
    rw [impl_determinant.l2, a1, b1, ej]
    simp only [hj1, a2, a3, b2, b3, if_true, Option.bind_some, Int.toNat_natCast]
theorem id_l0 (n : Nat) (hn : n ≤ 48) : ∀ (d k : Nat) (A : Nat → Nat → Int) (s p : Int) (l : List Int), k + d = n → St n k A l p → vol (RR A n) (RC n) ≤ 1000000000 → (s = 1 ∨ s = -1) →
    ∃ l', Evt (fun K => impl_determinant.l0 K s p (n : Int) (k : Int) (n : Int) (n : Int) l) (s * det (RR A n) (RC n), l') := by
  intro d
  induction d with
  | zero =>
    intro k A s p l hk S hV hs
    obtain rfl : k = n := hk
    have hb := Nat.le_trans (det_bound (RR A k) (RC k)) hV
    refine ⟨l, Evt.now fun K => ?_⟩
    rw [impl_determinant.l0, if_neg (by omega), S.B.hp]
    rw [w64 _ (by rcases hs with h | h <;> rw [h] <;> omega) (by rcases hs with h | h <;> rw [h] <;> omega)]
  | succ d ih =>
    intro k A s p l hk S hV hs
    have hkn : k < n := by omega
    obtain ⟨q, h1, h2, h3, h4, h5⟩ := id_l1 n k hn A s p l S hkn (n - k) k (by omega) (Nat.le_refl k) (fun a h1 h2 => absurd h2 (by omega))
    have key : ∀ (s' : Int) (A' : Nat → Nat → Int) (l1 : List Int), (s' = 1 ∨ s' = -1) → St n k A' l1 p → vol (RR A' n) (RC n) ≤ 1000000000 → Dm A' k k k ≠ 0 → ∃ l', Evt (fun K => impl_determinant.j4 K s' p (k : Int) (n : Int) (k : Int) (n : Int) (n : Int) l1) (s' * det (RR A' n) (RC n), l') := by
      intro s' A' l1 hs' S' hV' hz
      obtain ⟨l2, g1, g2⟩ := id_l3 n k hn A' s' p S'.B hkn hz hV' (n - (k + 1)) (k + 1) l1 (by omega) (by omega) (Inv4.start S')
      obtain ⟨l3, g3⟩ := ih (k + 1) A' s' (Dm A' k k k) l2 (by omega) g1 hV' hs'
      refine ⟨l3, Evt.step (g2 _ g3) fun K => ?_⟩
      rw [impl_determinant.j4, w64 ((k : Int) + 1) (by omega) (by omega), cast_succ]
    have first : ∀ r, Evt (fun K => impl_determinant.j2 K s p (k : Int) (q : Int) (n : Int) (k : Int) (n : Int) (n : Int) l) r → Evt (fun K => impl_determinant.l0 K s p (n : Int) (k : Int) (n : Int) (n : Int) l) r := by
      intro r hr
      refine Evt.step (h5 r hr) fun K => ?_
      rw [impl_determinant.l0, if_pos (by omega)]
    by_cases e1 : q = n
    · refine ⟨l, first _ (Evt.now fun K => ?_)⟩
      have hz := S.B.none hkn (fun a g1 g2 => h3 a g1 (by omega))
      rw [impl_determinant.j2, if_pos (by omega), hz]
      simp
    · by_cases e2 : q = k
      · subst e2
        obtain ⟨l', g⟩ := key s A l hs S hV (h4 (by omega))
        refine ⟨l', first _ (Evt.step g fun K => ?_)⟩
        rw [impl_determinant.j2, if_neg (by omega), if_pos rfl]
      · have hkq : k < q := by omega
        have hqn : q < n := by omega
        obtain ⟨l1, g1, g2⟩ := id_l2 n k q hn (-s) p l hkn hqn (by omega) n 0 l (by omega) (SwJ.start S.len)
        have S' := S.swap hkn h1 hqn g1.1 (fun a x ha hx => by rw [g1.2 a x ha hx, if_pos hx])
        obtain ⟨w1, w2⟩ := sw_det A k q n hkq hqn (RC n)
        obtain ⟨l', g⟩ := key (-s) (sw k q A) l1 (by omega) S' (by rw [w2]; exact hV) (by rw [Dm_sw A k q h1]; simp only [sw, if_true]; exact h4 hqn)
        refine ⟨l', first _ (Evt.step (g2 _ ?_) fun K => ?_)⟩
        · rw [w1] at g
          rw [show s * det (RR A n) (RC n) = -s * -det (RR A n) (RC n) by rw [Int.neg_mul_neg]]
          exact g
        · rw [impl_determinant.j2, if_neg (by omega), if_neg (by omega), w64 (-s) (by omega) (by omega)]
          rfl
theorem implDet (n : Nat) (hn : n ≤ 48) (l : List Int) (hl : l.length = n * n) (hV : volL n l ≤ 1000000000) : ∃ l', Evt (fun K => impl_determinant.f K (n : Int) (n : Int) l) (detL n l, l') := by
  obtain ⟨l', h⟩ := id_l0 n hn n 0 _ 1 1 l (by omega) (St.first n l hl) hV (.inl rfl)
  rw [Int.one_mul] at h
  exact ⟨l', h⟩

/-- What the determinant's two functions answer. -/
def detAns (a b : Int) (l : List Int) : Int × Int :=
  if isMatB a b l = true then (if a = b then (if volL a.toNat l ≤ 1000000000 then (detL a.toNat l, 0) else (0, 3)) else (0, 2)) else (0, 1)
theorem implDeterminant_ev (a b : Int) (l : List Int) (hl : l.length ≤ 1048576) : Evt (fun K => impl_Determinant.f K a b l) (detAns a b l) := by
  unfold impl_Determinant.f impl_isMatrix.f detAns
  by_cases h1 : isMatB a b l = true
  case neg =>
    refine Evt.const fun K => ?_
    simp [h1]
  by_cases h2 : a = b
  case neg =>
    refine Evt.const fun K => ?_
    simp [h1, h2]
  subst h2
  obtain ⟨g1, _, g3⟩ := isMatB_len h1
  have hw := isMatB_small h1
  obtain ⟨n, rfl⟩ : ∃ n : Nat, a = n := ⟨a.toNat, by omega⟩
  rw [← Int.natCast_mul] at g3
  have g3' : l.length = n * n := by omega
  obtain ⟨v, hv, hiff⟩ := implVol n (by omega) l g3' hw
  simp only [h1, if_true, Option.bind_some, hv, Int.toNat_natCast]
  by_cases h3 : volL n l ≤ 1000000000
  · have h4 : ¬ v > 1000000000 := fun c => by have := hiff.mp c; omega
    obtain ⟨l', h5⟩ := implDet n (by omega) l g3' h3
    rw [if_pos h3]
    simp only [h4, if_false]
    unfold impl_copyMatrix.f slices_Clone_int64_int64.f
    simp only [show l.length < 17592186044416 by omega, if_true, Option.bind_some]
    exact Evt.bind (h := fun _ bt => some (bt.1, 0)) h5 (Evt.const fun _ => rfl) fun _ => rfl
  · have h4 : v > 1000000000 := hiff.mpr (by omega)
    rw [if_neg h3]
    refine Evt.const fun K => ?_
    rw [if_pos h4]

/-- What multiplying two matrices answers. -/
theorem mul_ans (a b : Int) (A : List Int) (c d : Int) (B : List Int) : ∃ ans, Evt (fun K => impl_MultiplyMatrices.f K a b A c d B) ans ∧ ((ans.2.2.2 ≠ 0 ∧ ans.1 = 0 ∧ ans.2.1 = 0 ∧ ans.2.2.1 = []) ∨
    ∃ (R M C : Nat) (l : List Int), a = R ∧ b = M ∧ c = M ∧ d = C ∧ isMatB a b A = true ∧ isMatB c d B = true ∧ Fil R M C A B R 0 l ∧ ans = ((R : Int), (C : Int), l, 0)) := by
  by_cases h1 : isMatB a b A = true
  case neg =>
    have h1' : isMatB a b A = false := by simpa using h1
    refine ⟨(0, 0, [], 1), ⟨1, fun K hK => ?_⟩, .inl ⟨by simp, rfl, rfl, rfl⟩⟩
    obtain ⟨K, rfl⟩ := succ_k (show 0 < K by omega)
    show impl_MultiplyMatrices.f (K + 1) a b A c d B = _
    unfold impl_MultiplyMatrices.f impl_isMatrix.f
    rw [h1']
    simp [impl_MultiplyMatrices.j0]
  by_cases h2 : isMatB c d B = true
  case neg =>
    have h2' : isMatB c d B = false := by simpa using h2
    refine ⟨(0, 0, [], 1), ⟨1, fun K hK => ?_⟩, .inl ⟨by simp, rfl, rfl, rfl⟩⟩
    obtain ⟨K, rfl⟩ := succ_k (show 0 < K by omega)
    show impl_MultiplyMatrices.f (K + 1) a b A c d B = _
    unfold impl_MultiplyMatrices.f impl_isMatrix.f
    rw [h1, h2']
    simp [impl_MultiplyMatrices.j0]
  by_cases h3 : b = c
  case neg =>
    refine ⟨(0, 0, [], 2), ⟨1, fun K hK => ?_⟩, .inl ⟨by simp, rfl, rfl, rfl⟩⟩
    obtain ⟨K, rfl⟩ := succ_k (show 0 < K by omega)
    show impl_MultiplyMatrices.f (K + 1) a b A c d B = _
    unfold impl_MultiplyMatrices.f impl_isMatrix.f
    rw [h1, h2]
    simp [impl_MultiplyMatrices.j0, h3]
  subst h3
  obtain ⟨g1, g2, _⟩ := isMatB_len h1
  obtain ⟨_, g5, _⟩ := isMatB_len h2
  obtain ⟨R, rfl⟩ : ∃ R : Nat, a = R := ⟨a.toNat, by omega⟩
  obtain ⟨M, rfl⟩ : ∃ M : Nat, b = M := ⟨b.toNat, by omega⟩
  obtain ⟨C, rfl⟩ : ∃ C : Nat, d = C := ⟨d.toNat, by omega⟩
  rcases mul_ev R M C A B h1 h2 with ⟨l, h4, h5⟩ | ⟨_, h5⟩
  · exact ⟨_, h5, .inr ⟨R, M, C, l, rfl, rfl, rfl, rfl, h1, h2, h4, rfl⟩⟩
  · exact ⟨_, h5, .inl ⟨by simp, rfl, rfl, rfl⟩⟩
theorem evt_unique {α : Type} {f : Nat → Option α} {r s : α} (h : Evt f r) (g : Evt f s) : r = s := by
  obtain ⟨c, hc⟩ := h
  obtain ⟨d, hd⟩ := g
  have h1 := hc (c + d) (by omega)
  rw [hd (c + d) (by omega)] at h1
  exact (Option.some.inj h1).symm

theorem detAns_code (a b : Int) (l : List Int) : 0 ≤ (detAns a b l).2 ∧ (detAns a b l).2 ≤ 3 := by
  unfold detAns
  split
  · split
    · split <;> exact ⟨by simp, by simp⟩
    · exact ⟨by simp, by simp⟩
  · exact ⟨by simp, by simp⟩
theorem detAns_ok {a b : Int} {l : List Int} (h : (detAns a b l).2 = 0) : isMatB a b l = true ∧ a = b ∧ volL a.toNat l ≤ 1000000000 ∧ (detAns a b l).1 = detL a.toNat l := by
  unfold detAns at h ⊢
  by_cases h1 : isMatB a b l = true
  · rw [if_pos h1] at h ⊢
    by_cases h2 : a = b
    · rw [if_pos h2] at h ⊢
      by_cases h3 : volL a.toNat l ≤ 1000000000
      · rw [if_pos h3]; exact ⟨h1, h2, h3, rfl⟩
      · rw [if_neg h3] at h; simp at h
    · rw [if_neg h2] at h; simp at h
  · rw [if_neg h1] at h; simp at h
theorem dets_ok (R M C : Nat) (A B l : List Int) (hA : isMatB (R : Int) (M : Int) A = true) (hB : isMatB (M : Int) (C : Int) B = true) (hl : Fil R M C A B R 0 l) (hAl : A.length ≤ 100) (hBl : B.length ≤ 100) :
    Evt (fun K => laws_FnProducts.j1 K false (R : Int) (M : Int) A (M : Int) (C : Int) B (R : Int) (C : Int) l) true := by
  obtain ⟨g1, g2, _⟩ := isMatB_len hA
  obtain ⟨_, g5, _⟩ := isMatB_len hB
  have m3 := Nat.mul_le_mul (show R ≤ 48 by omega) (show C ≤ 48 by omega)
  have hll : l.length ≤ 1048576 := by rw [hl.1]; omega
  have e1 := implDeterminant_ev (R : Int) (M : Int) A (by omega)
  have e2 := implDeterminant_ev (M : Int) (C : Int) B (by omega)
  have e3 := implDeterminant_ev (R : Int) (C : Int) l hll
  have c1 := detAns_code (R : Int) (M : Int) A
  have c2 := detAns_code (M : Int) (C : Int) B
  have c3 := detAns_code (R : Int) (C : Int) l
  refine Evt.step (g := fun K => (impl_Determinant.f K (R : Int) (M : Int) A).bind fun bt372 => ((impl_Determinant.f K (M : Int) (C : Int) B).bind fun bt374 => ((impl_Determinant.f K (R : Int) (C : Int) l).bind fun bt376 => (if (wrap64 ((wrap64 (bt372.2 + bt374.2)) + bt376.2)) = 0 then (some (bt376.1 == (wrap64 (bt372.1 * bt374.1)))) else (some true))))) ?_ fun K => by rw [laws_FnProducts.j1, if_neg (by simp)]
  refine Evt.bind e1 (Evt.bind e2 (Evt.bind e3 (Evt.const fun K => ?_) fun _ => rfl) fun _ => rfl) fun _ => rfl
  rw [w64 ((detAns (R : Int) (M : Int) A).2 + (detAns (M : Int) (C : Int) B).2) (by omega) (by omega), w64 ((detAns (R : Int) (M : Int) A).2 + (detAns (M : Int) (C : Int) B).2 + (detAns (R : Int) (C : Int) l).2) (by omega) (by omega)]
  by_cases hz : (detAns (R : Int) (M : Int) A).2 + (detAns (M : Int) (C : Int) B).2 + (detAns (R : Int) (C : Int) l).2 = 0
  · rw [if_pos hz]
    obtain ⟨_, a2, a3, a4⟩ := detAns_ok (show (detAns (R : Int) (M : Int) A).2 = 0 by omega)
    obtain ⟨_, b2, b3, b4⟩ := detAns_ok (show (detAns (M : Int) (C : Int) B).2 = 0 by omega)
    obtain ⟨_, _, d3, d4⟩ := detAns_ok (show (detAns (R : Int) (C : Int) l).2 = 0 by omega)
    obtain rfl : R = M := by omega
    obtain rfl : R = C := by omega
    rw [a4, b4, d4]
    rw [Int.toNat_natCast] at a3 b3 ⊢
    have v1 := det_bound (RR (fun a c => rd A ((a * R + c : Nat) : Int)) R) (RC R)
    have v2 := det_bound (RR (fun a c => rd B ((a * R + c : Nat) : Int)) R) (RC R)
    have hp := prod_le (x := detL R A) (y := detL R B) (B := 1000000000) (Nat.le_trans v1 a3) (Nat.le_trans v2 b3)
    rw [detL_mul R A B l (fun i j hi hj => (hl.2 i j hi hj (by omega)).1), w64 _ (by omega) (by omega)]
    simp
  · rw [if_neg hz]
theorem prods_ok (R M C : Nat) (A B l : List Int) (hA : isMatB (R : Int) (M : Int) A = true) (hB : isMatB (M : Int) (C : Int) B = true) (hl : Fil R M C A B R 0 l) (hAl : A.length ≤ 100) (hBl : B.length ≤ 100) :
    Evt (fun K => laws_FnProducts.j0 K 0 false (R : Int) (M : Int) A (M : Int) (C : Int) B (R : Int) (C : Int) l) true := by
  obtain ⟨g1, g2, _⟩ := isMatB_len hA
  obtain ⟨_, g5, _⟩ := isMatB_len hB
  obtain ⟨At, tA, mA, eA⟩ := tr_ev R M A hA
  obtain ⟨Bt, tB, mB, eB⟩ := tr_ev M C B hB
  obtain ⟨lt, tl, ml, el⟩ := tr_ev R C l (hl.isMat (by omega) (by omega))
  rcases mul_ev C M R Bt At mB mA with ⟨q, hq, eq⟩ | ⟨⟨i, j, hi, hj, hc⟩, _⟩
  · have hqe : q = lt := list_ext_idx C R q lt hq.1 tl.1 fun i j hi hj => by
      rw [(hq.2 i j hi hj (by omega)).1, tl.2 j i hj hi (by omega), (sumS_tr R M C A B At Bt tA tB j i hj hi M 0 (by omega)).1, (hl.2 j i hj hi (by omega)).1]
    subst hqe
    have m3 := Nat.mul_le_mul (show C ≤ 48 by omega) (show R ≤ 48 by omega)
    have elike : Evt (fun K => laws_likeMatrix.f K (C : Int) (R : Int) q (C : Int) (R : Int) q) true := by
      refine Evt.same (likeInts_ev q (by rw [hq.1]; omega)) fun K => ?_
      unfold laws_likeMatrix.f
      rw [if_pos rfl, if_pos rfl]
      cases laws_likeInts.f K q q <;> rfl
    refine Evt.step (g := fun K => (impl_Transpose.f K (M : Int) (C : Int) B).bind fun bt349 => ((impl_Transpose.f K (R : Int) (M : Int) A).bind fun bt354 => ((impl_MultiplyMatrices.f K bt349.1 bt349.2.1 bt349.2.2 bt354.1 bt354.2.1 bt354.2.2).bind fun bt359 => (if bt359.2.2.2 = 0 then ((impl_Transpose.f K (R : Int) (C : Int) l).bind fun bt366 => ((laws_likeMatrix.f K bt359.1 bt359.2.1 bt359.2.2.1 bt366.1 bt366.2.1 bt366.2.2).bind fun t371 => (laws_FnProducts.j1 K (!t371) (R : Int) (M : Int) A (M : Int) (C : Int) B (R : Int) (C : Int) l))) else (laws_FnProducts.j1 K true (R : Int) (M : Int) A (M : Int) (C : Int) B (R : Int) (C : Int) l))))) ?_ fun K => by rw [laws_FnProducts.j0, if_neg (by simp), if_pos rfl]
    refine Evt.bind eB (Evt.bind eA (Evt.bind eq ?_ fun _ => rfl) fun _ => rfl) fun _ => rfl
    simp only [if_true]
    exact Evt.bind el (Evt.bind elike (dets_ok R M C A B l hA hB hl hAl hBl) fun _ => rfl) fun _ => rfl
  · exfalso
    rw [(sumS_tr R M C A B At Bt tA tB j i hj hi M 0 (by omega)).2] at hc
    exact hc (hl.2 j i hj hi (by omega)).2
theorem FnProducts : laws_FnProducts.Pure := by
  intro b _ _ hb
  suffices h : Evt (fun K => laws_FnProducts.f K b) true by
    obtain ⟨c, hc⟩ := h
    exact ⟨c, hc c (Nat.le_refl c)⟩
  unfold laws_FnProducts.f laws_big.f
  by_cases h : (b.length : Int) > 4096
  · refine Evt.const fun K => ?_
    rw [decide_eq_true h]
    rfl
  · have hl : b.length ≤ 4096 := by omega
    rw [decide_eq_false h]
    simp only [Option.bind_some, Bool.false_eq_true, if_false]
    obtain ⟨u, v, A, x, y, B, hA, hB, hAw, hBw, hd⟩ := drawMul_ok b hb hl
    obtain ⟨p, q, r, t, _, hm⟩ := mul_both u v A x y B (by omega) (by omega) hAw hBw
    have hs : Evt (fun K => spec_MultiplyMatrices.f K u v A x y B) (p, q, r, t) := ⟨1200001, fun K hK => (hm K (by omega)).1⟩
    have hi : Evt (fun K => impl_MultiplyMatrices.f K u v A x y B) (p, q, r, t) := ⟨1200001, fun K hK => (hm K (by omega)).2⟩
    obtain ⟨ans, h1, h2⟩ := mul_ans u v A x y B
    obtain rfl := evt_unique h1 hi
    refine Evt.bind hd ?_ fun _ => rfl
    refine Evt.bind hi ?_ fun _ => rfl
    refine Evt.bind hs ?_ fun _ => rfl
    simp only [if_true, bne_self_eq_false]
    rcases h2 with ⟨g1, g2, _, g3⟩ | ⟨R, M, C, l, rfl, rfl, rfl, rfl, m1, m2, hF, e⟩
    · simp only at g1 g2 g3
      subst g2
      subst g3
      refine Evt.now fun K => ?_
      rw [laws_FnProducts.j0, if_neg (by simp), if_neg g1]
      rfl
    · simp only [Prod.mk.injEq] at e
      obtain ⟨rfl, rfl, rfl, rfl⟩ := e
      exact prods_ok R M C A B _ m1 m2 hF hA hB

end Go.Proofs.Ytifbfloifdkacaa.Pure
