/- Program and reference invert a word alike; the argument stays, the result is new memory. No condition: for every input that the statement lets in. -/
import Derived.Test.YthaklblepjbdeaaPFnExactInvertWordx2
namespace Go.Proofs.Ythaklblepjbdeaa.Pure
open Go.RowKit Go.Proofs.Ythaklblepjbdeaa.PFnExactInvertWord Go.Proofs.YthaklblepjbdeaaW.PrintWords Go.Proofs.YthaklblepjbdeaaW.PrintLast

set_option linter.unusedSimpArgs false
set_option linter.unusedVariables false
theorem w64 (x : Int) (h0 : -9223372036854775808 ≤ x) (h1 : x ≤ 9223372036854775807) : wrap64 x = x := by
  unfold wrap64
  omega
theorem w64n (n : Nat) (h : n ≤ 9223372036854775807) : wrap64 (n : Int) = (n : Int) := w64 _ (by omega) (by omega)
theorem rd_nat (l : List Int) (i : Nat) (h : i < l.length) : rd l (i : Int) = l[i] := by
  simp [rd, List.getD, List.getElem?_eq_getElem h]
theorem succ_k {k n : Nat} (h : n < k) : ∃ m, k = m + 1 := ⟨k - 1, by omega⟩
theorem cast_succ (i : Nat) : ((i : Int) + 1) = ((i + 1 : Nat) : Int) := by omega
theorem drop_rd (l : List Int) (k : Nat) (h : k < l.length) : l.drop k = rd l (k : Int) :: l.drop (k + 1) := by
  rw [List.drop_eq_getElem_cons h, rd_nat l k h]


theorem toInt64S_l0 (l : List Int) (hl : l.length ≤ 4611686018427387904) : ∀ (d i : Nat) (x3 : List Int) (k : Nat), x3.length = l.length → i + d = l.length → x3.take i = l.take i → d < k → laws_toInt64S.l0 k l x3 (i : Int) = some l := by
  intro d
  induction d with
  | zero =>
    intro i x3 k h3 hd ht hk
    obtain ⟨k, rfl⟩ := succ_k hk
    simp only [laws_toInt64S.l0]
    rw [if_neg (by omega)]
    have e : i = l.length := by omega
    subst e
    rw [List.take_length, List.take_of_length_le (by omega)] at ht
    rw [ht]
  | succ d ih =>
    intro i x3 k h3 hd ht hk
    obtain ⟨k, rfl⟩ := succ_k hk
    simp only [laws_toInt64S.l0]
    rw [if_pos (by omega), if_pos (by omega), if_pos (by omega), w64 _ (by omega) (by omega), cast_succ]
    refine ih (i + 1) _ k (by simp [h3]) (by omega) ?_ (by omega)
    rw [Int.toNat_natCast, rd_nat l i (by omega)]
    rw [List.take_succ_eq_append_getElem (by simp; omega), List.take_succ_eq_append_getElem (by omega), List.take_set_of_le (by omega), ht]
    simp
theorem toInt64S_eq (l : List Int) (k : Nat) (hl : l.length ≤ 1048576) (hk : l.length < k) : laws_toInt64S.f k l = some l := by
  unfold laws_toInt64S.f
  rw [if_pos (by omega), if_pos (by omega)]
  exact toInt64S_l0 l (by omega) l.length 0 _ k (by simp) (by omega) (by simp) hk


theorem eqInt64S_l0 (l r : List Int) (hr : r.length = l.length) (hl : l.length ≤ 4611686018427387904) : ∀ (d i k : Nat), i + d = l.length → d < k → laws_eqInt64S.l0 k l r (i : Int) = some (decide (l.drop i = r.drop i)) := by
  intro d
  induction d with
  | zero =>
    intro i k hd hk
    obtain ⟨k, rfl⟩ := succ_k hk
    simp only [laws_eqInt64S.l0]
    rw [if_neg (by omega), List.drop_of_length_le (by omega), List.drop_of_length_le (by omega)]
    simp
  | succ d ih =>
    intro i k hd hk
    obtain ⟨k, rfl⟩ := succ_k hk
    simp only [laws_eqInt64S.l0]
    rw [if_pos (by omega), if_pos (by omega), if_pos (by omega), w64 _ (by omega) (by omega), cast_succ, ih (i + 1) k (by omega) (by omega), drop_rd l i (by omega), drop_rd r i (by omega)]
    by_cases h : rd l (i : Int) = rd r (i : Int)
    · simp [h]
    · simp [h]
theorem eqInt64S_eq (l r : List Int) (k : Nat) (hl : l.length ≤ 4611686018427387904) (hk : l.length < k) : laws_eqInt64S.f k l r = some (decide (l = r)) := by
  unfold laws_eqInt64S.f
  by_cases h : l.length = r.length
  · rw [if_pos (by omega)]
    have := eqInt64S_l0 l r h.symm hl l.length 0 k (by omega) hk
    simpa using this
  · rw [if_neg (by omega)]
    have : ¬ l = r := fun e => h (by rw [e])
    simp [this]
theorem eqInt64S_self (l : List Int) (k : Nat) (hl : l.length ≤ 4611686018427387904) (hk : l.length < k) : laws_eqInt64S.f k l l = some true := by
  rw [eqInt64S_eq l l k hl hk]
  simp


/-- The numbers from m on. -/
def marks : Int → Nat → List Int
  | _, 0 => []
  | m, n + 1 => m :: marks (m + 1) n
theorem marks_length : ∀ (m : Int) (n : Nat), (marks m n).length = n
  | _, 0 => rfl
  | m, n + 1 => by simp [marks, marks_length (m + 1) n]


theorem markInt64S_l0 : ∀ (d i k : Nat) (x0 : List Int) (x1 : Int), x0.length ≤ 4611686018427387904 → i + d = x0.length → 0 ≤ x1 → x1 + d ≤ 4611686018427387904 → d < k →
    laws_markInt64S.l0 k x0 x1 (i : Int) = some (x1 + d, x0.take i ++ marks x1 d) := by
  intro d
  induction d with
  | zero =>
    intro i k x0 x1 hl hd h0 h1 hk
    obtain ⟨k, rfl⟩ := succ_k hk
    simp only [laws_markInt64S.l0]
    rw [if_neg (by omega)]
    simp [marks, List.take_of_length_le (show x0.length ≤ i by omega)]
  | succ d ih =>
    intro i k x0 x1 hl hd h0 h1 hk
    obtain ⟨k, rfl⟩ := succ_k hk
    simp only [laws_markInt64S.l0]
    rw [if_pos (by omega), if_pos (by omega), w64 _ (by omega) (by omega), w64 _ (by omega) (by omega), cast_succ, Int.toNat_natCast]
    rw [ih (i + 1) k (x0.set i x1) (x1 + 1) (by simp; omega) (by simp; omega) (by omega) (by omega) (by omega)]
    rw [List.take_succ_eq_append_getElem (by simp; omega), List.take_set_of_le (by omega)]
    simp only [marks, List.getElem_set_self, List.append_assoc, List.singleton_append]
    rw [show x1 + 1 + (d : Int) = x1 + ((d + 1 : Nat) : Int) by omega]
theorem markInt64S_eq (l : List Int) (m : Int) (k : Nat) (hl : l.length ≤ 1048576) (h0 : 0 ≤ m) (h1 : m ≤ 4611686018426339328) (hk : l.length < k) :
    laws_markInt64S.f k l m = some (m + l.length, marks m l.length) := by
  unfold laws_markInt64S.f
  have := markInt64S_l0 l.length 0 k l m (by omega) (by omega) h0 (by omega) hk
  simpa using this


theorem heldInt64S_l0 : ∀ (d i k : Nat) (x0 : List Int) (x1 : Int), x0.length ≤ 4611686018427387904 → i + d = x0.length → x0.drop i = marks x1 d → 0 ≤ x1 → x1 + d ≤ 4611686018427387904 → d < k →
    laws_heldInt64S.l0 k x0 x1 (i : Int) = some (x1 + d) := by
  intro d
  induction d with
  | zero =>
    intro i k x0 x1 hl hd he h0 h1 hk
    obtain ⟨k, rfl⟩ := succ_k hk
    simp only [laws_heldInt64S.l0]
    rw [if_neg (by omega)]
    simp
  | succ d ih =>
    intro i k x0 x1 hl hd he h0 h1 hk
    obtain ⟨k, rfl⟩ := succ_k hk
    simp only [laws_heldInt64S.l0]
    rw [drop_rd x0 i (by omega)] at he
    simp only [marks, List.cons.injEq] at he
    rw [if_pos (by omega), if_pos (by omega), if_pos he.1, w64 _ (by omega) (by omega), w64 _ (by omega) (by omega), cast_succ, ih (i + 1) k x0 (x1 + 1) hl (by omega) he.2 (by omega) (by omega) (by omega)]
    rw [show x1 + 1 + (d : Int) = x1 + ((d + 1 : Nat) : Int) by omega]
theorem heldInt64S_marks (m : Int) (n k : Nat) (hl : n ≤ 1048576) (h0 : 0 ≤ m) (h1 : m ≤ 4611686018426339328) (hk : n < k) :
    laws_heldInt64S.f k (marks m n) m = some (m + n) := by
  unfold laws_heldInt64S.f
  exact heldInt64S_l0 n 0 k (marks m n) m (by rw [marks_length]; omega) (by rw [marks_length]; omega) (by simp) h0 (by omega) hk


/-- Is a list a word? -/
def letters (g : Int) (l : List Int) : Bool := l.all fun x => decide (x ≠ 0) && (decide (-g ≤ x) && decide (x ≤ g))
def isWordB (l : List Int) : Bool := letters 24 l && decide (l.length ≤ 120)


theorem specIsWord_l0 (l : List Int) (hl : l.length ≤ 4611686018427387904) : ∀ (d i k : Nat), i + d = l.length → d < k →
    spec_IsWord.l0 k l (i : Int) = some (letters 24 (l.drop i) && decide (l.length ≤ 120)) := by
  intro d
  induction d with
  | zero =>
    intro i k hd hk
    obtain ⟨k, rfl⟩ := succ_k hk
    simp only [spec_IsWord.l0]
    rw [if_neg (by omega), List.drop_of_length_le (by omega)]
    simp [letters]
    omega
  | succ d ih =>
    intro i k hd hk
    obtain ⟨k, rfl⟩ := succ_k hk
    simp only [spec_IsWord.l0]
    rw [if_pos (by omega), if_pos (by omega), w64 _ (by omega) (by omega), cast_succ, ih (i + 1) k (by omega) (by omega), drop_rd l i (by omega)]
    unfold spec_l01In.f letters
    generalize rd l (i : Int) = y
    by_cases h0 : y = 0
    · simp [h0]
    · by_cases h1 : -24 ≤ y <;> by_cases h2 : y ≤ 24 <;> simp [h0, h1, h2]
theorem specIsWord_eq (l : List Int) (k : Nat) (hl : l.length ≤ 4611686018427387904) (hk : l.length < k) : spec_IsWord.f k l = some (isWordB l) := by
  have := specIsWord_l0 l hl l.length 0 k (by omega) hk
  unfold spec_IsWord.f isWordB
  simpa using this


theorem wf64 {x : Int} (h : (Lit.int .i64 x).wf = true) : -9223372036854775808 ≤ x ∧ x ≤ 9223372036854775807 := by
  simpa [Lit.wf, IntKind.min, IntKind.max, IntKind.signed, IntKind.bits] using h
theorem bad_iff (g x : Int) (hg : 0 ≤ g) (hg1 : g ≤ 4611686018427387904) (h : (Lit.int .i64 x).wf = true) : isWord_bad g x = !(decide (x ≠ 0) && (decide (-g ≤ x) && decide (x ≤ g))) := by
  have hx := wf64 h
  have e : (!(decide (x ≠ 0) && (decide (-g ≤ x) && decide (x ≤ g)))) = decide (x = 0 ∨ ¬ (-g ≤ x ∧ x ≤ g)) := by
    by_cases h0 : x = 0 <;> by_cases h1 : -g ≤ x <;> by_cases h2 : x ≤ g <;> simp [h0, h1, h2]
  rw [e]
  unfold isWord_bad abs64
  rw [w64 (-g) (by omega) (by omega)]
  have e2 : (x == 0 || (decide (g < if x < 0 then wrap64 (-x) else x) || decide (x < -g))) = decide (x = 0 ∨ (g < (if x < 0 then wrap64 (-x) else x) ∨ x < -g)) := by
    show (decide (x = 0) || _) = _
    simp [Bool.decide_or]
  rw [e2]
  apply decide_eq_decide.mpr
  by_cases hn : x < 0
  · rw [if_pos hn]
    by_cases hm : x = -9223372036854775808
    · subst hm
      have : wrap64 (-(-9223372036854775808)) = -9223372036854775808 := by unfold wrap64; omega
      rw [this]
      omega
    · rw [w64 (-x) (by omega) (by omega)]
      omega
  · rw [if_neg hn]
    omega
theorem any_bad (g : Int) (hg : 0 ≤ g) (hg1 : g ≤ 4611686018427387904) (l : List Int) (h : ∀ x ∈ l, (Lit.int .i64 x).wf = true) : (!(l.any (isWord_bad g))) = letters g l := by
  unfold letters
  induction l with
  | nil => rfl
  | cons x r ih =>
    rw [List.any_cons, List.all_cons, Bool.not_or, ih fun y hy => h y (List.mem_cons_of_mem _ hy), bad_iff g x hg hg1 (h x List.mem_cons_self)]
    simp
theorem implisWord_eq (g : Int) (hg : 0 ≤ g) (hg1 : g ≤ 4611686018427387904) (l : List Int) (h : ∀ x ∈ l, (Lit.int .i64 x).wf = true) : impl_isWord.f l g = some (letters g l && decide (l.length ≤ 120)) := by
  unfold impl_isWord.f
  rw [any_bad g hg hg1 l h, Bool.and_comm]


theorem implIsWord_eq (l : List Int) (h : ∀ x ∈ l, (Lit.int .i64 x).wf = true) : impl_IsWord.f l = some (isWordB l) := by
  unfold impl_IsWord.f
  rw [implisWord_eq 24 (by omega) (by omega) l h]
  rfl


theorem inv_range (g : Int → Int) : ∀ m : Nat, (List.range (m + 1)).map (fun k : Nat => g ((m : Int) - (k : Int))) = g (m : Int) :: (List.range m).map (fun k : Nat => g ((m : Int) - 1 - (k : Int))) := by
  intro m
  rw [List.range_succ_eq_map, List.map_cons, List.map_map]
  rw [show (m : Int) - ((0 : Nat) : Int) = (m : Int) by omega]
  congr 1
  refine List.map_congr_left fun k _ => ?_
  show g ((m : Int) - ((k + 1 : Nat) : Int)) = g ((m : Int) - 1 - (k : Int))
  rw [show (m : Int) - ((k + 1 : Nat) : Int) = (m : Int) - 1 - (k : Int) by omega]
theorem specInverse_l0 (l : List Int) (hl : l.length ≤ 1048576) : ∀ (m k : Nat) (acc : List Int), m ≤ l.length → acc.length + m ≤ 2097152 → m < k →
    spec_l04Inverse.l0 k l acc ((m : Int) - 1) = some (acc ++ (List.range m).map fun i : Nat => wrap64 (-(rd l ((m : Int) - 1 - (i : Int))))) := by
  intro m
  induction m with
  | zero =>
    intro k acc hm ha hk
    obtain ⟨k, rfl⟩ := succ_k hk
    simp only [spec_l04Inverse.l0]
    rw [if_neg (by omega)]
    simp
  | succ m ih =>
    intro k acc hm ha hk
    obtain ⟨k, rfl⟩ := succ_k hk
    have e : ((m + 1 : Nat) : Int) - 1 = (m : Int) := by omega
    rw [e]
    simp only [spec_l04Inverse.l0]
    rw [if_pos (by omega), if_pos (by omega), if_pos (by omega), if_pos (by omega), w64 ((m : Int) - 1) (by omega) (by omega), ih k _ (by omega) (by simp; omega) (by omega), inv_range (fun i => wrap64 (-(rd l i))) m]
    simp
theorem specInverse_eq (l : List Int) (k : Nat) (hl : l.length ≤ 1048576) (hk : l.length < k) : spec_l04Inverse.f k l = some (invWord l) := by
  unfold spec_l04Inverse.f
  rw [w64 ((l.length : Int) - 1) (by omega) (by omega), specInverse_l0 l hl l.length k [] (Nat.le_refl _) (by simp; omega) hk]
  simp [invWord, backUpto, Function.comp_def]
theorem invWord_length (l : List Int) : (invWord l).length = l.length := by simp [invWord, backUpto]
theorem implInverse_eq (l : List Int) (hl : l.length ≤ 1048576) : impl_inverse.f l = some (invWord l) := by
  unfold impl_inverse.f
  rw [if_pos (by omega)]

theorem FnExactInvertWord : laws_FnExactInvertWord.Pure := by
  intro l _ _ hw
  refine ⟨l.length + 9 + 1, ?_⟩
  unfold laws_FnExactInvertWord.f
  by_cases h : (l.length : Int) > 1048576
  · rw [if_pos h]
  · obtain ⟨r, hr, hs, hi⟩ : ∃ r : List Int, r.length ≤ l.length ∧ (∀ k, l.length < k → spec_InvertWord.f k l = some r) ∧ impl_InvertWord.f l = some r := by
      unfold spec_InvertWord.f impl_InvertWord.f
      rw [implIsWord_eq l hw]
      by_cases hb : isWordB l = true
      · refine ⟨invWord l, by rw [invWord_length]; exact Nat.le_refl _, fun k hk => ?_, ?_⟩
        · rw [specIsWord_eq l _ (by omega) hk, specInverse_eq l _ (by omega) hk]
          simp [hb]
        · rw [implInverse_eq l (by omega)]
          simp [hb]
      · refine ⟨[], by simp, fun k hk => ?_, ?_⟩
        · rw [specIsWord_eq l _ (by omega) hk]
          simp [hb]
        · simp [hb]
    rw [if_neg h]
    simp (disch := omega) only [toInt64S_eq, hs, hi, eqInt64S_self, markInt64S_eq, Option.bind_some, if_true, Bool.not_true]
    rw [if_neg (by omega)]
    simp only [laws_FnExactInvertWord.j0]
    simp (disch := omega) only [toInt64S_eq, hs, hi, eqInt64S_self, markInt64S_eq, heldInt64S_marks, Option.bind_some, if_true]
    rw [if_neg (by simp), if_neg (by omega), if_neg (by omega)]

end Go.Proofs.Ythaklblepjbdeaa.Pure
