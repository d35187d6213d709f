/- Program and reference evaluate at 1 and at -1 alike. No condition: for every input that the statement lets in. -/
import Derived.Test.YtcpgjhpcoohlgaaStmtFnExactEvaluateSign
namespace Go.Proofs.Ytcpgjhpcoohlgaa.Pure
open Go.RowKit Go.Proofs.Ytcpgjhpcoohlgaa.PFnExactEvaluateSign Go.Proofs.YtcpgjhpcoohlgaaW.PrintWords Go.Proofs.YtcpgjhpcoohlgaaW.PrintLast

set_option linter.unusedSimpArgs false
set_option linter.unusedVariables false
theorem w64 (x : Int) (h0 : -9223372036854775808 ≤ x) (h1 : x ≤ 9223372036854775807) : wrap64 x = x := by
  unfold wrap64
  omega
theorem rd_nat (l : List Int) (i : Nat) (h : i < l.length) : rd l (i : Int) = l[i] := by
  simp [rd, List.getD, List.getElem?_eq_getElem h]
theorem succ_k {k n : Nat} (h : n < k) : ∃ m, k = m + 1 := ⟨k - 1, by omega⟩
theorem cast_succ (i : Nat) : ((i : Int) + 1) = ((i + 1 : Nat) : Int) := by omega
theorem drop_rd (l : List Int) (k : Nat) (h : k < l.length) : l.drop k = rd l (k : Int) :: l.drop (k + 1) := by
  rw [List.drop_eq_getElem_cons h, rd_nat l k h]


theorem szInt64S_eq (l : List Int) (a : Int) (h0 : 0 ≤ a) (h1 : a ≤ 1048576) (hl : l.length ≤ maxLen) : laws_szInt64S.f l a = some (if a < l.length then -1 else a - l.length) := by
  unfold maxLen at hl
  unfold laws_szInt64S.f
  rw [w64 _ (by omega) (by omega)]
  by_cases h : a < l.length
  · rw [if_pos (by omega), if_pos h]
  · rw [if_neg (by omega), if_neg h]


theorem szLaurent_eq (a : Int) (l : List Int) (m : Int) (h0 : 0 ≤ m) (h1 : m ≤ 1048576) (hl : l.length ≤ maxLen) : laws_szLaurent.f a l m = some (if m < l.length then -1 else m - l.length) := by
  unfold laws_szLaurent.f
  rw [szInt64S_eq l m h0 h1 hl]
  simp only [Option.bind_some]
  by_cases h : m < l.length
  · rw [if_pos h, if_pos (by omega)]
  · rw [if_neg h, if_neg (by omega)]


theorem toInt64S_l0 (l : List Int) (hl : l.length ≤ 4611686018427387904) : ∀ (d i : Nat) (x3 : List Int) (k : Nat), x3.length = l.length → i + d = l.length → x3.take i = l.take i → d < k → laws_toInt64S.l0 k l x3 (i : Int) = some l := by
  intro d
  induction d with
  | zero =>
    intro i x3 k h3 hd ht hk
    obtain ⟨k, rfl⟩ := succ_k hk
    simp only [laws_toInt64S.l0]
    rw [if_neg (by omega)]
    have e : i = l.length := by omega
    subst e
    rw [List.take_length, List.take_of_length_le (by omega)] at ht
    rw [ht]
  | succ d ih =>
    intro i x3 k h3 hd ht hk
    obtain ⟨k, rfl⟩ := succ_k hk
    simp only [laws_toInt64S.l0]
    rw [if_pos (by omega), if_pos (by omega), if_pos (by omega), w64 _ (by omega) (by omega), cast_succ]
    refine ih (i + 1) _ k (by simp [h3]) (by omega) ?_ (by omega)
    rw [Int.toNat_natCast, rd_nat l i (by omega)]
    rw [List.take_succ_eq_append_getElem (by simp; omega), List.take_succ_eq_append_getElem (by omega), List.take_set_of_le (by omega), ht]
    simp
theorem toInt64S_eq (l : List Int) (k : Nat) (hl : l.length ≤ 1048576) (hk : l.length < k) : laws_toInt64S.f k l = some l := by
  unfold laws_toInt64S.f
  rw [if_pos (by omega), if_pos (by omega)]
  exact toInt64S_l0 l (by omega) l.length 0 _ k (by simp) (by omega) (by simp) hk


theorem toLaurent_eq (a : Int) (l : List Int) (k : Nat) (hl : l.length ≤ 1048576) (hk : l.length < k) : laws_toLaurent.f k a l = some (a, l) := by
  unfold laws_toLaurent.f
  rw [toInt64S_eq l k hl hk]
  rfl


theorem eqInt64S_l0 (l r : List Int) (hr : r.length = l.length) (hl : l.length ≤ 4611686018427387904) : ∀ (d i k : Nat), i + d = l.length → d < k → laws_eqInt64S.l0 k l r (i : Int) = some (decide (l.drop i = r.drop i)) := by
  intro d
  induction d with
  | zero =>
    intro i k hd hk
    obtain ⟨k, rfl⟩ := succ_k hk
    simp only [laws_eqInt64S.l0]
    rw [if_neg (by omega), List.drop_of_length_le (by omega), List.drop_of_length_le (by omega)]
    simp
  | succ d ih =>
    intro i k hd hk
    obtain ⟨k, rfl⟩ := succ_k hk
    simp only [laws_eqInt64S.l0]
    rw [if_pos (by omega), if_pos (by omega), if_pos (by omega), w64 _ (by omega) (by omega), cast_succ, ih (i + 1) k (by omega) (by omega), drop_rd l i (by omega), drop_rd r i (by omega)]
    by_cases h : rd l (i : Int) = rd r (i : Int)
    · simp [h]
    · simp [h]
theorem eqInt64S_eq (l r : List Int) (k : Nat) (hl : l.length ≤ 4611686018427387904) (hk : l.length < k) : laws_eqInt64S.f k l r = some (decide (l = r)) := by
  unfold laws_eqInt64S.f
  by_cases h : l.length = r.length
  · rw [if_pos (by omega)]
    have := eqInt64S_l0 l r h.symm hl l.length 0 k (by omega) hk
    simpa using this
  · rw [if_neg (by omega)]
    have : ¬ l = r := fun e => h (by rw [e])
    simp [this]
theorem eqInt64S_self (l : List Int) (k : Nat) (hl : l.length ≤ 4611686018427387904) (hk : l.length < k) : laws_eqInt64S.f k l l = some true := by
  rw [eqInt64S_eq l l k hl hk]
  simp


theorem eqLaurent_self (a : Int) (l : List Int) (k : Nat) (hl : l.length ≤ 4611686018427387904) (hk : l.length < k) : laws_eqLaurent.f k a l a l = some true := by
  unfold laws_eqLaurent.f
  rw [if_pos rfl, eqInt64S_self l k hl hk]
  rfl


def inR (x : Int) : Bool := decide (-1000000000000 ≤ x) && decide (x ≤ 1000000000000)
def lauC (a : Int) (l : List Int) : Prop := l.length ≤ 160 ∧ rd l 0 ≠ 0 ∧ rd l ((l.length - 1 : Nat) : Int) ≠ 0 ∧ -240 ≤ a ∧ a ≤ 240 ∧ a + l.length - 1 ≤ 240
instance (a : Int) (l : List Int) : Decidable (lauC a l) := by unfold lauC; infer_instance
/-- Is it a Laurent polynomial in its normal form? -/
def isLauB (a : Int) (l : List Int) : Bool := if l.length = 0 then a == 0 else decide (lauC a l) && l.all inR
theorem last_idx (l : List Int) (h : ¬ l.length = 0) (hl : l.length ≤ 4611686018427387904) : wrap64 ((l.length : Int) - 1) = ((l.length - 1 : Nat) : Int) := by
  rw [w64 _ (by omega) (by omega)]
  omega


theorem specIsLaurent_l0 (a : Int) (l : List Int) (hl : l.length ≤ 4611686018427387904) : ∀ (d i k : Nat), i + d = l.length → d < k →
    spec_IsLaurent.l0 k (i : Int) a l = some ((l.drop i).all inR) := by
  intro d
  induction d with
  | zero =>
    intro i k hd hk
    obtain ⟨k, rfl⟩ := succ_k hk
    simp only [spec_IsLaurent.l0]
    rw [if_neg (by omega), List.drop_of_length_le (by omega)]
    rfl
  | succ d ih =>
    intro i k hd hk
    obtain ⟨k, rfl⟩ := succ_k hk
    simp only [spec_IsLaurent.l0]
    rw [if_pos (by omega), if_pos (by omega), w64 _ (by omega) (by omega), cast_succ, ih (i + 1) k (by omega) (by omega), drop_rd l i (by omega), List.all_cons]
    unfold spec_l01In.f inR
    generalize rd l (i : Int) = y
    by_cases h1 : -1000000000000 ≤ y <;> by_cases h2 : y ≤ 1000000000000 <;> simp [h1, h2]
theorem specIsLaurent_eq (a : Int) (l : List Int) (k : Nat) (hl : l.length ≤ 1048576) (hk : l.length + 1 < k) : spec_IsLaurent.f k a l = some (isLauB a l) := by
  obtain ⟨k, rfl⟩ := succ_k hk
  have hs := specIsLaurent_l0 a l (by omega) l.length 0 k (by omega) (by omega)
  rw [Int.natCast_zero, List.drop_zero] at hs
  unfold spec_IsLaurent.f spec_l01In.f isLauB
  by_cases h0 : l.length = 0
  · rw [if_pos (by omega), if_pos h0]
  rw [if_neg (by omega), if_neg h0, last_idx l h0 (by omega)]
  simp only [spec_IsLaurent.j0]
  by_cases h1 : l.length ≤ 160
  case neg => rw [if_pos (by omega), decide_eq_false (fun h => h1 h.1)]; rfl
  rw [if_neg (by omega)]
  by_cases h2 : a ≥ -240
  case neg => rw [if_neg h2, decide_eq_false (fun h => h2 h.2.2.2.1)]; rfl
  rw [if_pos h2]
  by_cases h3 : a ≤ 240
  case neg => rw [decide_eq_false h3, decide_eq_false (fun h => h3 h.2.2.2.2.1)]; rfl
  rw [decide_eq_true h3]
  simp only [Option.bind_some, if_true]
  rw [w64 (a + l.length) (by omega) (by omega), w64 (a + l.length - 1) (by omega) (by omega)]
  by_cases h4 : a + l.length - 1 > 240
  · rw [if_pos h4, decide_eq_false (fun h => by have := h.2.2.2.2.2; omega)]; rfl
  rw [if_neg h4, if_pos (by omega)]
  by_cases h5 : rd l 0 = 0
  · rw [if_pos h5, decide_eq_false (fun h => h.2.1 h5)]; rfl
  rw [if_neg h5, if_pos (by omega), if_pos (by omega)]
  by_cases h6 : rd l ((l.length - 1 : Nat) : Int) = 0
  · rw [beq_iff_eq.2 h6, if_pos rfl, decide_eq_false (fun h => h.2.2.1 h6)]; rfl
  rw [if_neg (by simpa using h6), hs, decide_eq_true (show lauC a l from ⟨h1, h5, h6, h2, h3, by omega⟩)]
  rfl


theorem any_lauBad (l : List Int) : (!(l.any lauBad)) = l.all inR := by
  induction l with
  | nil => rfl
  | cons x r ih =>
    rw [List.any_cons, List.all_cons, Bool.not_or, ih]
    unfold lauBad inR
    simp
theorem implisLaurent_eq (a : Int) (l : List Int) (ha : (Lit.int .i64 a).wf = true) (hl : l.length ≤ 1048576) : impl_isLaurent.f a l = some (isLauB a l) := by
  have hw : -9223372036854775808 ≤ a ∧ a ≤ 9223372036854775807 := by simpa [Lit.wf, IntKind.min, IntKind.max, IntKind.signed, IntKind.bits] using ha
  unfold impl_isLaurent.f impl_Laurent_high.f impl_size_int64.f anyLaurentBad.f isLauB
  by_cases h0 : l.length = 0
  · rw [if_pos (by omega), if_pos h0]
  rw [if_neg (by omega), if_neg h0, last_idx l h0 (by omega)]
  by_cases h1 : l.length ≤ 160
  case neg => rw [if_neg (by omega), decide_eq_false (fun h => h1 h.1)]; rfl
  rw [if_pos (by omega), if_pos (by omega)]
  by_cases h5 : rd l 0 = 0
  · rw [if_pos h5, decide_eq_false (fun h => h.2.1 h5)]; rfl
  rw [if_neg h5, if_pos (by omega), if_pos (by omega)]
  by_cases h6 : rd l ((l.length - 1 : Nat) : Int) = 0
  · rw [if_pos h6, decide_eq_false (fun h => h.2.2.1 h6)]; rfl
  rw [if_neg h6]
  by_cases h2 : a ≥ -240
  case neg => rw [if_neg h2, decide_eq_false (fun h => h2 h.2.2.2.1)]; rfl
  rw [if_pos h2]
  simp only [Option.bind_some]
  by_cases h3 : a ≤ 240
  case neg => rw [if_neg h3, decide_eq_false (fun h => h3 h.2.2.2.2.1)]; simp
  rw [if_pos h3, w64 (a + l.length) (by omega) (by omega), w64 (a + l.length - 1) (by omega) (by omega)]
  by_cases h4 : a + l.length - 1 ≤ 240
  case neg => rw [if_neg h4, decide_eq_false (fun h => by have := h.2.2.2.2.2; omega)]; rfl
  rw [if_pos h4, any_lauBad, decide_eq_true (show lauC a l from ⟨h1, h5, h6, h2, h3, by omega⟩)]
  rfl
theorem isLauB_len {a : Int} {l : List Int} (h : isLauB a l = true) : l.length ≤ 160 ∧ -240 ≤ a ∧ a ≤ 240 ∧ (l.length = 0 → a = 0) ∧ (¬ l.length = 0 → a + l.length - 1 ≤ 240) := by
  unfold isLauB at h
  by_cases h0 : l.length = 0
  · rw [if_pos h0] at h
    have : a = 0 := by simpa using h
    omega
  · rw [if_neg h0] at h
    simp only [Bool.and_eq_true, decide_eq_true_eq] at h
    obtain ⟨⟨h1, h2, h3, h4, h5, h6⟩, _⟩ := h
    omega


theorem w_add (a b : Int) : wrap64 (a + wrap64 b) = wrap64 (a + b) := by
  unfold wrap64
  omega
theorem eval_l0 (s a : Int) (l : List Int) (hs : s = 1 ∨ s = -1) (hl : l.length ≤ 1048576) : ∀ (d i k : Nat) (t : Int), i + d = l.length → d < k →
    ∃ r, spec_EvaluateSign.l0 k s t (i : Int) a l = some r ∧ impl_EvaluateSign.l0 k s t l (l.length : Int) (i : Int) a l = some r := by
  intro d
  induction d with
  | zero =>
    intro i k t hd hk
    obtain ⟨k, rfl⟩ := succ_k hk
    refine ⟨(t, true), ?_, ?_⟩
    · simp only [spec_EvaluateSign.l0]
      rw [if_neg (by omega)]
    · simp only [impl_EvaluateSign.l0]
      rw [if_neg (by omega)]
  | succ d ih =>
    intro i k t hd hk
    obtain ⟨k, rfl⟩ := succ_k hk
    simp only [spec_EvaluateSign.l0, impl_EvaluateSign.l0]
    have c1 : (i : Int) < (l.length : Int) := by omega
    have c2 : (0 : Int) ≤ (i : Int) := by omega
    simp only [c1, c2, if_true]
    rw [w64 ((i : Int) + 1) (by omega) (by omega), cast_succ]
    rcases hs with hs | hs
    · subst hs
      have e : wrap64 (t + wrap64 (rd l (i : Int) * 1)) = wrap64 (t + rd l (i : Int)) := by rw [w_add, Int.mul_one]
      rw [e, if_neg (by omega), ite_self]
      exact ih (i + 1) k _ (by omega) (by omega)
    · subst hs
      have e : wrap64 (t + wrap64 (rd l (i : Int) * (-1))) = wrap64 (t - rd l (i : Int)) := by
        rw [w_add]
        congr 1
        omega
      rw [e, if_pos (by omega)]
      by_cases h : Int.tmod (wrap64 (a + (i : Int))) 2 = 0
      · rw [if_pos h, if_pos h]
        exact ih (i + 1) k _ (by omega) (by omega)
      · rw [if_neg h, if_neg h]
        exact ih (i + 1) k _ (by omega) (by omega)
theorem eval_both (a : Int) (l : List Int) (s : Int) (ha : (Lit.int .i64 a).wf = true) (hl : l.length ≤ 1048576) (k : Nat) (hk : l.length + 1 < k) :
    ∃ x b, spec_EvaluateSign.f k a l s = some (x, b) ∧ impl_EvaluateSign.f k a l s = some (x, b) := by
  unfold spec_EvaluateSign.f impl_EvaluateSign.f
  rw [specIsLaurent_eq a l k hl hk, implisLaurent_eq a l ha hl]
  obtain ⟨k, rfl⟩ := succ_k hk
  simp only [Option.bind_some, spec_EvaluateSign.j0, impl_EvaluateSign.j0]
  by_cases h : isLauB a l = true
  · rw [if_pos h, if_pos h]
    by_cases h1 : s = 1
    · obtain ⟨r, h2, h3⟩ := eval_l0 s a l (.inl h1) hl l.length 0 k 0 (by omega) (by omega)
      rw [if_pos h1, if_pos h1, if_neg (by simp), if_neg (by simp)]
      exact ⟨r.1, r.2, h2, h3⟩
    · rw [if_neg h1, if_neg h1]
      by_cases h4 : s = -1
      · obtain ⟨r, h2, h3⟩ := eval_l0 s a l (.inr h4) hl l.length 0 k 0 (by omega) (by omega)
        rw [if_neg (by simp [h4]), if_neg (by simp [h4])]
        exact ⟨r.1, r.2, h2, h3⟩
      · rw [if_pos (by simpa using h4), if_pos (by simpa using h4)]
        exact ⟨0, false, rfl, rfl⟩
  · rw [if_neg h, if_neg h]
    exact ⟨0, false, rfl, rfl⟩
theorem FnExactEvaluateSign : laws_FnExactEvaluateSign.Pure := by
  intro a l s ha hl hw hs
  obtain ⟨K, hK⟩ : ∃ K : Nat, K = 1048600 := ⟨_, rfl⟩
  refine ⟨K + 1, ?_⟩
  unfold laws_FnExactEvaluateSign.f
  rw [szLaurent_eq a l 1048576 (by omega) (by omega) hl]
  simp only [Option.bind_some]
  by_cases h : (1048576 : Int) < l.length
  · simp [h]
  · have hl' : l.length ≤ 1048576 := by omega
    obtain ⟨x, b, h1, h2⟩ := eval_both a l s ha hl' (K + 1) (by omega)
    rw [if_neg h, if_neg (by omega), toLaurent_eq a l (K + 1) hl' (by omega)]
    simp only [Option.bind_some]
    rw [h1, h2]
    simp only [Option.bind_some, if_true, bne_self_eq_false, laws_FnExactEvaluateSign.j0]
    rw [toLaurent_eq a l K hl' (by omega)]
    simp only [Option.bind_some]
    rw [eqLaurent_self a l K (by omega) (by omega)]
    simp

end Go.Proofs.Ytcpgjhpcoohlgaa.Pure
