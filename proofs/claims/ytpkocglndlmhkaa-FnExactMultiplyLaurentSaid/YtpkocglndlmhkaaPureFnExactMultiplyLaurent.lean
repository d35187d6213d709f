/- Program and reference multiply alike, in new memory, and leave the arguments. No condition: for every input that the statement lets in. -/
import Derived.Test.YtpkocglndlmhkaaStmtFnExactMultiplyLaurent
namespace Go.Proofs.Ytpkocglndlmhkaa.Pure
open Go.RowKit Go.Proofs.Ytpkocglndlmhkaa.PFnExactMultiplyLaurent Go.Proofs.YtpkocglndlmhkaaW.PrintWords Go.Proofs.YtpkocglndlmhkaaW.PrintLast

set_option linter.unusedSimpArgs false
set_option linter.unusedVariables false
theorem w64 (x : Int) (h0 : -9223372036854775808 ≤ x) (h1 : x ≤ 9223372036854775807) : wrap64 x = x := by
  unfold wrap64
  omega
theorem w64n (n : Nat) (h : n ≤ 9223372036854775807) : wrap64 (n : Int) = (n : Int) := w64 _ (by omega) (by omega)
theorem rd_nat (l : List Int) (i : Nat) (h : i < l.length) : rd l (i : Int) = l[i] := by
  simp [rd, List.getD, List.getElem?_eq_getElem h]
theorem succ_k {k n : Nat} (h : n < k) : ∃ m, k = m + 1 := ⟨k - 1, by omega⟩
theorem cast_succ (i : Nat) : ((i : Int) + 1) = ((i + 1 : Nat) : Int) := by omega
theorem drop_rd (l : List Int) (k : Nat) (h : k < l.length) : l.drop k = rd l (k : Int) :: l.drop (k + 1) := by
  rw [List.drop_eq_getElem_cons h, rd_nat l k h]


theorem szInt64S_eq (l : List Int) (a : Int) (h0 : 0 ≤ a) (h1 : a ≤ 1048576) (hl : l.length ≤ maxLen) : laws_szInt64S.f l a = some (if a < l.length then -1 else a - l.length) := by
  unfold maxLen at hl
  unfold laws_szInt64S.f
  rw [w64 _ (by omega) (by omega)]
  by_cases h : a < l.length
  · rw [if_pos (by omega), if_pos h]
  · rw [if_neg (by omega), if_neg h]


theorem szLaurent_eq (a : Int) (l : List Int) (m : Int) (h0 : 0 ≤ m) (h1 : m ≤ 1048576) (hl : l.length ≤ maxLen) : laws_szLaurent.f a l m = some (if m < l.length then -1 else m - l.length) := by
  unfold laws_szLaurent.f
  rw [szInt64S_eq l m h0 h1 hl]
  simp only [Option.bind_some]
  by_cases h : m < l.length
  · rw [if_pos h, if_pos (by omega)]
  · rw [if_neg h, if_neg (by omega)]


theorem toInt64S_l0 (l : List Int) (hl : l.length ≤ 4611686018427387904) : ∀ (d i : Nat) (x3 : List Int) (k : Nat), x3.length = l.length → i + d = l.length → x3.take i = l.take i → d < k → laws_toInt64S.l0 k l x3 (i : Int) = some l := by
  intro d
  induction d with
  | zero =>
    intro i x3 k h3 hd ht hk
    obtain ⟨k, rfl⟩ := succ_k hk
    simp only [laws_toInt64S.l0]
    rw [if_neg (by omega)]
    have e : i = l.length := by omega
    subst e
    rw [List.take_length, List.take_of_length_le (by omega)] at ht
    rw [ht]
  | succ d ih =>
    intro i x3 k h3 hd ht hk
    obtain ⟨k, rfl⟩ := succ_k hk
    simp only [laws_toInt64S.l0]
    rw [if_pos (by omega), if_pos (by omega), if_pos (by omega), w64 _ (by omega) (by omega), cast_succ]
    refine ih (i + 1) _ k (by simp [h3]) (by omega) ?_ (by omega)
    rw [Int.toNat_natCast, rd_nat l i (by omega)]
    rw [List.take_succ_eq_append_getElem (by simp; omega), List.take_succ_eq_append_getElem (by omega), List.take_set_of_le (by omega), ht]
    simp
theorem toInt64S_eq (l : List Int) (k : Nat) (hl : l.length ≤ 1048576) (hk : l.length < k) : laws_toInt64S.f k l = some l := by
  unfold laws_toInt64S.f
  rw [if_pos (by omega), if_pos (by omega)]
  exact toInt64S_l0 l (by omega) l.length 0 _ k (by simp) (by omega) (by simp) hk


theorem toLaurent_eq (a : Int) (l : List Int) (k : Nat) (hl : l.length ≤ 1048576) (hk : l.length < k) : laws_toLaurent.f k a l = some (a, l) := by
  unfold laws_toLaurent.f
  rw [toInt64S_eq l k hl hk]
  rfl


theorem eqInt64S_l0 (l r : List Int) (hr : r.length = l.length) (hl : l.length ≤ 4611686018427387904) : ∀ (d i k : Nat), i + d = l.length → d < k → laws_eqInt64S.l0 k l r (i : Int) = some (decide (l.drop i = r.drop i)) := by
  intro d
  induction d with
  | zero =>
    intro i k hd hk
    obtain ⟨k, rfl⟩ := succ_k hk
    simp only [laws_eqInt64S.l0]
    rw [if_neg (by omega), List.drop_of_length_le (by omega), List.drop_of_length_le (by omega)]
    simp
  | succ d ih =>
    intro i k hd hk
    obtain ⟨k, rfl⟩ := succ_k hk
    simp only [laws_eqInt64S.l0]
    rw [if_pos (by omega), if_pos (by omega), if_pos (by omega), w64 _ (by omega) (by omega), cast_succ, ih (i + 1) k (by omega) (by omega), drop_rd l i (by omega), drop_rd r i (by omega)]
    by_cases h : rd l (i : Int) = rd r (i : Int)
    · simp [h]
    · simp [h]
theorem eqInt64S_eq (l r : List Int) (k : Nat) (hl : l.length ≤ 4611686018427387904) (hk : l.length < k) : laws_eqInt64S.f k l r = some (decide (l = r)) := by
  unfold laws_eqInt64S.f
  by_cases h : l.length = r.length
  · rw [if_pos (by omega)]
    have := eqInt64S_l0 l r h.symm hl l.length 0 k (by omega) hk
    simpa using this
  · rw [if_neg (by omega)]
    have : ¬ l = r := fun e => h (by rw [e])
    simp [this]
theorem eqInt64S_self (l : List Int) (k : Nat) (hl : l.length ≤ 4611686018427387904) (hk : l.length < k) : laws_eqInt64S.f k l l = some true := by
  rw [eqInt64S_eq l l k hl hk]
  simp


theorem eqLaurent_self (a : Int) (l : List Int) (k : Nat) (hl : l.length ≤ 4611686018427387904) (hk : l.length < k) : laws_eqLaurent.f k a l a l = some true := by
  unfold laws_eqLaurent.f
  rw [if_pos rfl, eqInt64S_self l k hl hk]
  rfl


/-- The numbers from m on. -/
def marks : Int → Nat → List Int
  | _, 0 => []
  | m, n + 1 => m :: marks (m + 1) n
theorem marks_length : ∀ (m : Int) (n : Nat), (marks m n).length = n
  | _, 0 => rfl
  | m, n + 1 => by simp [marks, marks_length (m + 1) n]


theorem markInt64S_l0 : ∀ (d i k : Nat) (x0 : List Int) (x1 : Int), x0.length ≤ 4611686018427387904 → i + d = x0.length → 0 ≤ x1 → x1 + d ≤ 4611686018427387904 → d < k →
    laws_markInt64S.l0 k x0 x1 (i : Int) = some (x1 + d, x0.take i ++ marks x1 d) := by
  intro d
  induction d with
  | zero =>
    intro i k x0 x1 hl hd h0 h1 hk
    obtain ⟨k, rfl⟩ := succ_k hk
    simp only [laws_markInt64S.l0]
    rw [if_neg (by omega)]
    simp [marks, List.take_of_length_le (show x0.length ≤ i by omega)]
  | succ d ih =>
    intro i k x0 x1 hl hd h0 h1 hk
    obtain ⟨k, rfl⟩ := succ_k hk
    simp only [laws_markInt64S.l0]
    rw [if_pos (by omega), if_pos (by omega), w64 _ (by omega) (by omega), w64 _ (by omega) (by omega), cast_succ, Int.toNat_natCast]
    rw [ih (i + 1) k (x0.set i x1) (x1 + 1) (by simp; omega) (by simp; omega) (by omega) (by omega) (by omega)]
    rw [List.take_succ_eq_append_getElem (by simp; omega), List.take_set_of_le (by omega)]
    simp only [marks, List.getElem_set_self, List.append_assoc, List.singleton_append]
    rw [show x1 + 1 + (d : Int) = x1 + ((d + 1 : Nat) : Int) by omega]
theorem markInt64S_eq (l : List Int) (m : Int) (k : Nat) (hl : l.length ≤ 1048576) (h0 : 0 ≤ m) (h1 : m ≤ 4611686018426339328) (hk : l.length < k) :
    laws_markInt64S.f k l m = some (m + l.length, marks m l.length) := by
  unfold laws_markInt64S.f
  have := markInt64S_l0 l.length 0 k l m (by omega) (by omega) h0 (by omega) hk
  simpa using this


theorem markLaurent_eq (a : Int) (l : List Int) (m : Int) (k : Nat) (hl : l.length ≤ 1048576) (h0 : 0 ≤ m) (h1 : m ≤ 4611686018426339328) (hk : l.length < k) :
    laws_markLaurent.f k a l m = some (m + l.length, marks m l.length) := by
  unfold laws_markLaurent.f
  rw [markInt64S_eq l m k hl h0 h1 hk]
  rfl


theorem heldInt64S_l0 : ∀ (d i k : Nat) (x0 : List Int) (x1 : Int), x0.length ≤ 4611686018427387904 → i + d = x0.length → x0.drop i = marks x1 d → 0 ≤ x1 → x1 + d ≤ 4611686018427387904 → d < k →
    laws_heldInt64S.l0 k x0 x1 (i : Int) = some (x1 + d) := by
  intro d
  induction d with
  | zero =>
    intro i k x0 x1 hl hd he h0 h1 hk
    obtain ⟨k, rfl⟩ := succ_k hk
    simp only [laws_heldInt64S.l0]
    rw [if_neg (by omega)]
    simp
  | succ d ih =>
    intro i k x0 x1 hl hd he h0 h1 hk
    obtain ⟨k, rfl⟩ := succ_k hk
    simp only [laws_heldInt64S.l0]
    rw [drop_rd x0 i (by omega)] at he
    simp only [marks, List.cons.injEq] at he
    rw [if_pos (by omega), if_pos (by omega), if_pos he.1, w64 _ (by omega) (by omega), w64 _ (by omega) (by omega), cast_succ, ih (i + 1) k x0 (x1 + 1) hl (by omega) he.2 (by omega) (by omega) (by omega)]
    rw [show x1 + 1 + (d : Int) = x1 + ((d + 1 : Nat) : Int) by omega]
theorem heldInt64S_marks (m : Int) (n k : Nat) (hl : n ≤ 1048576) (h0 : 0 ≤ m) (h1 : m ≤ 4611686018426339328) (hk : n < k) :
    laws_heldInt64S.f k (marks m n) m = some (m + n) := by
  unfold laws_heldInt64S.f
  exact heldInt64S_l0 n 0 k (marks m n) m (by rw [marks_length]; omega) (by rw [marks_length]; omega) (by simp) h0 (by omega) hk


theorem heldLaurent_marks (a m : Int) (n k : Nat) (hl : n ≤ 1048576) (h0 : 0 ≤ m) (h1 : m ≤ 4611686018426339328) (hk : n < k) :
    laws_heldLaurent.f k a (marks m n) m = some (m + n) := by
  unfold laws_heldLaurent.f
  rw [heldInt64S_marks m n k hl h0 h1 hk]
  simp only [Option.bind_some]
  rw [if_neg (by omega)]


def inR (x : Int) : Bool := decide (-1000000000000 ≤ x) && decide (x ≤ 1000000000000)
def lauC (a : Int) (l : List Int) : Prop := l.length ≤ 160 ∧ rd l 0 ≠ 0 ∧ rd l ((l.length - 1 : Nat) : Int) ≠ 0 ∧ -240 ≤ a ∧ a ≤ 240 ∧ a + l.length - 1 ≤ 240
instance (a : Int) (l : List Int) : Decidable (lauC a l) := by unfold lauC; infer_instance
/-- Is it a Laurent polynomial in its normal form? -/
def isLauB (a : Int) (l : List Int) : Bool := if l.length = 0 then a == 0 else decide (lauC a l) && l.all inR
theorem last_idx (l : List Int) (h : ¬ l.length = 0) (hl : l.length ≤ 4611686018427387904) : wrap64 ((l.length : Int) - 1) = ((l.length - 1 : Nat) : Int) := by
  rw [w64 _ (by omega) (by omega)]
  omega


theorem specIsLaurent_l0 (a : Int) (l : List Int) (hl : l.length ≤ 4611686018427387904) : ∀ (d i k : Nat), i + d = l.length → d < k →
    spec_IsLaurent.l0 k (i : Int) a l = some ((l.drop i).all inR) := by
  intro d
  induction d with
  | zero =>
    intro i k hd hk
    obtain ⟨k, rfl⟩ := succ_k hk
    simp only [spec_IsLaurent.l0]
    rw [if_neg (by omega), List.drop_of_length_le (by omega)]
    rfl
  | succ d ih =>
    intro i k hd hk
    obtain ⟨k, rfl⟩ := succ_k hk
    simp only [spec_IsLaurent.l0]
    rw [if_pos (by omega), if_pos (by omega), w64 _ (by omega) (by omega), cast_succ, ih (i + 1) k (by omega) (by omega), drop_rd l i (by omega), List.all_cons]
    unfold spec_l01In.f inR
    generalize rd l (i : Int) = y
    by_cases h1 : -1000000000000 ≤ y <;> by_cases h2 : y ≤ 1000000000000 <;> simp [h1, h2]
theorem specIsLaurent_eq (a : Int) (l : List Int) (k : Nat) (hl : l.length ≤ 1048576) (hk : l.length + 1 < k) : spec_IsLaurent.f k a l = some (isLauB a l) := by
  obtain ⟨k, rfl⟩ := succ_k hk
  have hs := specIsLaurent_l0 a l (by omega) l.length 0 k (by omega) (by omega)
  rw [Int.natCast_zero, List.drop_zero] at hs
  unfold spec_IsLaurent.f spec_l01In.f isLauB
  by_cases h0 : l.length = 0
  · rw [if_pos (by omega), if_pos h0]
  rw [if_neg (by omega), if_neg h0, last_idx l h0 (by omega)]
  simp only [spec_IsLaurent.j0]
  by_cases h1 : l.length ≤ 160
  case neg => rw [if_pos (by omega), decide_eq_false (fun h => h1 h.1)]; rfl
  rw [if_neg (by omega)]
  by_cases h2 : a ≥ -240
  case neg => rw [if_neg h2, decide_eq_false (fun h => h2 h.2.2.2.1)]; rfl
  rw [if_pos h2]
  by_cases h3 : a ≤ 240
  case neg => rw [decide_eq_false h3, decide_eq_false (fun h => h3 h.2.2.2.2.1)]; rfl
  rw [decide_eq_true h3]
  simp only [Option.bind_some, if_true]
  rw [w64 (a + l.length) (by omega) (by omega), w64 (a + l.length - 1) (by omega) (by omega)]
  by_cases h4 : a + l.length - 1 > 240
  · rw [if_pos h4, decide_eq_false (fun h => by have := h.2.2.2.2.2; omega)]; rfl
  rw [if_neg h4, if_pos (by omega)]
  by_cases h5 : rd l 0 = 0
  · rw [if_pos h5, decide_eq_false (fun h => h.2.1 h5)]; rfl
  rw [if_neg h5, if_pos (by omega), if_pos (by omega)]
  by_cases h6 : rd l ((l.length - 1 : Nat) : Int) = 0
  · rw [beq_iff_eq.2 h6, if_pos rfl, decide_eq_false (fun h => h.2.2.1 h6)]; rfl
  rw [if_neg (by simpa using h6), hs, decide_eq_true (show lauC a l from ⟨h1, h5, h6, h2, h3, by omega⟩)]
  rfl


theorem any_lauBad (l : List Int) : (!(l.any lauBad)) = l.all inR := by
  induction l with
  | nil => rfl
  | cons x r ih =>
    rw [List.any_cons, List.all_cons, Bool.not_or, ih]
    unfold lauBad inR
    simp
theorem implisLaurent_eq (a : Int) (l : List Int) (ha : (Lit.int .i64 a).wf = true) (hl : l.length ≤ 1048576) : impl_isLaurent.f a l = some (isLauB a l) := by
  have hw : -9223372036854775808 ≤ a ∧ a ≤ 9223372036854775807 := by simpa [Lit.wf, IntKind.min, IntKind.max, IntKind.signed, IntKind.bits] using ha
  unfold impl_isLaurent.f impl_Laurent_high.f impl_size_int64.f anyLaurentBad.f isLauB
  by_cases h0 : l.length = 0
  · rw [if_pos (by omega), if_pos h0]
  rw [if_neg (by omega), if_neg h0, last_idx l h0 (by omega)]
  by_cases h1 : l.length ≤ 160
  case neg => rw [if_neg (by omega), decide_eq_false (fun h => h1 h.1)]; rfl
  rw [if_pos (by omega), if_pos (by omega)]
  by_cases h5 : rd l 0 = 0
  · rw [if_pos h5, decide_eq_false (fun h => h.2.1 h5)]; rfl
  rw [if_neg h5, if_pos (by omega), if_pos (by omega)]
  by_cases h6 : rd l ((l.length - 1 : Nat) : Int) = 0
  · rw [if_pos h6, decide_eq_false (fun h => h.2.2.1 h6)]; rfl
  rw [if_neg h6]
  by_cases h2 : a ≥ -240
  case neg => rw [if_neg h2, decide_eq_false (fun h => h2 h.2.2.2.1)]; rfl
  rw [if_pos h2]
  simp only [Option.bind_some]
  by_cases h3 : a ≤ 240
  case neg => rw [if_neg h3, decide_eq_false (fun h => h3 h.2.2.2.2.1)]; simp
  rw [if_pos h3, w64 (a + l.length) (by omega) (by omega), w64 (a + l.length - 1) (by omega) (by omega)]
  by_cases h4 : a + l.length - 1 ≤ 240
  case neg => rw [if_neg h4, decide_eq_false (fun h => by have := h.2.2.2.2.2; omega)]; rfl
  rw [if_pos h4, any_lauBad, decide_eq_true (show lauC a l from ⟨h1, h5, h6, h2, h3, by omega⟩)]
  rfl
theorem isLauB_len {a : Int} {l : List Int} (h : isLauB a l = true) : l.length ≤ 160 ∧ -240 ≤ a ∧ a ≤ 240 ∧ (l.length = 0 → a = 0) ∧ (¬ l.length = 0 → a + l.length - 1 ≤ 240) := by
  unfold isLauB at h
  by_cases h0 : l.length = 0
  · rw [if_pos h0] at h
    have : a = 0 := by simpa using h
    omega
  · rw [if_neg h0] at h
    simp only [Bool.and_eq_true, decide_eq_true_eq] at h
    obtain ⟨⟨h1, h2, h3, h4, h5, h6⟩, _⟩ := h
    omega


theorem last_take (l : List Int) (lo m : Nat) (h : lo + (m + 1) ≤ l.length) : rd ((l.drop lo).take (m + 1)) (m : Int) = rd l ((lo + m : Nat) : Int) := by
  rw [rd_nat _ m (by simp; omega), rd_nat l _ (by omega)]
  simp
theorem form_l1 (a : Int) (l : List Int) (ha : -1000000000000000 ≤ a ∧ a ≤ 1000000000000000) (hl : l.length ≤ 1048576) (lo : Nat) : ∀ (m k : Nat), lo + m ≤ l.length → m < k →
    ∃ x r, spec_l03Form.l1 k a l (lo : Int) ((lo + m : Nat) : Int) = some (x, r) ∧ impl_normal.l1 k (a + lo) ((l.drop lo).take m) = some (x, r) ∧ r.length ≤ l.length := by
  intro m
  induction m with
  | zero =>
    intro k hm hk
    obtain ⟨k, rfl⟩ := succ_k hk
    refine ⟨0, [], ?_, ?_, by simp⟩
    · simp only [spec_l03Form.l1]
      rw [if_neg (by omega), if_pos (by omega)]
    · simp only [impl_normal.l1]
      simp
  | succ m ih =>
    intro k hm hk
    obtain ⟨k, rfl⟩ := succ_k hk
    have hlen : ((l.drop lo).take (m + 1)).length = m + 1 := by simp; omega
    have e1 : wrap64 (((lo + (m + 1) : Nat) : Int) - 1) = ((lo + m : Nat) : Int) := by rw [w64 _ (by omega) (by omega)]; omega
    have e2 : wrap64 (((m + 1 : Nat) : Int) - 1) = (m : Int) := by rw [w64 _ (by omega) (by omega)]; omega
    simp only [spec_l03Form.l1, impl_normal.l1]
    rw [hlen, e1, e2, last_take l lo m hm]
    by_cases h0 : rd l ((lo + m : Nat) : Int) = 0
    · simp (disch := omega) only [if_pos, if_neg]
      rw [Int.toNat_natCast, List.take_take, Nat.min_eq_left (by omega)]
      exact ih k (by omega) (by omega)
    · simp (disch := omega) only [if_pos, if_neg]
      refine ⟨a + lo, (l.drop lo).take (m + 1), ?_, ?_, by omega⟩
      · simp only [Option.bind_some]
        have e3 : (l.take ((lo + (m + 1) : Nat) : Int).toNat).drop ((lo : Int)).toNat = (l.drop lo).take (m + 1) := by
          rw [Int.toNat_natCast, Int.toNat_natCast, List.drop_take, show lo + (m + 1) - lo = m + 1 by omega]
        rw [e3, if_pos (by rw [hlen]; simp; omega), w64 _ (by omega) (by omega)]
        rfl
      · unfold slices_Clone_int64_int64.f
        rw [if_pos (by omega)]
        rfl
theorem form_l0 (a : Int) (l : List Int) (ha : -1000000000000000 ≤ a ∧ a ≤ 1000000000000000) (hl : l.length ≤ 1048576) : ∀ (d i k : Nat), i + d = l.length → d + l.length + 2 < k →
    ∃ x r, spec_l03Form.l0 k a l (i : Int) (l.length : Int) = some (x, r) ∧ impl_normal.l0 k (a + i) (l.drop i) = some (x, r) ∧ r.length ≤ l.length := by
  intro d
  induction d with
  | zero =>
    intro i k hd hk
    obtain ⟨k, rfl⟩ := succ_k hk
    obtain ⟨k, rfl⟩ := succ_k (show l.length + 1 < k by omega)
    obtain rfl : i = l.length := by omega
    obtain ⟨x, r, h1, h2, h3⟩ := form_l1 a l ha hl l.length 0 k (by omega) (by omega)
    refine ⟨x, r, ?_, ?_, h3⟩
    · simp only [spec_l03Form.l0, spec_l03Form.j1]
      rw [if_neg (by omega)]
      rw [Nat.add_zero] at h1
      exact h1
    · simp only [impl_normal.l0, impl_normal.j1]
      rw [if_neg (by simp)]
      simpa using h2
  | succ d ih =>
    intro i k hd hk
    obtain ⟨k, rfl⟩ := succ_k hk
    have hlen : (l.drop i).length = d + 1 := by simp; omega
    simp only [spec_l03Form.l0, impl_normal.l0]
    have e0 : rd (l.drop i) 0 = rd l (i : Int) := by rw [drop_rd l i (by omega)]; rfl
    rw [hlen, e0]
    by_cases h0 : rd l (i : Int) = 0
    · simp (disch := omega) only [if_pos, if_neg]
      rw [w64 _ (by omega) (by omega), w64 _ (by omega) (by omega), List.drop_drop, cast_succ, show a + (i : Int) + 1 = a + ((i + 1 : Nat) : Int) by omega]
      exact ih (i + 1) k (by omega) (by omega)
    · obtain ⟨k, rfl⟩ := succ_k (show l.length + 1 < k by omega)
      simp (disch := omega) only [if_pos, if_neg]
      simp only [spec_l03Form.j1, impl_normal.j1]
      obtain ⟨x, r, h1, h2, h3⟩ := form_l1 a l ha hl i (d + 1) k (by omega) (by omega)
      refine ⟨x, r, ?_, ?_, h3⟩
      · rw [hd] at h1
        exact h1
      · rw [List.take_of_length_le (by omega)] at h2
        exact h2
theorem form_normal (a : Int) (l : List Int) (ha : -1000000000000000 ≤ a ∧ a ≤ 1000000000000000) (hl : l.length ≤ 1048576) :
    ∃ x r, r.length ≤ l.length ∧ ∀ k, 2 * l.length + 2 < k → (spec_l03Form.f k a l = some (x, r) ∧ impl_normal.f k a l = some (x, r)) := by
  obtain ⟨x, r, h1, h2, h3⟩ := form_l0 a l ha hl l.length 0 (2 * l.length + 3) (by omega) (by omega)
  refine ⟨x, r, h3, fun k hk => ⟨at_rounds (spec_l03Form.mono a l) (show 2 * l.length + 3 ≤ k by omega) ?_, at_rounds (impl_normal.mono a l) (show 2 * l.length + 3 ≤ k by omega) ?_⟩⟩
  · unfold spec_l03Form.f
    exact h1
  · unfold impl_normal.f
    rw [Int.natCast_zero, Int.add_zero, List.drop_zero] at h2
    exact h2


theorem form_wf1 (a : Int) (l : List Int) (ha : -1000000000000000 ≤ a ∧ a ≤ 1000000000000000) : ∀ (k : Nat) (m x : Int) (y r : List Int), y.length ≤ 1048576 → -2000000000000000 ≤ m → m ≤ 2000000000000000 → impl_normal.l1 k m y = some (x, r) → (Lit.int .i64 x).wf = true := by
  have wf : ∀ z : Int, -2000000000000000 ≤ z → z ≤ 2000000000000000 → (Lit.int .i64 z).wf = true := by
    intro z h1 h2
    simp [Lit.wf, IntKind.min, IntKind.max, IntKind.signed, IntKind.bits]
    omega
  intro k
  induction k with
  | zero =>
    intro m x y r _ _ _ h
    simp [impl_normal.l1] at h
  | succ k ih =>
    intro m x y r hy h1 h2 h
    simp only [impl_normal.l1] at h
    unfold slices_Clone_int64_int64.f at h
    split at h
    · split at h
      · split at h
        · split at h
          · split at h
            · exact ih m x _ r (by simp; omega) h1 h2 h
            · cases h
          · split at h
            · cases h
              exact wf 0 (by omega) (by omega)
            · rw [if_pos (by omega)] at h
              cases h
              exact wf _ h1 h2
        · cases h
      · cases h
    · split at h
      · cases h
        exact wf 0 (by omega) (by omega)
      · rw [if_pos (by omega)] at h
        cases h
        exact wf _ h1 h2
theorem form_wf (a : Int) (l : List Int) (x : Int) (r : List Int) (ha : -1000000000000000 ≤ a ∧ a ≤ 1000000000000000) (hl : l.length ≤ 1048576) {k : Nat} (h : impl_normal.f k a l = some (x, r)) : (Lit.int .i64 x).wf = true := by
  have : ∀ (k i : Nat) (y : List Int), i + y.length ≤ l.length → impl_normal.l0 k (a + i) y = some (x, r) → (Lit.int .i64 x).wf = true := by
    intro k
    induction k with
    | zero =>
      intro i y _ h
      simp [impl_normal.l0] at h
    | succ k ih =>
      intro i y hi h
      have hj : ∀ k', impl_normal.j1 k' (a + i) y = some (x, r) → (Lit.int .i64 x).wf = true := by
        intro k' h'
        cases k' with
        | zero => simp [impl_normal.j1] at h'
        | succ k' =>
          simp only [impl_normal.j1] at h'
          exact form_wf1 a l ha k' _ x y r (by omega) (by omega) (by omega) h'
      simp only [impl_normal.l0] at h
      by_cases c1 : (y.length : Int) > 0
      · rw [if_pos c1, if_pos c1] at h
        by_cases c2 : rd y 0 = 0
        · rw [if_pos c2, if_pos (by omega), w64 _ (by omega) (by omega), show a + (i : Int) + 1 = a + ((i + 1 : Nat) : Int) by omega] at h
          exact ih (i + 1) _ (by simp; omega) h
        · rw [if_neg c2] at h
          exact hj _ h
      · rw [if_neg c1] at h
        exact hj _ h
  unfold impl_normal.f at h
  exact this k 0 l (by omega) (by simpa using h)


theorem normal_l1Z (m : Int) (y : List Int) (k : Nat) (hy : y.length ≤ 1048576) : impl_normal.l1 (k + 1) m (y ++ [0]) = impl_normal.l1 k m y := by
  have hl : (y ++ [0]).length = y.length + 1 := by simp
  have e1 : wrap64 (((y.length + 1 : Nat) : Int) - 1) = (y.length : Int) := by rw [w64 _ (by omega) (by omega)]; omega
  have e2 : rd (y ++ [0]) (y.length : Int) = 0 := by rw [rd_nat _ y.length (by omega)]; simp
  rw [impl_normal.l1]
  rw [hl, e1, e2, Int.toNat_natCast, List.take_left']
  · have c1 : ((y.length + 1 : Nat) : Int) > 0 := by omega
    have c2 : (0 : Int) ≤ (y.length : Int) := by omega
    have c3 : (y.length : Int) < ((y.length + 1 : Nat) : Int) := by omega
    have c4 : (y.length : Int) ≤ ((y.length + 1 : Nat) : Int) := by omega
    simp only [c1, c2, c3, c4, if_true]
  · rfl
theorem normal_l0Z (z : Int × List Int) : ∀ (k : Nat) (m : Int) (y : List Int), y.length ≤ 1048576 → impl_normal.l0 k m y = some z → impl_normal.l0 (k + 2) m (y ++ [0]) = some z := by
  intro k
  induction k with
  | zero =>
    intro m y hy h
    simp [impl_normal.l0] at h
  | succ k ih =>
    intro m y hy h
    have hl : (y ++ [0]).length = y.length + 1 := by simp
    have d1 : ((y ++ [0]).length : Int) > 0 := by omega
    have d2 : 1 ≤ ((y ++ [0]).length : Int) := by omega
    simp only [impl_normal.l0] at h
    rw [impl_normal.l0, if_pos d1, if_pos d1]
    cases y with
    | nil =>
      rw [if_neg (by simp)] at h
      cases k with
      | zero => simp [impl_normal.j1] at h
      | succ k =>
        simp only [impl_normal.j1] at h
        cases k with
        | zero => simp [impl_normal.l1] at h
        | succ k =>
          simp [impl_normal.l1] at h
          subst h
          have e : rd ([] ++ [(0 : Int)]) 0 = 0 := rfl
          rw [if_pos e, if_pos d2]
          simp [impl_normal.l0, impl_normal.j1, impl_normal.l1]
    | cons x t =>
      have c1 : ((x :: t).length : Int) > 0 := by simp
      have e : rd (x :: t ++ [0]) 0 = rd (x :: t) 0 := rfl
      rw [if_pos c1, if_pos c1] at h
      rw [e]
      by_cases c2 : rd (x :: t) 0 = 0
      · rw [if_pos c2] at h
        rw [if_pos c2, if_pos d2]
        have c3 : (1 : Int) ≤ ((x :: t).length : Int) := by simp only [List.length_cons]; omega
        rw [if_pos c3] at h
        exact ih (wrap64 (m + 1)) t (by simp at hy; omega) h
      · rw [if_neg c2] at h
        rw [if_neg c2]
        cases k with
        | zero => simp [impl_normal.j1] at h
        | succ k =>
          simp only [impl_normal.j1] at h ⊢
          rw [normal_l1Z m (x :: t) (k + 1) hy]
          exact (impl_normal.mono_l k).2.1 m (x :: t) _ h
theorem formZ (a : Int) (l : List Int) (ha : -1000000000000000 ≤ a ∧ a ≤ 1000000000000000) (hl : l.length ≤ 1000) :
    ∃ x r, r.length ≤ l.length ∧ ∀ k, 2010 < k → (spec_l03Form.f k a l = some (x, r) ∧ impl_normal.f k a (l ++ [0]) = some (x, r)) := by
  obtain ⟨x, r, h1, h2⟩ := form_normal a l ha (by omega)
  refine ⟨x, r, h1, fun k hk => ⟨(h2 k (by omega)).1, ?_⟩⟩
  obtain ⟨j, rfl⟩ : ∃ j, k = j + 2 := ⟨k - 2, by omega⟩
  have := (h2 j (by omega)).2
  unfold impl_normal.f at this ⊢
  exact normal_l0Z (x, r) j a l (by omega) this
theorem normal_zeros : ∀ (n k : Nat) (m : Int), n + 2 < k → impl_normal.l0 k m (List.replicate n 0) = some (0, []) := by
  intro n
  induction n with
  | zero =>
    intro k m hk
    obtain ⟨k, rfl⟩ := succ_k (show 2 < k by omega)
    obtain ⟨k, rfl⟩ := succ_k (show 1 < k by omega)
    obtain ⟨k, rfl⟩ := succ_k (show 0 < k by omega)
    simp [impl_normal.l0, impl_normal.j1, impl_normal.l1]
  | succ n ih =>
    intro k m hk
    obtain ⟨k, rfl⟩ := succ_k (show n + 2 < k by omega)
    have d1 : ((List.replicate (n + 1) (0 : Int)).length : Int) > 0 := by simp only [List.length_replicate]; omega
    have d2 : 1 ≤ ((List.replicate (n + 1) (0 : Int)).length : Int) := by simp only [List.length_replicate]; omega
    have e : rd (List.replicate (n + 1) (0 : Int)) 0 = 0 := rfl
    rw [impl_normal.l0, if_pos d1, if_pos d1, if_pos e, if_pos d2]
    exact ih k _ (by omega)


theorem wrap_rng (x : Int) : -9223372036854775808 ≤ wrap64 x ∧ wrap64 x ≤ 9223372036854775807 := by
  unfold wrap64
  omega
theorem abs_eq (x : Int) (h : -9223372036854775808 ≤ x ∧ x ≤ 9223372036854775807) : ∃ y, spec_l01Abs.f x = some y ∧ impl_abs.f x = some y := by
  unfold spec_l01Abs.f impl_abs.f mx
  refine ⟨_, rfl, ?_⟩
  by_cases h0 : x < 0
  · rw [if_pos h0]
    by_cases h1 : x = -9223372036854775808
    · subst h1
      have e : wrap64 (-(-9223372036854775808)) = -9223372036854775808 := by unfold wrap64; omega
      rw [e]
      rfl
    · rw [w64 (-x) (by omega) (by omega), if_pos (by omega)]
  · rw [if_neg h0, w64 (-x) (by omega) (by omega), if_neg (by omega)]
theorem times_eq (s t : Int) (hs : -9223372036854775808 ≤ s ∧ s ≤ 9223372036854775807) (ht : -9223372036854775808 ≤ t ∧ t ≤ 9223372036854775807) :
    ∃ p q, (-9223372036854775808 ≤ p ∧ p ≤ 9223372036854775807) ∧ spec_l01Times.f s t 1000000000000 = some (p, q) ∧ impl_product.f s t 1000000000000 = some (p, q) := by
  obtain ⟨u, h1, h2⟩ := abs_eq s hs
  obtain ⟨v, h3, h4⟩ := abs_eq t ht
  unfold spec_l01Times.f impl_product.f
  rw [h1, h2, h3, h4]
  simp only [Option.bind_some]
  by_cases c1 : s = 0
  · rw [if_pos c1]
    exact ⟨_, _, wrap_rng _, rfl, rfl⟩
  · rw [if_neg c1]
    have hu : ¬ u = 0 := by
      unfold impl_abs.f at h2
      by_cases h0 : s < 0
      · rw [if_pos h0] at h2
        have h5 := Option.some.inj h2
        intro h6
        rw [h6] at h5
        unfold wrap64 at h5
        omega
      · rw [if_neg h0] at h2
        have h5 := Option.some.inj h2
        omega
    rw [if_neg hu]
    by_cases c2 : v > wrap64 (Int.tdiv 1000000000000 u)
    · rw [if_pos c2]
      exact ⟨0, _, by omega, rfl, rfl⟩
    · rw [if_neg c2]
      exact ⟨_, _, wrap_rng _, rfl, rfl⟩


theorem size_l0 (a : Int) (l : List Int) (hl : l.length ≤ 1048576) (hw : ∀ x ∈ l, (Lit.int .i64 x).wf = true) : ∀ (d i k : Nat) (s : Int), i + d = l.length → d < k → (-9223372036854775808 ≤ s ∧ s ≤ 9223372036854775807) →
    ∃ r, (-9223372036854775808 ≤ r ∧ r ≤ 9223372036854775807) ∧ spec_l03Size.l0 k s (i : Int) a l = some r ∧ impl_Laurent_weight.l0 k s l (l.length : Int) (i : Int) = some r := by
  intro d
  induction d with
  | zero =>
    intro i k s hd hk hs
    obtain ⟨k, rfl⟩ := succ_k hk
    refine ⟨s, hs, ?_, ?_⟩
    · simp only [spec_l03Size.l0]
      rw [if_neg (by omega)]
    · simp only [impl_Laurent_weight.l0]
      rw [if_neg (by omega)]
  | succ d ih =>
    intro i k s hd hk hs
    obtain ⟨k, rfl⟩ := succ_k hk
    have hx : (Lit.int .i64 (rd l (i : Int))).wf = true := by rw [rd_nat l i (by omega)]; exact hw _ (List.getElem_mem _)
    have hx2 : -9223372036854775808 ≤ rd l (i : Int) ∧ rd l (i : Int) ≤ 9223372036854775807 := by simpa [Lit.wf, IntKind.min, IntKind.max, IntKind.signed, IntKind.bits] using hx
    obtain ⟨y, h1, h2⟩ := abs_eq (rd l (i : Int)) hx2
    obtain ⟨r, h3, h4, h5⟩ := ih (i + 1) k (wrap64 (s + y)) (by omega) (by omega) (wrap_rng _)
    have c1 : (i : Int) < (l.length : Int) := by omega
    have c2 : (0 : Int) ≤ (i : Int) := by omega
    have e3 : wrap64 ((i : Int) + 1) = ((i + 1 : Nat) : Int) := w64n (i + 1) (by omega)
    refine ⟨r, h3, ?_, ?_⟩
    · simp only [spec_l03Size.l0]
      rw [h1, e3]
      simp only [c1, c2, if_true, Option.bind_some]
      exact h4
    · simp only [impl_Laurent_weight.l0]
      rw [h2, e3]
      simp only [c1, c2, if_true, Option.bind_some]
      exact h5
theorem size_eq (a : Int) (l : List Int) (hl : l.length ≤ 1048576) (hw : ∀ x ∈ l, (Lit.int .i64 x).wf = true) :
    ∃ r, (-9223372036854775808 ≤ r ∧ r ≤ 9223372036854775807) ∧ ∀ k, l.length < k → (spec_l03Size.f k a l = some r ∧ impl_Laurent_weight.f k a l = some r) := by
  obtain ⟨r, h1, h2, h3⟩ := size_l0 a l hl hw l.length 0 (l.length + 1) 0 (by omega) (by omega) (by omega)
  refine ⟨r, h1, fun k hk => ⟨at_rounds (spec_l03Size.mono a l) (show l.length + 1 ≤ k by omega) h2, at_rounds (impl_Laurent_weight.mono a l) (show l.length + 1 ≤ k by omega) h3⟩⟩

def endOf (x : Int) (r : List Int) : Int × List Int × Int := if isLauB x r = true then (x, r, 0) else (0, [], 3)
theorem valid_eq (k : Nat) (a : Int) (l : List Int) (x : Int) (r : List Int) (h : impl_normal.f k a l = some (x, r)) (hx : (Lit.int .i64 x).wf = true) (hr : r.length ≤ 1048576) : impl_valid.f k a l = some (endOf x r) := by
  unfold impl_valid.f endOf
  rw [h]
  simp only [Option.bind_some]
  rw [implisLaurent_eq x r hx hr]
  simp only [Option.bind_some]
  split <;> rfl
theorem if_eq (k : Nat) (x : Int) (r : List Int) (hr : r.length ≤ 1048576) (hk : r.length + 1 < k) : spec_l03If.f k x r = some (endOf x r) := by
  unfold spec_l03If.f endOf
  rw [specIsLaurent_eq x r k hr hk]
  simp only [Option.bind_some]
  split <;> rfl
theorem endOf_length (x : Int) (r : List Int) : (endOf x r).2.1.length ≤ r.length := by
  unfold endOf
  split <;> simp
theorem wf0 : (Lit.int .i64 0).wf = true := by decide
theorem valid_zeros (k n : Nat) (e : Int) (hk : n + 2 < k) : impl_valid.f k e (List.replicate n 0) = some (0, [], 0) := by
  have h := normal_zeros n k e hk
  rw [valid_eq k e _ 0 [] (by unfold impl_normal.f; exact h) wf0 (by simp)]
  rfl
theorem rd_app (acc : List Int) (n : Nat) (hs : n < acc.length) : rd (acc ++ [0]) (n : Int) = rd acc (n : Int) := by
  have h : n < (acc ++ [0]).length := by simp; omega
  rw [rd_nat _ n h, rd_nat acc n hs, List.getElem_append_left hs]
theorem pr_l1 (la lb : List Int) (N : Nat) (a b e : Int) (i : Nat) (hi : i < la.length) (hN : N + 1 = la.length + lb.length) (hl : N ≤ 1000) (F : Nat)
    (IH : ∀ (k : Nat) (acc : List Int), F < k → acc.length = N → ∃ x r, r.length ≤ 1000 ∧ (Lit.int .i64 x).wf = true ∧ spec_l03Product.l0 k acc ((i + 1 : Nat) : Int) a la b lb = some (x, r) ∧ impl_MultiplyLaurent.l0 k la (la.length : Int) ((i + 1 : Nat) : Int) b lb e (acc ++ [0]) = some (endOf x r)) :
    ∀ (d j k : Nat) (acc : List Int), j + d = lb.length → d + 1 + F < k → acc.length = N →
    ∃ x r, r.length ≤ 1000 ∧ (Lit.int .i64 x).wf = true ∧ spec_l03Product.l1 k acc (i : Int) (j : Int) a la b lb = some (x, r) ∧ impl_MultiplyLaurent.l1 k (i : Int) (rd la (i : Int)) la (la.length : Int) (i : Int) lb (lb.length : Int) (j : Int) b lb e (acc ++ [0]) = some (endOf x r) := by
  intro d
  induction d with
  | zero =>
    intro j k acc hj hk ha
    obtain ⟨k, rfl⟩ := succ_k (show 0 + F < k by omega)
    obtain ⟨x, r, h1, h2, h3, h4⟩ := IH k acc (by omega) ha
    refine ⟨x, r, h1, h2, ?_, ?_⟩
    · simp only [spec_l03Product.l1]
      rw [if_neg (by omega), w64 ((i : Int) + 1) (by omega) (by omega), cast_succ, h3]
    · simp only [impl_MultiplyLaurent.l1]
      rw [if_neg (by omega), w64 ((i : Int) + 1) (by omega) (by omega), cast_succ, h4]
  | succ d ih =>
    intro j k acc hj hk ha
    obtain ⟨k, rfl⟩ := succ_k (show 0 + F < k by omega)
    have hs : i + j < acc.length := by omega
    have c1 : (j : Int) < (lb.length : Int) := by omega
    have c2 : (0 : Int) ≤ ((i + j : Nat) : Int) := by omega
    have c3 : ((i + j : Nat) : Int) < (acc.length : Int) := by omega
    have c4 : (0 : Int) ≤ (i : Int) := by omega
    have c5 : (i : Int) < (la.length : Int) := by omega
    have c6 : (0 : Int) ≤ (j : Int) := by omega
    have c7 : ((i + j : Nat) : Int) < ((acc ++ [0]).length : Int) := by simp; omega
    have e1 : wrap64 ((i : Int) + (j : Int)) = ((i + j : Nat) : Int) := by rw [w64 _ (by omega) (by omega)]; omega
    have e2 : rd (acc ++ [0]) ((i + j : Nat) : Int) = rd acc ((i + j : Nat) : Int) := rd_app acc (i + j) hs
    obtain ⟨v, hv⟩ : ∃ v, v = wrap64 (rd acc ((i + j : Nat) : Int) + wrap64 (rd la (i : Int) * rd lb (j : Int))) := ⟨_, rfl⟩
    have e3 : wrap64 ((j : Int) + 1) = ((j + 1 : Nat) : Int) := w64n (j + 1) (by clear e1 e2 hv; omega)
    obtain ⟨x, r, h1, h2, h3, h4⟩ := ih (j + 1) k (acc.set (i + j) v) (by clear e1 e2 e3 hv; omega) (by clear e1 e2 e3 hv; omega) (by simp [ha])
    refine ⟨x, r, h1, h2, ?_, ?_⟩
    · simp only [spec_l03Product.l1]
      rw [e1, e3, ← hv]
      simp only [c1, c2, c3, c4, c5, c6, if_true, Int.toNat_natCast]
      exact h3
    · simp only [impl_MultiplyLaurent.l1]
      rw [e1, e3, e2, ← hv]
      simp only [c1, c2, c6, c7, if_true, Int.toNat_natCast]
      rw [List.set_append_left _ _ hs]
      exact h4
theorem pr_l0 (la lb : List Int) (N : Nat) (a b : Int) (hN : N + 1 = la.length + lb.length) (hl : N ≤ 1000) (he : -1000000000000000 ≤ wrap64 (a + b) ∧ wrap64 (a + b) ≤ 1000000000000000) (L : Nat) (hL : L = 2500) : ∀ (d i k : Nat) (acc : List Int), i + d = la.length → d * (lb.length + 3) + L < k → acc.length = N →
    ∃ x r, r.length ≤ 1000 ∧ (Lit.int .i64 x).wf = true ∧ spec_l03Product.l0 k acc (i : Int) a la b lb = some (x, r) ∧ impl_MultiplyLaurent.l0 k la (la.length : Int) (i : Int) b lb (wrap64 (a + b)) (acc ++ [0]) = some (endOf x r) := by
  obtain ⟨e, hE⟩ : ∃ e, e = wrap64 (a + b) := ⟨_, rfl⟩
  rw [← hE] at he ⊢
  intro d
  induction d with
  | zero =>
    intro i k acc hi hk ha
    obtain ⟨k, rfl⟩ := succ_k (show 2400 < k by omega)
    obtain ⟨x, r, h1, h2⟩ := formZ e acc he (by omega)
    obtain ⟨h3, h4⟩ := h2 k (by omega)
    have hx := form_wf e (acc ++ [0]) x r he (by simp; omega) h4
    refine ⟨x, r, by omega, hx, ?_, ?_⟩
    · simp only [spec_l03Product.l0]
      rw [if_neg (by omega), ← hE, h3]
      rfl
    · simp only [impl_MultiplyLaurent.l0]
      rw [if_neg (by omega), valid_eq k e (acc ++ [0]) x r h4 hx (by omega)]
      rfl
  | succ d ih =>
    intro i k acc hi hk ha
    rw [Nat.succ_mul] at hk
    obtain ⟨P, hP⟩ : ∃ P : Nat, P = d * (lb.length + 3) := ⟨_, rfl⟩
    rw [← hP] at hk ih
    obtain ⟨k, rfl⟩ := succ_k (show P < k by omega)
    obtain ⟨x, r, h1, h2, h3, h4⟩ := pr_l1 la lb N a b e i (by omega) hN hl (P + L) (fun k acc h1 h2 => ih (i + 1) k acc (by omega) h1 h2) lb.length 0 k acc (by omega) (by omega) ha
    refine ⟨x, r, h1, h2, ?_, ?_⟩
    · simp only [spec_l03Product.l0]
      rw [if_pos (by omega)]
      exact h3
    · simp only [impl_MultiplyLaurent.l0]
      have c1 : (i : Int) < (la.length : Int) := by omega
      have c2 : (0 : Int) ≤ (i : Int) := by omega
      simp only [c1, c2, if_true]
      exact h4
theorem pr_none (la : List Int) (b e : Int) (acc : List Int) (z : Int × List Int × Int) (hl : la.length ≤ 1000) : ∀ (d i k : Nat), i + d = la.length → 2 * d + 2500 < k → (∀ k, 2000 < k → impl_valid.f k e acc = some z) →
    impl_MultiplyLaurent.l0 k la (la.length : Int) (i : Int) b [] e acc = some z := by
  intro d
  induction d with
  | zero =>
    intro i k hi hk hz
    obtain ⟨k, rfl⟩ := succ_k (show 2400 < k by omega)
    simp only [impl_MultiplyLaurent.l0]
    rw [if_neg (by omega), hz k (by omega)]
    rfl
  | succ d ih =>
    intro i k hi hk hz
    obtain ⟨k, rfl⟩ := succ_k (show 2 * d + 2501 < k by omega)
    obtain ⟨k, rfl⟩ := succ_k (show 2 * d + 2500 < k by omega)
    simp only [impl_MultiplyLaurent.l0, impl_MultiplyLaurent.l1]
    have c1 : (i : Int) < (la.length : Int) := by omega
    have c2 : (0 : Int) ≤ (i : Int) := by omega
    have c3 : ¬ ((0 : Int) < (([] : List Int).length : Int)) := by simp
    have e3 : wrap64 ((i : Int) + 1) = ((i + 1 : Nat) : Int) := w64n (i + 1) (by omega)
    simp only [c1, c2, c3, if_true, if_false, e3]
    exact ih (i + 1) k (by clear e3; omega) (by clear e3; omega) hz
theorem mul_both (a : Int) (l : List Int) (b : Int) (m : List Int) (ha : (Lit.int .i64 a).wf = true) (hb : (Lit.int .i64 b).wf = true) (hl : l.length ≤ 1048576) (hm : m.length ≤ 1048576) (hw : ∀ x ∈ l, (Lit.int .i64 x).wf = true) (hv : ∀ x ∈ m, (Lit.int .i64 x).wf = true) :
    ∃ x r t, r.length ≤ 1048576 ∧ ∀ k, 1200001 < k → (spec_MultiplyLaurent.f k a l b m = some (x, r, t) ∧ impl_MultiplyLaurent.f k a l b m = some (x, r, t)) := by
  have hA : impl_areLaurents.f [(⟨a, l⟩ : S26), (⟨b, m⟩ : S26)] = some (isLauB a l && isLauB b m) := by
    unfold impl_areLaurents.f anyLaurentsBad.f
    simp only [anyL, lauQ]
    rw [implisLaurent_eq a l ha hl, implisLaurent_eq b m hb hm]
    cases isLauB a l <;> cases isLauB b m <;> rfl
  by_cases h1 : isLauB a l = true
  case neg =>
    refine ⟨0, [], 1, by simp, fun k hk => ?_⟩
    obtain ⟨k, rfl⟩ := succ_k hk
    unfold spec_MultiplyLaurent.f impl_MultiplyLaurent.f
    rw [specIsLaurent_eq a l _ hl (by omega), hA]
    have h1' : isLauB a l = false := by simpa using h1
    simp [h1', spec_MultiplyLaurent.j0]
  by_cases h2 : isLauB b m = true
  case neg =>
    refine ⟨0, [], 1, by simp, fun k hk => ?_⟩
    obtain ⟨k, rfl⟩ := succ_k hk
    unfold spec_MultiplyLaurent.f impl_MultiplyLaurent.f
    rw [specIsLaurent_eq a l _ hl (by omega), specIsLaurent_eq b m _ hm (by omega), hA]
    have h2' : isLauB b m = false := by simpa using h2
    simp [h1, h2', spec_MultiplyLaurent.j0]
  have hla := isLauB_len h1
  have hlb := isLauB_len h2
  obtain ⟨s, hs1, hs2⟩ := size_eq a l (by omega) hw
  obtain ⟨t, ht1, ht2⟩ := size_eq b m (by omega) hv
  obtain ⟨p, q, _, hp⟩ := times_eq s t hs1 ht1
  have hspec : ∀ k, 1200000 < k → spec_MultiplyLaurent.f (k + 1) a l b m = (if q = true then (spec_l03Product.f k a l b m).bind fun bt180 => ((spec_l03If.f k bt180.1 bt180.2).bind fun bt184 => (some (bt184.1, bt184.2.1, bt184.2.2))) else some (0, [], 3)) := by
    intro k hk
    unfold spec_MultiplyLaurent.f
    rw [specIsLaurent_eq a l _ hl (by omega), specIsLaurent_eq b m _ hm (by omega)]
    simp only [Option.bind_some, h1, h2, if_true, spec_MultiplyLaurent.j0, Bool.not_true]
    rw [if_neg (by simp), (hs2 k (by omega)).1, (ht2 k (by omega)).1]
    simp only [Option.bind_some]
    rw [hp.1]
    rfl
  have himpl : ∀ k, 1200000 < k → impl_MultiplyLaurent.f k a l b m = (if q = true then impl_MultiplyLaurent.l0 k l (l.length : Int) 0 b m (wrap64 (a + b)) (List.replicate (l.length + m.length) 0) else some (0, [], 3)) := by
    intro k hk
    unfold impl_MultiplyLaurent.f
    rw [hA]
    simp only [Option.bind_some, h1, h2, Bool.and_self, if_true]
    rw [(hs2 k (by omega)).2, (ht2 k (by omega)).2]
    simp only [Option.bind_some]
    rw [hp.2]
    simp only [Option.bind_some]
    have e1 : wrap64 ((l.length : Int) + (m.length : Int)) = ((l.length + m.length : Nat) : Int) := w64n (l.length + m.length) (by omega)
    rw [e1, Int.toNat_natCast]
    clear e1
    cases q with
    | false => rfl
    | true =>
      simp only [if_true]
      rw [if_pos (by omega), if_pos (by omega)]
  cases q with
  | false =>
    refine ⟨0, [], 3, by simp, fun k hk => ?_⟩
    obtain ⟨k, rfl⟩ := succ_k (show 1200000 < k by omega)
    rw [hspec k (by omega), himpl (k + 1) (by omega)]
    exact ⟨rfl, rfl⟩
  | true =>
    simp only [if_true] at hspec himpl
    have he : -1000000000000000 ≤ wrap64 (a + b) ∧ wrap64 (a + b) ≤ 1000000000000000 := by rw [w64 (a + b) (by omega) (by omega)]; omega
    obtain ⟨e, hE⟩ : ∃ e, e = wrap64 (a + b) := ⟨_, rfl⟩
    by_cases c1 : l.length = 0
    · obtain rfl := List.length_eq_zero_iff.1 c1
      refine ⟨0, [], 0, by simp, fun k hk => ?_⟩
      obtain ⟨k, rfl⟩ := succ_k (show 1200000 < k by omega)
      rw [hspec k (by omega), himpl (k + 1) (by omega), ← hE]
      clear he hE
      constructor
      · obtain ⟨k, rfl⟩ := succ_k (show 1199999 < k by omega)
        have h5 : spec_l03Product.f (k + 1) a [] b m = some (0, []) := by
          unfold spec_l03Product.f
          simp [spec_l03Product.j0]
        rw [h5]
        simp only [Option.bind_some]
        rw [if_eq _ 0 [] (by simp) (by simp; omega)]
        rfl
      · have h6 := valid_zeros k m.length e (by omega)
        simp only [impl_MultiplyLaurent.l0]
        rw [if_neg (by simp)]
        simp only [List.length_nil, Nat.zero_add]
        rw [h6]
        rfl
    by_cases c2 : m.length = 0
    · obtain rfl := List.length_eq_zero_iff.1 c2
      refine ⟨0, [], 0, by simp, fun k hk => ?_⟩
      obtain ⟨k, rfl⟩ := succ_k (show 1200000 < k by omega)
      rw [hspec k (by omega), himpl (k + 1) (by omega), ← hE]
      clear he hE
      constructor
      · obtain ⟨k, rfl⟩ := succ_k (show 1199999 < k by omega)
        have h5 : spec_l03Product.f (k + 1) a l b [] = some (0, []) := by
          unfold spec_l03Product.f
          rw [if_neg (by omega)]
          simp [spec_l03Product.j0]
        rw [h5]
        simp only [Option.bind_some]
        rw [if_eq _ 0 [] (by simp) (by simp; omega)]
        rfl
      · have h6 := pr_none l b e (List.replicate (l.length + ([] : List Int).length) 0) (0, [], 0) (by omega) l.length 0 (k + 1) (by omega) (by omega) (fun k hk => valid_zeros k _ e (by simp; omega))
        rw [Int.natCast_zero] at h6
        exact h6
    obtain ⟨N, hN⟩ : ∃ N, N + 1 = l.length + m.length := ⟨l.length + m.length - 1, by omega⟩
    have hmul := Nat.mul_le_mul (show l.length ≤ 160 by omega) (show m.length + 3 ≤ 163 by omega)
    obtain ⟨P, hP⟩ : ∃ P, P = l.length * (m.length + 3) := ⟨_, rfl⟩
    rw [← hP] at hmul
    obtain ⟨K, hK⟩ : ∃ K : Nat, K = 40000 := ⟨_, rfl⟩
    have hp0 := pr_l0 l m N a b hN (by omega) he 2500 rfl l.length 0 K (List.replicate N 0) (by omega) (by rw [← hP]; clear he hE; omega) (by simp)
    obtain ⟨x, r, h3, h4, h5, h6⟩ := hp0
    rw [Int.natCast_zero] at h5 h6
    clear he hE
    have hel := endOf_length x r
    refine ⟨(endOf x r).1, (endOf x r).2.1, (endOf x r).2.2, by omega, fun k hk => ?_⟩
    obtain ⟨k, rfl⟩ := succ_k (show 1200000 < k by omega)
    rw [hspec k (by omega), himpl (k + 1) (by omega)]
    constructor
    · have h7 : spec_l03Product.f (K + 1) a l b m = some (x, r) := by
        unfold spec_l03Product.f
        have hz : ((m.length : Int) == 0) = false := by simpa using c2
        rw [if_neg (by omega), hz]
        simp only [spec_l03Product.j0]
        have e1 : wrap64 ((l.length : Int) + (m.length : Int)) = ((N + 1 : Nat) : Int) := by rw [w64 _ (by omega) (by omega)]; omega
        rw [e1]
        clear e1
        have e2 : wrap64 (((N + 1 : Nat) : Int) - 1) = (N : Int) := by rw [w64 _ (by omega) (by omega)]; omega
        rw [e2, Int.toNat_natCast]
        clear e2
        rw [if_neg (by simp), if_pos (by omega), if_pos (by omega)]
        exact h5
      rw [at_rounds (spec_l03Product.mono a l b m) (show K + 1 ≤ k by omega) h7]
      simp only [Option.bind_some]
      rw [if_eq k x r (by omega) (by omega)]
      rfl
    · rw [← hN, List.replicate_succ']
      exact at_rounds (fun k => (impl_MultiplyLaurent.mono_l k).1 _ _ _ _ _ _ _) (show K ≤ k + 1 by omega) h6
theorem FnExactMultiplyLaurent : laws_FnExactMultiplyLaurent.Pure := by
  intro a l b m ha hl hw hb hm hv
  obtain ⟨K, hK⟩ : ∃ K : Nat, K = 3050000 := ⟨_, rfl⟩
  refine ⟨K + 1 + 1 + 1, ?_⟩
  unfold laws_FnExactMultiplyLaurent.f
  rw [szLaurent_eq a l 1048576 (by omega) (by omega) hl]
  simp only [Option.bind_some]
  by_cases h : (1048576 : Int) < l.length
  · simp [h]
  · have hl' : l.length ≤ 1048576 := by omega
    rw [if_neg h, if_neg (by omega), szLaurent_eq b m _ (by omega) (by omega) hm]
    simp only [Option.bind_some]
    by_cases h2 : (1048576 - (l.length : Int)) < m.length
    · simp [h2]
    · have hm' : m.length ≤ 1048576 := by omega
      obtain ⟨x, r, t, hr, hb⟩ := mul_both a l b m ha hb hl' hm' hw hv
      rw [if_neg h2, if_neg (by omega)]
      simp (disch := omega) only [toLaurent_eq, hb, eqLaurent_self, markLaurent_eq, Option.bind_some, if_true, Bool.not_true, bne_self_eq_false]
      simp only [laws_FnExactMultiplyLaurent.j0]
      simp (disch := omega) only [toLaurent_eq, hb, eqLaurent_self, markLaurent_eq, heldLaurent_marks, Option.bind_some, if_true, bne_self_eq_false]
      rw [if_neg (by simp), if_neg (by omega)]
      simp only [laws_FnExactMultiplyLaurent.j1]
      simp (disch := omega) only [toLaurent_eq, hb, eqLaurent_self, markLaurent_eq, heldLaurent_marks, Option.bind_some, if_true, bne_self_eq_false]
      rw [if_neg (by simp), if_neg (by omega)]
      simp only [laws_FnExactMultiplyLaurent.j2]
      simp (disch := omega) only [toLaurent_eq, hb, eqLaurent_self, markLaurent_eq, heldLaurent_marks, Option.bind_some, if_true, bne_self_eq_false]
      rw [if_neg (by simp), if_neg (by omega)]

end Go.Proofs.Ytpkocglndlmhkaa.Pure
