/- Program and reference shift alike, in new memory, and leave the argument. No condition: for every input that the statement lets in. -/
import Derived.Test.YtcpgjhpcoohlgaaStmtFnExactShiftLaurent
namespace Go.Proofs.Ytcpgjhpcoohlgaa.Pure
open Go.RowKit Go.Proofs.Ytcpgjhpcoohlgaa.PFnExactShiftLaurent Go.Proofs.YtcpgjhpcoohlgaaW.PrintWords Go.Proofs.YtcpgjhpcoohlgaaW.PrintLast

set_option linter.unusedSimpArgs false
set_option linter.unusedVariables false
theorem w64 (x : Int) (h0 : -9223372036854775808 ≤ x) (h1 : x ≤ 9223372036854775807) : wrap64 x = x := by
  unfold wrap64
  omega
theorem rd_nat (l : List Int) (i : Nat) (h : i < l.length) : rd l (i : Int) = l[i] := by
  simp [rd, List.getD, List.getElem?_eq_getElem h]
theorem succ_k {k n : Nat} (h : n < k) : ∃ m, k = m + 1 := ⟨k - 1, by omega⟩
theorem cast_succ (i : Nat) : ((i : Int) + 1) = ((i + 1 : Nat) : Int) := by omega
theorem drop_rd (l : List Int) (k : Nat) (h : k < l.length) : l.drop k = rd l (k : Int) :: l.drop (k + 1) := by
  rw [List.drop_eq_getElem_cons h, rd_nat l k h]


theorem szInt64S_eq (l : List Int) (a : Int) (h0 : 0 ≤ a) (h1 : a ≤ 1048576) (hl : l.length ≤ maxLen) : laws_szInt64S.f l a = some (if a < l.length then -1 else a - l.length) := by
  unfold maxLen at hl
  unfold laws_szInt64S.f
  rw [w64 _ (by omega) (by omega)]
  by_cases h : a < l.length
  · rw [if_pos (by omega), if_pos h]
  · rw [if_neg (by omega), if_neg h]


theorem szLaurent_eq (a : Int) (l : List Int) (m : Int) (h0 : 0 ≤ m) (h1 : m ≤ 1048576) (hl : l.length ≤ maxLen) : laws_szLaurent.f a l m = some (if m < l.length then -1 else m - l.length) := by
  unfold laws_szLaurent.f
  rw [szInt64S_eq l m h0 h1 hl]
  simp only [Option.bind_some]
  by_cases h : m < l.length
  · rw [if_pos h, if_pos (by omega)]
  · rw [if_neg h, if_neg (by omega)]


theorem toInt64S_l0 (l : List Int) (hl : l.length ≤ 4611686018427387904) : ∀ (d i : Nat) (x3 : List Int) (k : Nat), x3.length = l.length → i + d = l.length → x3.take i = l.take i → d < k → laws_toInt64S.l0 k l x3 (i : Int) = some l := by
  intro d
  induction d with
  | zero =>
    intro i x3 k h3 hd ht hk
    obtain ⟨k, rfl⟩ := succ_k hk
    simp only [laws_toInt64S.l0]
    rw [if_neg (by omega)]
    have e : i = l.length := by omega
    subst e
    rw [List.take_length, List.take_of_length_le (by omega)] at ht
    rw [ht]
  | succ d ih =>
    intro i x3 k h3 hd ht hk
    obtain ⟨k, rfl⟩ := succ_k hk
    simp only [laws_toInt64S.l0]
    rw [if_pos (by omega), if_pos (by omega), if_pos (by omega), w64 _ (by omega) (by omega), cast_succ]
    refine ih (i + 1) _ k (by simp [h3]) (by omega) ?_ (by omega)
    rw [Int.toNat_natCast, rd_nat l i (by omega)]
    rw [List.take_succ_eq_append_getElem (by simp; omega), List.take_succ_eq_append_getElem (by omega), List.take_set_of_le (by omega), ht]
    simp
theorem toInt64S_eq (l : List Int) (k : Nat) (hl : l.length ≤ 1048576) (hk : l.length < k) : laws_toInt64S.f k l = some l := by
  unfold laws_toInt64S.f
  rw [if_pos (by omega), if_pos (by omega)]
  exact toInt64S_l0 l (by omega) l.length 0 _ k (by simp) (by omega) (by simp) hk


theorem toLaurent_eq (a : Int) (l : List Int) (k : Nat) (hl : l.length ≤ 1048576) (hk : l.length < k) : laws_toLaurent.f k a l = some (a, l) := by
  unfold laws_toLaurent.f
  rw [toInt64S_eq l k hl hk]
  rfl


theorem eqInt64S_l0 (l r : List Int) (hr : r.length = l.length) (hl : l.length ≤ 4611686018427387904) : ∀ (d i k : Nat), i + d = l.length → d < k → laws_eqInt64S.l0 k l r (i : Int) = some (decide (l.drop i = r.drop i)) := by
  intro d
  induction d with
  | zero =>
    intro i k hd hk
    obtain ⟨k, rfl⟩ := succ_k hk
    simp only [laws_eqInt64S.l0]
    rw [if_neg (by omega), List.drop_of_length_le (by omega), List.drop_of_length_le (by omega)]
    simp
  | succ d ih =>
    intro i k hd hk
    obtain ⟨k, rfl⟩ := succ_k hk
    simp only [laws_eqInt64S.l0]
    rw [if_pos (by omega), if_pos (by omega), if_pos (by omega), w64 _ (by omega) (by omega), cast_succ, ih (i + 1) k (by omega) (by omega), drop_rd l i (by omega), drop_rd r i (by omega)]
    by_cases h : rd l (i : Int) = rd r (i : Int)
    · simp [h]
    · simp [h]
theorem eqInt64S_eq (l r : List Int) (k : Nat) (hl : l.length ≤ 4611686018427387904) (hk : l.length < k) : laws_eqInt64S.f k l r = some (decide (l = r)) := by
  unfold laws_eqInt64S.f
  by_cases h : l.length = r.length
  · rw [if_pos (by omega)]
    have := eqInt64S_l0 l r h.symm hl l.length 0 k (by omega) hk
    simpa using this
  · rw [if_neg (by omega)]
    have : ¬ l = r := fun e => h (by rw [e])
    simp [this]
theorem eqInt64S_self (l : List Int) (k : Nat) (hl : l.length ≤ 4611686018427387904) (hk : l.length < k) : laws_eqInt64S.f k l l = some true := by
  rw [eqInt64S_eq l l k hl hk]
  simp


theorem eqLaurent_self (a : Int) (l : List Int) (k : Nat) (hl : l.length ≤ 4611686018427387904) (hk : l.length < k) : laws_eqLaurent.f k a l a l = some true := by
  unfold laws_eqLaurent.f
  rw [if_pos rfl, eqInt64S_self l k hl hk]
  rfl


/-- The numbers from m on. -/
def marks : Int → Nat → List Int
  | _, 0 => []
  | m, n + 1 => m :: marks (m + 1) n
theorem marks_length : ∀ (m : Int) (n : Nat), (marks m n).length = n
  | _, 0 => rfl
  | m, n + 1 => by simp [marks, marks_length (m + 1) n]


theorem markInt64S_l0 : ∀ (d i k : Nat) (x0 : List Int) (x1 : Int), x0.length ≤ 4611686018427387904 → i + d = x0.length → 0 ≤ x1 → x1 + d ≤ 4611686018427387904 → d < k →
    laws_markInt64S.l0 k x0 x1 (i : Int) = some (x1 + d, x0.take i ++ marks x1 d) := by
  intro d
  induction d with
  | zero =>
    intro i k x0 x1 hl hd h0 h1 hk
    obtain ⟨k, rfl⟩ := succ_k hk
    simp only [laws_markInt64S.l0]
    rw [if_neg (by omega)]
    simp [marks, List.take_of_length_le (show x0.length ≤ i by omega)]
  | succ d ih =>
    intro i k x0 x1 hl hd h0 h1 hk
    obtain ⟨k, rfl⟩ := succ_k hk
    simp only [laws_markInt64S.l0]
    rw [if_pos (by omega), if_pos (by omega), w64 _ (by omega) (by omega), w64 _ (by omega) (by omega), cast_succ, Int.toNat_natCast]
    rw [ih (i + 1) k (x0.set i x1) (x1 + 1) (by simp; omega) (by simp; omega) (by omega) (by omega) (by omega)]
    rw [List.take_succ_eq_append_getElem (by simp; omega), List.take_set_of_le (by omega)]
    simp only [marks, List.getElem_set_self, List.append_assoc, List.singleton_append]
    rw [show x1 + 1 + (d : Int) = x1 + ((d + 1 : Nat) : Int) by omega]
theorem markInt64S_eq (l : List Int) (m : Int) (k : Nat) (hl : l.length ≤ 1048576) (h0 : 0 ≤ m) (h1 : m ≤ 4611686018426339328) (hk : l.length < k) :
    laws_markInt64S.f k l m = some (m + l.length, marks m l.length) := by
  unfold laws_markInt64S.f
  have := markInt64S_l0 l.length 0 k l m (by omega) (by omega) h0 (by omega) hk
  simpa using this


theorem markLaurent_eq (a : Int) (l : List Int) (m : Int) (k : Nat) (hl : l.length ≤ 1048576) (h0 : 0 ≤ m) (h1 : m ≤ 4611686018426339328) (hk : l.length < k) :
    laws_markLaurent.f k a l m = some (m + l.length, marks m l.length) := by
  unfold laws_markLaurent.f
  rw [markInt64S_eq l m k hl h0 h1 hk]
  rfl


theorem heldInt64S_l0 : ∀ (d i k : Nat) (x0 : List Int) (x1 : Int), x0.length ≤ 4611686018427387904 → i + d = x0.length → x0.drop i = marks x1 d → 0 ≤ x1 → x1 + d ≤ 4611686018427387904 → d < k →
    laws_heldInt64S.l0 k x0 x1 (i : Int) = some (x1 + d) := by
  intro d
  induction d with
  | zero =>
    intro i k x0 x1 hl hd he h0 h1 hk
    obtain ⟨k, rfl⟩ := succ_k hk
    simp only [laws_heldInt64S.l0]
    rw [if_neg (by omega)]
    simp
  | succ d ih =>
    intro i k x0 x1 hl hd he h0 h1 hk
    obtain ⟨k, rfl⟩ := succ_k hk
    simp only [laws_heldInt64S.l0]
    rw [drop_rd x0 i (by omega)] at he
    simp only [marks, List.cons.injEq] at he
    rw [if_pos (by omega), if_pos (by omega), if_pos he.1, w64 _ (by omega) (by omega), w64 _ (by omega) (by omega), cast_succ, ih (i + 1) k x0 (x1 + 1) hl (by omega) he.2 (by omega) (by omega) (by omega)]
    rw [show x1 + 1 + (d : Int) = x1 + ((d + 1 : Nat) : Int) by omega]
theorem heldInt64S_marks (m : Int) (n k : Nat) (hl : n ≤ 1048576) (h0 : 0 ≤ m) (h1 : m ≤ 4611686018426339328) (hk : n < k) :
    laws_heldInt64S.f k (marks m n) m = some (m + n) := by
  unfold laws_heldInt64S.f
  exact heldInt64S_l0 n 0 k (marks m n) m (by rw [marks_length]; omega) (by rw [marks_length]; omega) (by simp) h0 (by omega) hk


theorem heldLaurent_marks (a m : Int) (n k : Nat) (hl : n ≤ 1048576) (h0 : 0 ≤ m) (h1 : m ≤ 4611686018426339328) (hk : n < k) :
    laws_heldLaurent.f k a (marks m n) m = some (m + n) := by
  unfold laws_heldLaurent.f
  rw [heldInt64S_marks m n k hl h0 h1 hk]
  simp only [Option.bind_some]
  rw [if_neg (by omega)]


def inR (x : Int) : Bool := decide (-1000000000000 ≤ x) && decide (x ≤ 1000000000000)
def lauC (a : Int) (l : List Int) : Prop := l.length ≤ 160 ∧ rd l 0 ≠ 0 ∧ rd l ((l.length - 1 : Nat) : Int) ≠ 0 ∧ -240 ≤ a ∧ a ≤ 240 ∧ a + l.length - 1 ≤ 240
instance (a : Int) (l : List Int) : Decidable (lauC a l) := by unfold lauC; infer_instance
/-- Is it a Laurent polynomial in its normal form? -/
def isLauB (a : Int) (l : List Int) : Bool := if l.length = 0 then a == 0 else decide (lauC a l) && l.all inR
theorem last_idx (l : List Int) (h : ¬ l.length = 0) (hl : l.length ≤ 4611686018427387904) : wrap64 ((l.length : Int) - 1) = ((l.length - 1 : Nat) : Int) := by
  rw [w64 _ (by omega) (by omega)]
  omega


theorem specIsLaurent_l0 (a : Int) (l : List Int) (hl : l.length ≤ 4611686018427387904) : ∀ (d i k : Nat), i + d = l.length → d < k →
    spec_IsLaurent.l0 k (i : Int) a l = some ((l.drop i).all inR) := by
  intro d
  induction d with
  | zero =>
    intro i k hd hk
    obtain ⟨k, rfl⟩ := succ_k hk
    simp only [spec_IsLaurent.l0]
    rw [if_neg (by omega), List.drop_of_length_le (by omega)]
    rfl
  | succ d ih =>
    intro i k hd hk
    obtain ⟨k, rfl⟩ := succ_k hk
    simp only [spec_IsLaurent.l0]
    rw [if_pos (by omega), if_pos (by omega), w64 _ (by omega) (by omega), cast_succ, ih (i + 1) k (by omega) (by omega), drop_rd l i (by omega), List.all_cons]
    unfold spec_l01In.f inR
    generalize rd l (i : Int) = y
    by_cases h1 : -1000000000000 ≤ y <;> by_cases h2 : y ≤ 1000000000000 <;> simp [h1, h2]
theorem specIsLaurent_eq (a : Int) (l : List Int) (k : Nat) (hl : l.length ≤ 1048576) (hk : l.length + 1 < k) : spec_IsLaurent.f k a l = some (isLauB a l) := by
  obtain ⟨k, rfl⟩ := succ_k hk
  have hs := specIsLaurent_l0 a l (by omega) l.length 0 k (by omega) (by omega)
  rw [Int.natCast_zero, List.drop_zero] at hs
  unfold spec_IsLaurent.f spec_l01In.f isLauB
  by_cases h0 : l.length = 0
  · rw [if_pos (by omega), if_pos h0]
  rw [if_neg (by omega), if_neg h0, last_idx l h0 (by omega)]
  simp only [spec_IsLaurent.j0]
  by_cases h1 : l.length ≤ 160
  case neg => rw [if_pos (by omega), decide_eq_false (fun h => h1 h.1)]; rfl
  rw [if_neg (by omega)]
  by_cases h2 : a ≥ -240
  case neg => rw [if_neg h2, decide_eq_false (fun h => h2 h.2.2.2.1)]; rfl
  rw [if_pos h2]
  by_cases h3 : a ≤ 240
  case neg => rw [decide_eq_false h3, decide_eq_false (fun h => h3 h.2.2.2.2.1)]; rfl
  rw [decide_eq_true h3]
  simp only [Option.bind_some, if_true]
  rw [w64 (a + l.length) (by omega) (by omega), w64 (a + l.length - 1) (by omega) (by omega)]
  by_cases h4 : a + l.length - 1 > 240
  · rw [if_pos h4, decide_eq_false (fun h => by have := h.2.2.2.2.2; omega)]; rfl
  rw [if_neg h4, if_pos (by omega)]
  by_cases h5 : rd l 0 = 0
  · rw [if_pos h5, decide_eq_false (fun h => h.2.1 h5)]; rfl
  rw [if_neg h5, if_pos (by omega), if_pos (by omega)]
  by_cases h6 : rd l ((l.length - 1 : Nat) : Int) = 0
  · rw [beq_iff_eq.2 h6, if_pos rfl, decide_eq_false (fun h => h.2.2.1 h6)]; rfl
  rw [if_neg (by simpa using h6), hs, decide_eq_true (show lauC a l from ⟨h1, h5, h6, h2, h3, by omega⟩)]
  rfl


theorem any_lauBad (l : List Int) : (!(l.any lauBad)) = l.all inR := by
  induction l with
  | nil => rfl
  | cons x r ih =>
    rw [List.any_cons, List.all_cons, Bool.not_or, ih]
    unfold lauBad inR
    simp
theorem implisLaurent_eq (a : Int) (l : List Int) (ha : (Lit.int .i64 a).wf = true) (hl : l.length ≤ 1048576) : impl_isLaurent.f a l = some (isLauB a l) := by
  have hw : -9223372036854775808 ≤ a ∧ a ≤ 9223372036854775807 := by simpa [Lit.wf, IntKind.min, IntKind.max, IntKind.signed, IntKind.bits] using ha
  unfold impl_isLaurent.f impl_Laurent_high.f impl_size_int64.f anyLaurentBad.f isLauB
  by_cases h0 : l.length = 0
  · rw [if_pos (by omega), if_pos h0]
  rw [if_neg (by omega), if_neg h0, last_idx l h0 (by omega)]
  by_cases h1 : l.length ≤ 160
  case neg => rw [if_neg (by omega), decide_eq_false (fun h => h1 h.1)]; rfl
  rw [if_pos (by omega), if_pos (by omega)]
  by_cases h5 : rd l 0 = 0
  · rw [if_pos h5, decide_eq_false (fun h => h.2.1 h5)]; rfl
  rw [if_neg h5, if_pos (by omega), if_pos (by omega)]
  by_cases h6 : rd l ((l.length - 1 : Nat) : Int) = 0
  · rw [if_pos h6, decide_eq_false (fun h => h.2.2.1 h6)]; rfl
  rw [if_neg h6]
  by_cases h2 : a ≥ -240
  case neg => rw [if_neg h2, decide_eq_false (fun h => h2 h.2.2.2.1)]; rfl
  rw [if_pos h2]
  simp only [Option.bind_some]
  by_cases h3 : a ≤ 240
  case neg => rw [if_neg h3, decide_eq_false (fun h => h3 h.2.2.2.2.1)]; simp
  rw [if_pos h3, w64 (a + l.length) (by omega) (by omega), w64 (a + l.length - 1) (by omega) (by omega)]
  by_cases h4 : a + l.length - 1 ≤ 240
  case neg => rw [if_neg h4, decide_eq_false (fun h => by have := h.2.2.2.2.2; omega)]; rfl
  rw [if_pos h4, any_lauBad, decide_eq_true (show lauC a l from ⟨h1, h5, h6, h2, h3, by omega⟩)]
  rfl
theorem isLauB_len {a : Int} {l : List Int} (h : isLauB a l = true) : l.length ≤ 160 ∧ -240 ≤ a ∧ a ≤ 240 ∧ (l.length = 0 → a = 0) ∧ (¬ l.length = 0 → a + l.length - 1 ≤ 240) := by
  unfold isLauB at h
  by_cases h0 : l.length = 0
  · rw [if_pos h0] at h
    have : a = 0 := by simpa using h
    omega
  · rw [if_neg h0] at h
    simp only [Bool.and_eq_true, decide_eq_true_eq] at h
    obtain ⟨⟨h1, h2, h3, h4, h5, h6⟩, _⟩ := h
    omega


theorem last_take (l : List Int) (lo m : Nat) (h : lo + (m + 1) ≤ l.length) : rd ((l.drop lo).take (m + 1)) (m : Int) = rd l ((lo + m : Nat) : Int) := by
  rw [rd_nat _ m (by simp; omega), rd_nat l _ (by omega)]
  simp
theorem form_l1 (a : Int) (l : List Int) (ha : -1000000000000000 ≤ a ∧ a ≤ 1000000000000000) (hl : l.length ≤ 1048576) (lo : Nat) : ∀ (m k : Nat), lo + m ≤ l.length → m < k →
    ∃ x r, spec_l03Form.l1 k a l (lo : Int) ((lo + m : Nat) : Int) = some (x, r) ∧ impl_normal.l1 k (a + lo) ((l.drop lo).take m) = some (x, r) ∧ r.length ≤ l.length := by
  intro m
  induction m with
  | zero =>
    intro k hm hk
    obtain ⟨k, rfl⟩ := succ_k hk
    refine ⟨0, [], ?_, ?_, by simp⟩
    · simp only [spec_l03Form.l1]
      rw [if_neg (by omega), if_pos (by omega)]
    · simp only [impl_normal.l1]
      simp
  | succ m ih =>
    intro k hm hk
    obtain ⟨k, rfl⟩ := succ_k hk
    have hlen : ((l.drop lo).take (m + 1)).length = m + 1 := by simp; omega
    have e1 : wrap64 (((lo + (m + 1) : Nat) : Int) - 1) = ((lo + m : Nat) : Int) := by rw [w64 _ (by omega) (by omega)]; omega
    have e2 : wrap64 (((m + 1 : Nat) : Int) - 1) = (m : Int) := by rw [w64 _ (by omega) (by omega)]; omega
    simp only [spec_l03Form.l1, impl_normal.l1]
    rw [hlen, e1, e2, last_take l lo m hm]
    by_cases h0 : rd l ((lo + m : Nat) : Int) = 0
    · simp (disch := omega) only [if_pos, if_neg]
      rw [Int.toNat_natCast, List.take_take, Nat.min_eq_left (by omega)]
      exact ih k (by omega) (by omega)
    · simp (disch := omega) only [if_pos, if_neg]
      refine ⟨a + lo, (l.drop lo).take (m + 1), ?_, ?_, by omega⟩
      · simp only [Option.bind_some]
        have e3 : (l.take ((lo + (m + 1) : Nat) : Int).toNat).drop ((lo : Int)).toNat = (l.drop lo).take (m + 1) := by
          rw [Int.toNat_natCast, Int.toNat_natCast, List.drop_take, show lo + (m + 1) - lo = m + 1 by omega]
        rw [e3, if_pos (by rw [hlen]; simp; omega), w64 _ (by omega) (by omega)]
        rfl
      · unfold slices_Clone_int64_int64.f
        rw [if_pos (by omega)]
        rfl
theorem form_l0 (a : Int) (l : List Int) (ha : -1000000000000000 ≤ a ∧ a ≤ 1000000000000000) (hl : l.length ≤ 1048576) : ∀ (d i k : Nat), i + d = l.length → d + l.length + 2 < k →
    ∃ x r, spec_l03Form.l0 k a l (i : Int) (l.length : Int) = some (x, r) ∧ impl_normal.l0 k (a + i) (l.drop i) = some (x, r) ∧ r.length ≤ l.length := by
  intro d
  induction d with
  | zero =>
    intro i k hd hk
    obtain ⟨k, rfl⟩ := succ_k hk
    obtain ⟨k, rfl⟩ := succ_k (show l.length + 1 < k by omega)
    obtain rfl : i = l.length := by omega
    obtain ⟨x, r, h1, h2, h3⟩ := form_l1 a l ha hl l.length 0 k (by omega) (by omega)
    refine ⟨x, r, ?_, ?_, h3⟩
    · simp only [spec_l03Form.l0, spec_l03Form.j1]
      rw [if_neg (by omega)]
      rw [Nat.add_zero] at h1
      exact h1
    · simp only [impl_normal.l0, impl_normal.j1]
      rw [if_neg (by simp)]
      simpa using h2
  | succ d ih =>
    intro i k hd hk
    obtain ⟨k, rfl⟩ := succ_k hk
    have hlen : (l.drop i).length = d + 1 := by simp; omega
    simp only [spec_l03Form.l0, impl_normal.l0]
    have e0 : rd (l.drop i) 0 = rd l (i : Int) := by rw [drop_rd l i (by omega)]; rfl
    rw [hlen, e0]
    by_cases h0 : rd l (i : Int) = 0
    · simp (disch := omega) only [if_pos, if_neg]
      rw [w64 _ (by omega) (by omega), w64 _ (by omega) (by omega), List.drop_drop, cast_succ, show a + (i : Int) + 1 = a + ((i + 1 : Nat) : Int) by omega]
      exact ih (i + 1) k (by omega) (by omega)
    · obtain ⟨k, rfl⟩ := succ_k (show l.length + 1 < k by omega)
      simp (disch := omega) only [if_pos, if_neg]
      simp only [spec_l03Form.j1, impl_normal.j1]
      obtain ⟨x, r, h1, h2, h3⟩ := form_l1 a l ha hl i (d + 1) k (by omega) (by omega)
      refine ⟨x, r, ?_, ?_, h3⟩
      · rw [hd] at h1
        exact h1
      · rw [List.take_of_length_le (by omega)] at h2
        exact h2
theorem form_normal (a : Int) (l : List Int) (ha : -1000000000000000 ≤ a ∧ a ≤ 1000000000000000) (hl : l.length ≤ 1048576) :
    ∃ x r, r.length ≤ l.length ∧ ∀ k, 2 * l.length + 2 < k → (spec_l03Form.f k a l = some (x, r) ∧ impl_normal.f k a l = some (x, r)) := by
  obtain ⟨x, r, h1, h2, h3⟩ := form_l0 a l ha hl l.length 0 (2 * l.length + 3) (by omega) (by omega)
  refine ⟨x, r, h3, fun k hk => ⟨at_rounds (spec_l03Form.mono a l) (show 2 * l.length + 3 ≤ k by omega) ?_, at_rounds (impl_normal.mono a l) (show 2 * l.length + 3 ≤ k by omega) ?_⟩⟩
  · unfold spec_l03Form.f
    exact h1
  · unfold impl_normal.f
    rw [Int.natCast_zero, Int.add_zero, List.drop_zero] at h2
    exact h2


theorem form_wf1 (a : Int) (l : List Int) (ha : -1000000000000000 ≤ a ∧ a ≤ 1000000000000000) : ∀ (k : Nat) (m x : Int) (y r : List Int), y.length ≤ 1048576 → -2000000000000000 ≤ m → m ≤ 2000000000000000 → impl_normal.l1 k m y = some (x, r) → (Lit.int .i64 x).wf = true := by
  have wf : ∀ z : Int, -2000000000000000 ≤ z → z ≤ 2000000000000000 → (Lit.int .i64 z).wf = true := by
    intro z h1 h2
    simp [Lit.wf, IntKind.min, IntKind.max, IntKind.signed, IntKind.bits]
    omega
  intro k
  induction k with
  | zero =>
    intro m x y r _ _ _ h
    simp [impl_normal.l1] at h
  | succ k ih =>
    intro m x y r hy h1 h2 h
    simp only [impl_normal.l1] at h
    unfold slices_Clone_int64_int64.f at h
    split at h
    · split at h
      · split at h
        · split at h
          · split at h
            · exact ih m x _ r (by simp; omega) h1 h2 h
            · cases h
          · split at h
            · cases h
              exact wf 0 (by omega) (by omega)
            · rw [if_pos (by omega)] at h
              cases h
              exact wf _ h1 h2
        · cases h
      · cases h
    · split at h
      · cases h
        exact wf 0 (by omega) (by omega)
      · rw [if_pos (by omega)] at h
        cases h
        exact wf _ h1 h2
theorem form_wf (a : Int) (l : List Int) (x : Int) (r : List Int) (ha : -1000000000000000 ≤ a ∧ a ≤ 1000000000000000) (hl : l.length ≤ 1048576) {k : Nat} (h : impl_normal.f k a l = some (x, r)) : (Lit.int .i64 x).wf = true := by
  have : ∀ (k i : Nat) (y : List Int), i + y.length ≤ l.length → impl_normal.l0 k (a + i) y = some (x, r) → (Lit.int .i64 x).wf = true := by
    intro k
    induction k with
    | zero =>
      intro i y _ h
      simp [impl_normal.l0] at h
    | succ k ih =>
      intro i y hi h
      have hj : ∀ k', impl_normal.j1 k' (a + i) y = some (x, r) → (Lit.int .i64 x).wf = true := by
        intro k' h'
        cases k' with
        | zero => simp [impl_normal.j1] at h'
        | succ k' =>
          simp only [impl_normal.j1] at h'
          exact form_wf1 a l ha k' _ x y r (by omega) (by omega) (by omega) h'
      simp only [impl_normal.l0] at h
      by_cases c1 : (y.length : Int) > 0
      · rw [if_pos c1, if_pos c1] at h
        by_cases c2 : rd y 0 = 0
        · rw [if_pos c2, if_pos (by omega), w64 _ (by omega) (by omega), show a + (i : Int) + 1 = a + ((i + 1 : Nat) : Int) by omega] at h
          exact ih (i + 1) _ (by simp; omega) h
        · rw [if_neg c2] at h
          exact hj _ h
      · rw [if_neg c1] at h
        exact hj _ h
  unfold impl_normal.f at h
  exact this k 0 l (by omega) (by simpa using h)


theorem shift_both (a : Int) (l : List Int) (s : Int) (ha : (Lit.int .i64 a).wf = true) (hl : l.length ≤ 1048576) : ∃ x r t, r.length ≤ 1048576 ∧ ∀ k, 2 * l.length + 1000 < k → (spec_ShiftLaurent.f k a l s = some (x, r, t) ∧ impl_ShiftLaurent.f k a l s = some (x, r, t)) := by
  by_cases hb : isLauB a l = true
  case neg =>
    refine ⟨0, [], 1, by simp, fun k hk => ?_⟩
    unfold spec_ShiftLaurent.f impl_ShiftLaurent.f
    rw [specIsLaurent_eq a l k hl (by omega), implisLaurent_eq a l ha hl]
    simp [hb]
  have hlen := isLauB_len hb
  by_cases h1 : -480 ≤ s ∧ s ≤ 480
  case neg =>
    refine ⟨0, [], 2, by simp, fun k hk => ?_⟩
    unfold spec_ShiftLaurent.f impl_ShiftLaurent.f spec_l01In.f impl_inRange.f
    rw [specIsLaurent_eq a l k hl (by omega), implisLaurent_eq a l ha hl]
    by_cases h2 : -480 ≤ s <;> by_cases h3 : s ≤ 480 <;> simp [hb, h2, h3]
    exact absurd ⟨h2, h3⟩ h1
  obtain ⟨x, r, h2, h3⟩ := form_normal (wrap64 (a + s)) l (by rw [w64 _ (by omega) (by omega)]; omega) hl
  have hx := form_wf (wrap64 (a + s)) l x r (by rw [w64 _ (by omega) (by omega)]; omega) hl (h3 (2 * l.length + 3) (by omega)).2
  by_cases h4 : isLauB x r = true
  · refine ⟨x, r, 0, by omega, fun k hk => ?_⟩
    unfold spec_ShiftLaurent.f impl_ShiftLaurent.f spec_l01In.f impl_inRange.f impl_valid.f spec_l03If.f
    rw [specIsLaurent_eq a l k hl (by omega), implisLaurent_eq a l ha hl]
    have h5 := h3 k (by omega)
    simp only [Option.bind_some, hb, if_true]
    rw [if_pos h1.1, decide_eq_true h1.2]
    simp only [Option.bind_some, if_true]
    rw [h5.1, h5.2]
    simp only [Option.bind_some]
    rw [specIsLaurent_eq x r k (by omega) (by omega), implisLaurent_eq x r hx (by omega)]
    simp [h4]
  · refine ⟨0, [], 3, by simp, fun k hk => ?_⟩
    unfold spec_ShiftLaurent.f impl_ShiftLaurent.f spec_l01In.f impl_inRange.f impl_valid.f spec_l03If.f
    rw [specIsLaurent_eq a l k hl (by omega), implisLaurent_eq a l ha hl]
    have h5 := h3 k (by omega)
    simp only [Option.bind_some, hb, if_true]
    rw [if_pos h1.1, decide_eq_true h1.2]
    simp only [Option.bind_some, if_true]
    rw [h5.1, h5.2]
    simp only [Option.bind_some]
    rw [specIsLaurent_eq x r k (by omega) (by omega), implisLaurent_eq x r hx (by omega)]
    simp [h4]
theorem FnExactShiftLaurent : laws_FnExactShiftLaurent.Pure := by
  intro a l s ha hl hw hs
  obtain ⟨K, hK⟩ : ∃ K : Nat, K = 3050000 := ⟨_, rfl⟩
  refine ⟨K + 1 + 1 + 1, ?_⟩
  unfold laws_FnExactShiftLaurent.f
  rw [szLaurent_eq a l 1048576 (by omega) (by omega) hl]
  simp only [Option.bind_some]
  by_cases h : (1048576 : Int) < l.length
  · simp [h]
  · have hl' : l.length ≤ 1048576 := by omega
    obtain ⟨x, r, t, hr, hb⟩ := shift_both a l s ha hl'
    rw [if_neg h, if_neg (by omega)]
    simp (disch := omega) only [toLaurent_eq, hb, eqLaurent_self, markLaurent_eq, Option.bind_some, if_true, Bool.not_true, bne_self_eq_false]
    simp only [laws_FnExactShiftLaurent.j0]
    simp (disch := omega) only [toLaurent_eq, hb, eqLaurent_self, markLaurent_eq, heldLaurent_marks, Option.bind_some, if_true, bne_self_eq_false]
    rw [if_neg (by simp), if_neg (by omega)]
    simp only [laws_FnExactShiftLaurent.j1]
    simp (disch := omega) only [toLaurent_eq, hb, eqLaurent_self, markLaurent_eq, heldLaurent_marks, Option.bind_some, if_true, bne_self_eq_false]
    rw [if_neg (by simp), if_neg (by omega)]
    simp only [laws_FnExactShiftLaurent.j2]
    simp (disch := omega) only [toLaurent_eq, hb, eqLaurent_self, markLaurent_eq, heldLaurent_marks, Option.bind_some, if_true, bne_self_eq_false]
    rw [if_neg (by simp), if_neg (by omega)]

end Go.Proofs.Ytcpgjhpcoohlgaa.Pure
