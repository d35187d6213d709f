/- Program and reference add alike, in new memory, and leave the arguments. No condition: for every input that the statement lets in. -/
import Derived.Test.YtpkocglndlmhkaaStmtFnExactAddLaurent
namespace Go.Proofs.Ytpkocglndlmhkaa.Pure
open Go.RowKit Go.Proofs.Ytpkocglndlmhkaa.PFnExactAddLaurent Go.Proofs.YtpkocglndlmhkaaW.PrintWords Go.Proofs.YtpkocglndlmhkaaW.PrintLast

set_option linter.unusedSimpArgs false
set_option linter.unusedVariables false
theorem w64 (x : Int) (h0 : -9223372036854775808 ≤ x) (h1 : x ≤ 9223372036854775807) : wrap64 x = x := by
  unfold wrap64
  omega
theorem w64n (n : Nat) (h : n ≤ 9223372036854775807) : wrap64 (n : Int) = (n : Int) := w64 _ (by omega) (by omega)
theorem rd_nat (l : List Int) (i : Nat) (h : i < l.length) : rd l (i : Int) = l[i] := by
  simp [rd, List.getD, List.getElem?_eq_getElem h]
theorem succ_k {k n : Nat} (h : n < k) : ∃ m, k = m + 1 := ⟨k - 1, by omega⟩
theorem cast_succ (i : Nat) : ((i : Int) + 1) = ((i + 1 : Nat) : Int) := by omega
theorem drop_rd (l : List Int) (k : Nat) (h : k < l.length) : l.drop k = rd l (k : Int) :: l.drop (k + 1) := by
  rw [List.drop_eq_getElem_cons h, rd_nat l k h]


theorem szInt64S_eq (l : List Int) (a : Int) (h0 : 0 ≤ a) (h1 : a ≤ 1048576) (hl : l.length ≤ maxLen) : laws_szInt64S.f l a = some (if a < l.length then -1 else a - l.length) := by
  unfold maxLen at hl
  unfold laws_szInt64S.f
  rw [w64 _ (by omega) (by omega)]
  by_cases h : a < l.length
  · rw [if_pos (by omega), if_pos h]
  · rw [if_neg (by omega), if_neg h]


theorem szLaurent_eq (a : Int) (l : List Int) (m : Int) (h0 : 0 ≤ m) (h1 : m ≤ 1048576) (hl : l.length ≤ maxLen) : laws_szLaurent.f a l m = some (if m < l.length then -1 else m - l.length) := by
  unfold laws_szLaurent.f
  rw [szInt64S_eq l m h0 h1 hl]
  simp only [Option.bind_some]
  by_cases h : m < l.length
  · rw [if_pos h, if_pos (by omega)]
  · rw [if_neg h, if_neg (by omega)]


theorem toInt64S_l0 (l : List Int) (hl : l.length ≤ 4611686018427387904) : ∀ (d i : Nat) (x3 : List Int) (k : Nat), x3.length = l.length → i + d = l.length → x3.take i = l.take i → d < k → laws_toInt64S.l0 k l x3 (i : Int) = some l := by
  intro d
  induction d with
  | zero =>
    intro i x3 k h3 hd ht hk
    obtain ⟨k, rfl⟩ := succ_k hk
    simp only [laws_toInt64S.l0]
    rw [if_neg (by omega)]
    have e : i = l.length := by omega
    subst e
    rw [List.take_length, List.take_of_length_le (by omega)] at ht
    rw [ht]
  | succ d ih =>
    intro i x3 k h3 hd ht hk
    obtain ⟨k, rfl⟩ := succ_k hk
    simp only [laws_toInt64S.l0]
    rw [if_pos (by omega), if_pos (by omega), if_pos (by omega), w64 _ (by omega) (by omega), cast_succ]
    refine ih (i + 1) _ k (by simp [h3]) (by omega) ?_ (by omega)
    rw [Int.toNat_natCast, rd_nat l i (by omega)]
    rw [List.take_succ_eq_append_getElem (by simp; omega), List.take_succ_eq_append_getElem (by omega), List.take_set_of_le (by omega), ht]
    simp
theorem toInt64S_eq (l : List Int) (k : Nat) (hl : l.length ≤ 1048576) (hk : l.length < k) : laws_toInt64S.f k l = some l := by
  unfold laws_toInt64S.f
  rw [if_pos (by omega), if_pos (by omega)]
  exact toInt64S_l0 l (by omega) l.length 0 _ k (by simp) (by omega) (by simp) hk


theorem toLaurent_eq (a : Int) (l : List Int) (k : Nat) (hl : l.length ≤ 1048576) (hk : l.length < k) : laws_toLaurent.f k a l = some (a, l) := by
  unfold laws_toLaurent.f
  rw [toInt64S_eq l k hl hk]
  rfl


theorem eqInt64S_l0 (l r : List Int) (hr : r.length = l.length) (hl : l.length ≤ 4611686018427387904) : ∀ (d i k : Nat), i + d = l.length → d < k → laws_eqInt64S.l0 k l r (i : Int) = some (decide (l.drop i = r.drop i)) := by
  intro d
  induction d with
  | zero =>
    intro i k hd hk
    obtain ⟨k, rfl⟩ := succ_k hk
    simp only [laws_eqInt64S.l0]
    rw [if_neg (by omega), List.drop_of_length_le (by omega), List.drop_of_length_le (by omega)]
    simp
  | succ d ih =>
    intro i k hd hk
    obtain ⟨k, rfl⟩ := succ_k hk
    simp only [laws_eqInt64S.l0]
    rw [if_pos (by omega), if_pos (by omega), if_pos (by omega), w64 _ (by omega) (by omega), cast_succ, ih (i + 1) k (by omega) (by omega), drop_rd l i (by omega), drop_rd r i (by omega)]
    by_cases h : rd l (i : Int) = rd r (i : Int)
    · simp [h]
    · simp [h]
theorem eqInt64S_eq (l r : List Int) (k : Nat) (hl : l.length ≤ 4611686018427387904) (hk : l.length < k) : laws_eqInt64S.f k l r = some (decide (l = r)) := by
  unfold laws_eqInt64S.f
  by_cases h : l.length = r.length
  · rw [if_pos (by omega)]
    have := eqInt64S_l0 l r h.symm hl l.length 0 k (by omega) hk
    simpa using this
  · rw [if_neg (by omega)]
    have : ¬ l = r := fun e => h (by rw [e])
    simp [this]
theorem eqInt64S_self (l : List Int) (k : Nat) (hl : l.length ≤ 4611686018427387904) (hk : l.length < k) : laws_eqInt64S.f k l l = some true := by
  rw [eqInt64S_eq l l k hl hk]
  simp


theorem eqLaurent_self (a : Int) (l : List Int) (k : Nat) (hl : l.length ≤ 4611686018427387904) (hk : l.length < k) : laws_eqLaurent.f k a l a l = some true := by
  unfold laws_eqLaurent.f
  rw [if_pos rfl, eqInt64S_self l k hl hk]
  rfl


/-- The numbers from m on. -/
def marks : Int → Nat → List Int
  | _, 0 => []
  | m, n + 1 => m :: marks (m + 1) n
theorem marks_length : ∀ (m : Int) (n : Nat), (marks m n).length = n
  | _, 0 => rfl
  | m, n + 1 => by simp [marks, marks_length (m + 1) n]


theorem markInt64S_l0 : ∀ (d i k : Nat) (x0 : List Int) (x1 : Int), x0.length ≤ 4611686018427387904 → i + d = x0.length → 0 ≤ x1 → x1 + d ≤ 4611686018427387904 → d < k →
    laws_markInt64S.l0 k x0 x1 (i : Int) = some (x1 + d, x0.take i ++ marks x1 d) := by
  intro d
  induction d with
  | zero =>
    intro i k x0 x1 hl hd h0 h1 hk
    obtain ⟨k, rfl⟩ := succ_k hk
    simp only [laws_markInt64S.l0]
    rw [if_neg (by omega)]
    simp [marks, List.take_of_length_le (show x0.length ≤ i by omega)]
  | succ d ih =>
    intro i k x0 x1 hl hd h0 h1 hk
    obtain ⟨k, rfl⟩ := succ_k hk
    simp only [laws_markInt64S.l0]
    rw [if_pos (by omega), if_pos (by omega), w64 _ (by omega) (by omega), w64 _ (by omega) (by omega), cast_succ, Int.toNat_natCast]
    rw [ih (i + 1) k (x0.set i x1) (x1 + 1) (by simp; omega) (by simp; omega) (by omega) (by omega) (by omega)]
    rw [List.take_succ_eq_append_getElem (by simp; omega), List.take_set_of_le (by omega)]
    simp only [marks, List.getElem_set_self, List.append_assoc, List.singleton_append]
    rw [show x1 + 1 + (d : Int) = x1 + ((d + 1 : Nat) : Int) by omega]
theorem markInt64S_eq (l : List Int) (m : Int) (k : Nat) (hl : l.length ≤ 1048576) (h0 : 0 ≤ m) (h1 : m ≤ 4611686018426339328) (hk : l.length < k) :
    laws_markInt64S.f k l m = some (m + l.length, marks m l.length) := by
  unfold laws_markInt64S.f
  have := markInt64S_l0 l.length 0 k l m (by omega) (by omega) h0 (by omega) hk
  simpa using this


theorem markLaurent_eq (a : Int) (l : List Int) (m : Int) (k : Nat) (hl : l.length ≤ 1048576) (h0 : 0 ≤ m) (h1 : m ≤ 4611686018426339328) (hk : l.length < k) :
    laws_markLaurent.f k a l m = some (m + l.length, marks m l.length) := by
  unfold laws_markLaurent.f
  rw [markInt64S_eq l m k hl h0 h1 hk]
  rfl


theorem heldInt64S_l0 : ∀ (d i k : Nat) (x0 : List Int) (x1 : Int), x0.length ≤ 4611686018427387904 → i + d = x0.length → x0.drop i = marks x1 d → 0 ≤ x1 → x1 + d ≤ 4611686018427387904 → d < k →
    laws_heldInt64S.l0 k x0 x1 (i : Int) = some (x1 + d) := by
  intro d
  induction d with
  | zero =>
    intro i k x0 x1 hl hd he h0 h1 hk
    obtain ⟨k, rfl⟩ := succ_k hk
    simp only [laws_heldInt64S.l0]
    rw [if_neg (by omega)]
    simp
  | succ d ih =>
    intro i k x0 x1 hl hd he h0 h1 hk
    obtain ⟨k, rfl⟩ := succ_k hk
    simp only [laws_heldInt64S.l0]
    rw [drop_rd x0 i (by omega)] at he
    simp only [marks, List.cons.injEq] at he
    rw [if_pos (by omega), if_pos (by omega), if_pos he.1, w64 _ (by omega) (by omega), w64 _ (by omega) (by omega), cast_succ, ih (i + 1) k x0 (x1 + 1) hl (by omega) he.2 (by omega) (by omega) (by omega)]
    rw [show x1 + 1 + (d : Int) = x1 + ((d + 1 : Nat) : Int) by omega]
theorem heldInt64S_marks (m : Int) (n k : Nat) (hl : n ≤ 1048576) (h0 : 0 ≤ m) (h1 : m ≤ 4611686018426339328) (hk : n < k) :
    laws_heldInt64S.f k (marks m n) m = some (m + n) := by
  unfold laws_heldInt64S.f
  exact heldInt64S_l0 n 0 k (marks m n) m (by rw [marks_length]; omega) (by rw [marks_length]; omega) (by simp) h0 (by omega) hk


theorem heldLaurent_marks (a m : Int) (n k : Nat) (hl : n ≤ 1048576) (h0 : 0 ≤ m) (h1 : m ≤ 4611686018426339328) (hk : n < k) :
    laws_heldLaurent.f k a (marks m n) m = some (m + n) := by
  unfold laws_heldLaurent.f
  rw [heldInt64S_marks m n k hl h0 h1 hk]
  simp only [Option.bind_some]
  rw [if_neg (by omega)]


def inR (x : Int) : Bool := decide (-1000000000000 ≤ x) && decide (x ≤ 1000000000000)
def lauC (a : Int) (l : List Int) : Prop := l.length ≤ 160 ∧ rd l 0 ≠ 0 ∧ rd l ((l.length - 1 : Nat) : Int) ≠ 0 ∧ -240 ≤ a ∧ a ≤ 240 ∧ a + l.length - 1 ≤ 240
instance (a : Int) (l : List Int) : Decidable (lauC a l) := by unfold lauC; infer_instance
/-- Is it a Laurent polynomial in its normal form? -/
def isLauB (a : Int) (l : List Int) : Bool := if l.length = 0 then a == 0 else decide (lauC a l) && l.all inR
theorem last_idx (l : List Int) (h : ¬ l.length = 0) (hl : l.length ≤ 4611686018427387904) : wrap64 ((l.length : Int) - 1) = ((l.length - 1 : Nat) : Int) := by
  rw [w64 _ (by omega) (by omega)]
  omega


theorem specIsLaurent_l0 (a : Int) (l : List Int) (hl : l.length ≤ 4611686018427387904) : ∀ (d i k : Nat), i + d = l.length → d < k →
    spec_IsLaurent.l0 k (i : Int) a l = some ((l.drop i).all inR) := by
  intro d
  induction d with
  | zero =>
    intro i k hd hk
    obtain ⟨k, rfl⟩ := succ_k hk
    simp only [spec_IsLaurent.l0]
    rw [if_neg (by omega), List.drop_of_length_le (by omega)]
    rfl
  | succ d ih =>
    intro i k hd hk
    obtain ⟨k, rfl⟩ := succ_k hk
    simp only [spec_IsLaurent.l0]
    rw [if_pos (by omega), if_pos (by omega), w64 _ (by omega) (by omega), cast_succ, ih (i + 1) k (by omega) (by omega), drop_rd l i (by omega), List.all_cons]
    unfold spec_l01In.f inR
    generalize rd l (i : Int) = y
    by_cases h1 : -1000000000000 ≤ y <;> by_cases h2 : y ≤ 1000000000000 <;> simp [h1, h2]
theorem specIsLaurent_eq (a : Int) (l : List Int) (k : Nat) (hl : l.length ≤ 1048576) (hk : l.length + 1 < k) : spec_IsLaurent.f k a l = some (isLauB a l) := by
  obtain ⟨k, rfl⟩ := succ_k hk
  have hs := specIsLaurent_l0 a l (by omega) l.length 0 k (by omega) (by omega)
  rw [Int.natCast_zero, List.drop_zero] at hs
  unfold spec_IsLaurent.f spec_l01In.f isLauB
  by_cases h0 : l.length = 0
  · rw [if_pos (by omega), if_pos h0]
  rw [if_neg (by omega), if_neg h0, last_idx l h0 (by omega)]
  simp only [spec_IsLaurent.j0]
  by_cases h1 : l.length ≤ 160
  case neg => rw [if_pos (by omega), decide_eq_false (fun h => h1 h.1)]; rfl
  rw [if_neg (by omega)]
  by_cases h2 : a ≥ -240
  case neg => rw [if_neg h2, decide_eq_false (fun h => h2 h.2.2.2.1)]; rfl
  rw [if_pos h2]
  by_cases h3 : a ≤ 240
  case neg => rw [decide_eq_false h3, decide_eq_false (fun h => h3 h.2.2.2.2.1)]; rfl
  rw [decide_eq_true h3]
  simp only [Option.bind_some, if_true]
  rw [w64 (a + l.length) (by omega) (by omega), w64 (a + l.length - 1) (by omega) (by omega)]
  by_cases h4 : a + l.length - 1 > 240
  · rw [if_pos h4, decide_eq_false (fun h => by have := h.2.2.2.2.2; omega)]; rfl
  rw [if_neg h4, if_pos (by omega)]
  by_cases h5 : rd l 0 = 0
  · rw [if_pos h5, decide_eq_false (fun h => h.2.1 h5)]; rfl
  rw [if_neg h5, if_pos (by omega), if_pos (by omega)]
  by_cases h6 : rd l ((l.length - 1 : Nat) : Int) = 0
  · rw [beq_iff_eq.2 h6, if_pos rfl, decide_eq_false (fun h => h.2.2.1 h6)]; rfl
  rw [if_neg (by simpa using h6), hs, decide_eq_true (show lauC a l from ⟨h1, h5, h6, h2, h3, by omega⟩)]
  rfl


theorem any_lauBad (l : List Int) : (!(l.any lauBad)) = l.all inR := by
  induction l with
  | nil => rfl
  | cons x r ih =>
    rw [List.any_cons, List.all_cons, Bool.not_or, ih]
    unfold lauBad inR
    simp
theorem implisLaurent_eq (a : Int) (l : List Int) (ha : (Lit.int .i64 a).wf = true) (hl : l.length ≤ 1048576) : impl_isLaurent.f a l = some (isLauB a l) := by
  have hw : -9223372036854775808 ≤ a ∧ a ≤ 9223372036854775807 := by simpa [Lit.wf, IntKind.min, IntKind.max, IntKind.signed, IntKind.bits] using ha
  unfold impl_isLaurent.f impl_Laurent_high.f impl_size_int64.f anyLaurentBad.f isLauB
  by_cases h0 : l.length = 0
  · rw [if_pos (by omega), if_pos h0]
  rw [if_neg (by omega), if_neg h0, last_idx l h0 (by omega)]
  by_cases h1 : l.length ≤ 160
  case neg => rw [if_neg (by omega), decide_eq_false (fun h => h1 h.1)]; rfl
  rw [if_pos (by omega), if_pos (by omega)]
  by_cases h5 : rd l 0 = 0
  · rw [if_pos h5, decide_eq_false (fun h => h.2.1 h5)]; rfl
  rw [if_neg h5, if_pos (by omega), if_pos (by omega)]
  by_cases h6 : rd l ((l.length - 1 : Nat) : Int) = 0
  · rw [if_pos h6, decide_eq_false (fun h => h.2.2.1 h6)]; rfl
  rw [if_neg h6]
  by_cases h2 : a ≥ -240
  case neg => rw [if_neg h2, decide_eq_false (fun h => h2 h.2.2.2.1)]; rfl
  rw [if_pos h2]
  simp only [Option.bind_some]
  by_cases h3 : a ≤ 240
  case neg => rw [if_neg h3, decide_eq_false (fun h => h3 h.2.2.2.2.1)]; simp
  rw [if_pos h3, w64 (a + l.length) (by omega) (by omega), w64 (a + l.length - 1) (by omega) (by omega)]
  by_cases h4 : a + l.length - 1 ≤ 240
  case neg => rw [if_neg h4, decide_eq_false (fun h => by have := h.2.2.2.2.2; omega)]; rfl
  rw [if_pos h4, any_lauBad, decide_eq_true (show lauC a l from ⟨h1, h5, h6, h2, h3, by omega⟩)]
  rfl
theorem isLauB_len {a : Int} {l : List Int} (h : isLauB a l = true) : l.length ≤ 160 ∧ -240 ≤ a ∧ a ≤ 240 ∧ (l.length = 0 → a = 0) ∧ (¬ l.length = 0 → a + l.length - 1 ≤ 240) := by
  unfold isLauB at h
  by_cases h0 : l.length = 0
  · rw [if_pos h0] at h
    have : a = 0 := by simpa using h
    omega
  · rw [if_neg h0] at h
    simp only [Bool.and_eq_true, decide_eq_true_eq] at h
    obtain ⟨⟨h1, h2, h3, h4, h5, h6⟩, _⟩ := h
    omega


theorem last_take (l : List Int) (lo m : Nat) (h : lo + (m + 1) ≤ l.length) : rd ((l.drop lo).take (m + 1)) (m : Int) = rd l ((lo + m : Nat) : Int) := by
  rw [rd_nat _ m (by simp; omega), rd_nat l _ (by omega)]
  simp
theorem form_l1 (a : Int) (l : List Int) (ha : -1000000000000000 ≤ a ∧ a ≤ 1000000000000000) (hl : l.length ≤ 1048576) (lo : Nat) : ∀ (m k : Nat), lo + m ≤ l.length → m < k →
    ∃ x r, spec_l03Form.l1 k a l (lo : Int) ((lo + m : Nat) : Int) = some (x, r) ∧ impl_normal.l1 k (a + lo) ((l.drop lo).take m) = some (x, r) ∧ r.length ≤ l.length := by
  intro m
  induction m with
  | zero =>
    intro k hm hk
    obtain ⟨k, rfl⟩ := succ_k hk
    refine ⟨0, [], ?_, ?_, by simp⟩
    · simp only [spec_l03Form.l1]
      rw [if_neg (by omega), if_pos (by omega)]
    · simp only [impl_normal.l1]
      simp
  | succ m ih =>
    intro k hm hk
    obtain ⟨k, rfl⟩ := succ_k hk
    have hlen : ((l.drop lo).take (m + 1)).length = m + 1 := by simp; omega
    have e1 : wrap64 (((lo + (m + 1) : Nat) : Int) - 1) = ((lo + m : Nat) : Int) := by rw [w64 _ (by omega) (by omega)]; omega
    have e2 : wrap64 (((m + 1 : Nat) : Int) - 1) = (m : Int) := by rw [w64 _ (by omega) (by omega)]; omega
    simp only [spec_l03Form.l1, impl_normal.l1]
    rw [hlen, e1, e2, last_take l lo m hm]
    by_cases h0 : rd l ((lo + m : Nat) : Int) = 0
    · simp (disch := omega) only [if_pos, if_neg]
      rw [Int.toNat_natCast, List.take_take, Nat.min_eq_left (by omega)]
      exact ih k (by omega) (by omega)
    · simp (disch := omega) only [if_pos, if_neg]
      refine ⟨a + lo, (l.drop lo).take (m + 1), ?_, ?_, by omega⟩
      · simp only [Option.bind_some]
        have e3 : (l.take ((lo + (m + 1) : Nat) : Int).toNat).drop ((lo : Int)).toNat = (l.drop lo).take (m + 1) := by
          rw [Int.toNat_natCast, Int.toNat_natCast, List.drop_take, show lo + (m + 1) - lo = m + 1 by omega]
        rw [e3, if_pos (by rw [hlen]; simp; omega), w64 _ (by omega) (by omega)]
        rfl
      · unfold slices_Clone_int64_int64.f
        rw [if_pos (by omega)]
        rfl
theorem form_l0 (a : Int) (l : List Int) (ha : -1000000000000000 ≤ a ∧ a ≤ 1000000000000000) (hl : l.length ≤ 1048576) : ∀ (d i k : Nat), i + d = l.length → d + l.length + 2 < k →
    ∃ x r, spec_l03Form.l0 k a l (i : Int) (l.length : Int) = some (x, r) ∧ impl_normal.l0 k (a + i) (l.drop i) = some (x, r) ∧ r.length ≤ l.length := by
  intro d
  induction d with
  | zero =>
    intro i k hd hk
    obtain ⟨k, rfl⟩ := succ_k hk
    obtain ⟨k, rfl⟩ := succ_k (show l.length + 1 < k by omega)
    obtain rfl : i = l.length := by omega
    obtain ⟨x, r, h1, h2, h3⟩ := form_l1 a l ha hl l.length 0 k (by omega) (by omega)
    refine ⟨x, r, ?_, ?_, h3⟩
    · simp only [spec_l03Form.l0, spec_l03Form.j1]
      rw [if_neg (by omega)]
      rw [Nat.add_zero] at h1
      exact h1
    · simp only [impl_normal.l0, impl_normal.j1]
      rw [if_neg (by simp)]
      simpa using h2
  | succ d ih =>
    intro i k hd hk
    obtain ⟨k, rfl⟩ := succ_k hk
    have hlen : (l.drop i).length = d + 1 := by simp; omega
    simp only [spec_l03Form.l0, impl_normal.l0]
    have e0 : rd (l.drop i) 0 = rd l (i : Int) := by rw [drop_rd l i (by omega)]; rfl
    rw [hlen, e0]
    by_cases h0 : rd l (i : Int) = 0
    · simp (disch := omega) only [if_pos, if_neg]
      rw [w64 _ (by omega) (by omega), w64 _ (by omega) (by omega), List.drop_drop, cast_succ, show a + (i : Int) + 1 = a + ((i + 1 : Nat) : Int) by omega]
      exact ih (i + 1) k (by omega) (by omega)
    · obtain ⟨k, rfl⟩ := succ_k (show l.length + 1 < k by omega)
      simp (disch := omega) only [if_pos, if_neg]
      simp only [spec_l03Form.j1, impl_normal.j1]
      obtain ⟨x, r, h1, h2, h3⟩ := form_l1 a l ha hl i (d + 1) k (by omega) (by omega)
      refine ⟨x, r, ?_, ?_, h3⟩
      · rw [hd] at h1
        exact h1
      · rw [List.take_of_length_le (by omega)] at h2
        exact h2
theorem form_normal (a : Int) (l : List Int) (ha : -1000000000000000 ≤ a ∧ a ≤ 1000000000000000) (hl : l.length ≤ 1048576) :
    ∃ x r, r.length ≤ l.length ∧ ∀ k, 2 * l.length + 2 < k → (spec_l03Form.f k a l = some (x, r) ∧ impl_normal.f k a l = some (x, r)) := by
  obtain ⟨x, r, h1, h2, h3⟩ := form_l0 a l ha hl l.length 0 (2 * l.length + 3) (by omega) (by omega)
  refine ⟨x, r, h3, fun k hk => ⟨at_rounds (spec_l03Form.mono a l) (show 2 * l.length + 3 ≤ k by omega) ?_, at_rounds (impl_normal.mono a l) (show 2 * l.length + 3 ≤ k by omega) ?_⟩⟩
  · unfold spec_l03Form.f
    exact h1
  · unfold impl_normal.f
    rw [Int.natCast_zero, Int.add_zero, List.drop_zero] at h2
    exact h2


theorem form_wf1 (a : Int) (l : List Int) (ha : -1000000000000000 ≤ a ∧ a ≤ 1000000000000000) : ∀ (k : Nat) (m x : Int) (y r : List Int), y.length ≤ 1048576 → -2000000000000000 ≤ m → m ≤ 2000000000000000 → impl_normal.l1 k m y = some (x, r) → (Lit.int .i64 x).wf = true := by
  have wf : ∀ z : Int, -2000000000000000 ≤ z → z ≤ 2000000000000000 → (Lit.int .i64 z).wf = true := by
    intro z h1 h2
    simp [Lit.wf, IntKind.min, IntKind.max, IntKind.signed, IntKind.bits]
    omega
  intro k
  induction k with
  | zero =>
    intro m x y r _ _ _ h
    simp [impl_normal.l1] at h
  | succ k ih =>
    intro m x y r hy h1 h2 h
    simp only [impl_normal.l1] at h
    unfold slices_Clone_int64_int64.f at h
    split at h
    · split at h
      · split at h
        · split at h
          · split at h
            · exact ih m x _ r (by simp; omega) h1 h2 h
            · cases h
          · split at h
            · cases h
              exact wf 0 (by omega) (by omega)
            · rw [if_pos (by omega)] at h
              cases h
              exact wf _ h1 h2
        · cases h
      · cases h
    · split at h
      · cases h
        exact wf 0 (by omega) (by omega)
      · rw [if_pos (by omega)] at h
        cases h
        exact wf _ h1 h2
theorem form_wf (a : Int) (l : List Int) (x : Int) (r : List Int) (ha : -1000000000000000 ≤ a ∧ a ≤ 1000000000000000) (hl : l.length ≤ 1048576) {k : Nat} (h : impl_normal.f k a l = some (x, r)) : (Lit.int .i64 x).wf = true := by
  have : ∀ (k i : Nat) (y : List Int), i + y.length ≤ l.length → impl_normal.l0 k (a + i) y = some (x, r) → (Lit.int .i64 x).wf = true := by
    intro k
    induction k with
    | zero =>
      intro i y _ h
      simp [impl_normal.l0] at h
    | succ k ih =>
      intro i y hi h
      have hj : ∀ k', impl_normal.j1 k' (a + i) y = some (x, r) → (Lit.int .i64 x).wf = true := by
        intro k' h'
        cases k' with
        | zero => simp [impl_normal.j1] at h'
        | succ k' =>
          simp only [impl_normal.j1] at h'
          exact form_wf1 a l ha k' _ x y r (by omega) (by omega) (by omega) h'
      simp only [impl_normal.l0] at h
      by_cases c1 : (y.length : Int) > 0
      · rw [if_pos c1, if_pos c1] at h
        by_cases c2 : rd y 0 = 0
        · rw [if_pos c2, if_pos (by omega), w64 _ (by omega) (by omega), show a + (i : Int) + 1 = a + ((i + 1 : Nat) : Int) by omega] at h
          exact ih (i + 1) _ (by simp; omega) h
        · rw [if_neg c2] at h
          exact hj _ h
      · rw [if_neg c1] at h
        exact hj _ h
  unfold impl_normal.f at h
  exact this k 0 l (by omega) (by simpa using h)


theorem normal_l1Z (m : Int) (y : List Int) (k : Nat) (hy : y.length ≤ 1048576) : impl_normal.l1 (k + 1) m (y ++ [0]) = impl_normal.l1 k m y := by
  have hl : (y ++ [0]).length = y.length + 1 := by simp
  have e1 : wrap64 (((y.length + 1 : Nat) : Int) - 1) = (y.length : Int) := by rw [w64 _ (by omega) (by omega)]; omega
  have e2 : rd (y ++ [0]) (y.length : Int) = 0 := by rw [rd_nat _ y.length (by omega)]; simp
  rw [impl_normal.l1]
  rw [hl, e1, e2, Int.toNat_natCast, List.take_left']
  · have c1 : ((y.length + 1 : Nat) : Int) > 0 := by omega
    have c2 : (0 : Int) ≤ (y.length : Int) := by omega
    have c3 : (y.length : Int) < ((y.length + 1 : Nat) : Int) := by omega
    have c4 : (y.length : Int) ≤ ((y.length + 1 : Nat) : Int) := by omega
    simp only [c1, c2, c3, c4, if_true]
  · rfl
theorem normal_l0Z (z : Int × List Int) : ∀ (k : Nat) (m : Int) (y : List Int), y.length ≤ 1048576 → impl_normal.l0 k m y = some z → impl_normal.l0 (k + 2) m (y ++ [0]) = some z := by
  intro k
  induction k with
  | zero =>
    intro m y hy h
    simp [impl_normal.l0] at h
  | succ k ih =>
    intro m y hy h
    have hl : (y ++ [0]).length = y.length + 1 := by simp
    have d1 : ((y ++ [0]).length : Int) > 0 := by omega
    have d2 : 1 ≤ ((y ++ [0]).length : Int) := by omega
    simp only [impl_normal.l0] at h
    rw [impl_normal.l0, if_pos d1, if_pos d1]
    cases y with
    | nil =>
      rw [if_neg (by simp)] at h
      cases k with
      | zero => simp [impl_normal.j1] at h
      | succ k =>
        simp only [impl_normal.j1] at h
        cases k with
        | zero => simp [impl_normal.l1] at h
        | succ k =>
          simp [impl_normal.l1] at h
          subst h
          have e : rd ([] ++ [(0 : Int)]) 0 = 0 := rfl
          rw [if_pos e, if_pos d2]
          simp [impl_normal.l0, impl_normal.j1, impl_normal.l1]
    | cons x t =>
      have c1 : ((x :: t).length : Int) > 0 := by simp
      have e : rd (x :: t ++ [0]) 0 = rd (x :: t) 0 := rfl
      rw [if_pos c1, if_pos c1] at h
      rw [e]
      by_cases c2 : rd (x :: t) 0 = 0
      · rw [if_pos c2] at h
        rw [if_pos c2, if_pos d2]
        have c3 : (1 : Int) ≤ ((x :: t).length : Int) := by simp only [List.length_cons]; omega
        rw [if_pos c3] at h
        exact ih (wrap64 (m + 1)) t (by simp at hy; omega) h
      · rw [if_neg c2] at h
        rw [if_neg c2]
        cases k with
        | zero => simp [impl_normal.j1] at h
        | succ k =>
          simp only [impl_normal.j1] at h ⊢
          rw [normal_l1Z m (x :: t) (k + 1) hy]
          exact (impl_normal.mono_l k).2.1 m (x :: t) _ h
theorem formZ (a : Int) (l : List Int) (ha : -1000000000000000 ≤ a ∧ a ≤ 1000000000000000) (hl : l.length ≤ 1000) :
    ∃ x r, r.length ≤ l.length ∧ ∀ k, 2010 < k → (spec_l03Form.f k a l = some (x, r) ∧ impl_normal.f k a (l ++ [0]) = some (x, r)) := by
  obtain ⟨x, r, h1, h2⟩ := form_normal a l ha (by omega)
  refine ⟨x, r, h1, fun k hk => ⟨(h2 k (by omega)).1, ?_⟩⟩
  obtain ⟨j, rfl⟩ : ∃ j, k = j + 2 := ⟨k - 2, by omega⟩
  have := (h2 j (by omega)).2
  unfold impl_normal.f at this ⊢
  exact normal_l0Z (x, r) j a l (by omega) this
theorem normal_zeros : ∀ (n k : Nat) (m : Int), n + 2 < k → impl_normal.l0 k m (List.replicate n 0) = some (0, []) := by
  intro n
  induction n with
  | zero =>
    intro k m hk
    obtain ⟨k, rfl⟩ := succ_k (show 2 < k by omega)
    obtain ⟨k, rfl⟩ := succ_k (show 1 < k by omega)
    obtain ⟨k, rfl⟩ := succ_k (show 0 < k by omega)
    simp [impl_normal.l0, impl_normal.j1, impl_normal.l1]
  | succ n ih =>
    intro k m hk
    obtain ⟨k, rfl⟩ := succ_k (show n + 2 < k by omega)
    have d1 : ((List.replicate (n + 1) (0 : Int)).length : Int) > 0 := by simp only [List.length_replicate]; omega
    have d2 : 1 ≤ ((List.replicate (n + 1) (0 : Int)).length : Int) := by simp only [List.length_replicate]; omega
    have e : rd (List.replicate (n + 1) (0 : Int)) 0 = 0 := rfl
    rw [impl_normal.l0, if_pos d1, if_pos d1, if_pos e, if_pos d2]
    exact ih k _ (by omega)


/-- With enough rounds, the answer is r. -/
def Evt {α : Type} (f : Nat → Option α) (r : α) : Prop := ∃ c, ∀ K, c ≤ K → f K = some r
theorem Evt.step {α : Type} {f g : Nat → Option α} {r : α} (h : Evt g r) (e : ∀ K, f (K + 1) = g K) : Evt f r := by
  obtain ⟨c, hc⟩ := h
  refine ⟨c + 1, fun K hK => ?_⟩
  obtain ⟨K, rfl⟩ : ∃ m, K = m + 1 := ⟨K - 1, by omega⟩
  rw [e K]
  exact hc K (by omega)
theorem Evt.same {α : Type} {f g : Nat → Option α} {r : α} (h : Evt g r) (e : ∀ K, f K = g K) : Evt f r := by
  obtain ⟨c, hc⟩ := h
  exact ⟨c, fun K hK => by rw [e K]; exact hc K hK⟩
theorem Evt.now {α : Type} {f : Nat → Option α} {r : α} (e : ∀ K, f (K + 1) = some r) : Evt f r := by
  refine ⟨1, fun K hK => ?_⟩
  obtain ⟨K, rfl⟩ : ∃ m, K = m + 1 := ⟨K - 1, by omega⟩
  exact e K
theorem Evt.const {α : Type} {f : Nat → Option α} {r : α} (e : ∀ K, f K = some r) : Evt f r := ⟨0, fun K _ => e K⟩
theorem Evt.bind {α β : Type} {f : Nat → Option β} {g : Nat → Option α} {h : Nat → α → Option β} {x : α} {r : β} (hg : Evt g x) (hh : Evt (fun K => h K x) r) (e : ∀ K, f K = (g K).bind (h K)) : Evt f r := by
  obtain ⟨c, hc⟩ := hg
  obtain ⟨d, hd⟩ := hh
  exact ⟨c + d, fun K hK => by rw [e K, hc K (by omega)]; exact hd K (by omega)⟩
theorem Evt.bind1 {α β : Type} {f : Nat → Option β} {g : Nat → Option α} {h : Nat → α → Option β} {x : α} {r : β} (hg : Evt g x) (hh : Evt (fun K => h K x) r) (e : ∀ K, f (K + 1) = (g K).bind (h K)) : Evt f r :=
  Evt.step (g := fun K => (g K).bind (h K)) (Evt.bind hg hh fun _ => rfl) e
theorem Evt.get {α : Type} {f : Nat → Option α} {r : α} (h : Evt f r) : ∃ c, ∀ K, c ≤ K → f K = some r := h

def endOf (x : Int) (r : List Int) : Int × List Int × Int := if isLauB x r = true then (x, r, 0) else (0, [], 3)
theorem valid_eq (k : Nat) (a : Int) (l : List Int) (x : Int) (r : List Int) (h : impl_normal.f k a l = some (x, r)) (hx : (Lit.int .i64 x).wf = true) (hr : r.length ≤ 1048576) : impl_valid.f k a l = some (endOf x r) := by
  unfold impl_valid.f endOf
  rw [h]
  simp only [Option.bind_some]
  rw [implisLaurent_eq x r hx hr]
  simp only [Option.bind_some]
  split <;> rfl
theorem if_eq (k : Nat) (x : Int) (r : List Int) (hr : r.length ≤ 1048576) (hk : r.length + 1 < k) : spec_l03If.f k x r = some (endOf x r) := by
  unfold spec_l03If.f endOf
  rw [specIsLaurent_eq x r k hr hk]
  simp only [Option.bind_some]
  split <;> rfl
theorem endOf_length (x : Int) (r : List Int) : (endOf x r).2.1.length ≤ r.length := by
  unfold endOf
  split <;> simp
/-- A list added at a place. -/
def addGo (l : List Int) (o : Nat) : Nat → Nat → List Int → List Int
  | 0, _, acc => acc
  | d + 1, i, acc => addGo l o d (i + 1) (acc.set (o + i) (wrap64 (rd acc ((o + i : Nat) : Int) + rd l (i : Int))))
theorem addGo_length (l : List Int) (o : Nat) : ∀ (d i : Nat) (acc : List Int), (addGo l o d i acc).length = acc.length
  | 0, _, _ => rfl
  | d + 1, i, acc => by rw [addGo, addGo_length l o d]; simp
theorem rd_set1 (l : List Int) (p q : Nat) (h : p < l.length) (v : Int) : rd (l.set p v) (q : Int) = if q = p then v else rd l (q : Int) := by
  unfold rd
  rw [Int.toNat_natCast, List.getD_eq_getElem?_getD, List.getD_eq_getElem?_getD]
  by_cases e : p = q
  · subst e
    rw [if_pos rfl, List.getElem?_set_self h]
    rfl
  · rw [if_neg (Ne.symm e), List.getElem?_set_ne e]
theorem addGo_at (l : List Int) (o : Nat) : ∀ (d i : Nat) (acc : List Int) (q : Nat), o + i + d ≤ acc.length → rd (addGo l o d i acc) (q : Int) = if o + i ≤ q ∧ q < o + i + d then wrap64 (rd acc (q : Int) + rd l ((q - o : Nat) : Int)) else rd acc (q : Int)
  | 0, i, acc, q, _ => by rw [addGo, if_neg (by omega)]
  | d + 1, i, acc, q, h => by
    rw [addGo, addGo_at l o d (i + 1) _ q (by simp; omega), rd_set1 acc (o + i) q (by omega)]
    by_cases c : q = o + i
    · subst c
      rw [if_neg (by omega), if_pos rfl, if_pos (by omega), show o + i - o = i by omega]
    · rw [if_neg c]
      by_cases c2 : o + (i + 1) ≤ q ∧ q < o + (i + 1) + d
      · rw [if_pos c2, if_pos (by omega)]
      · rw [if_neg c2, if_neg (by omega)]
theorem ext_rd (l m : List Int) (h : l.length = m.length) (e : ∀ q : Nat, q < l.length → rd l (q : Int) = rd m (q : Int)) : l = m := by
  refine List.ext_getElem h fun q h1 h2 => ?_
  have := e q h1
  rwa [rd_nat l q h1, rd_nat m q h2] at this
theorem rd_zeros (n : Nat) (q : Nat) : rd (List.replicate n 0) (q : Int) = 0 := by
  unfold rd
  rw [List.getD_eq_getElem?_getD, List.getElem?_replicate]
  split <;> rfl
theorem rd_app3 (p : Nat) (l : List Int) (z q : Nat) : rd (List.replicate p 0 ++ l ++ List.replicate z 0) (q : Int) = if p ≤ q ∧ q < p + l.length then rd l ((q - p : Nat) : Int) else 0 := by
  unfold rd
  rw [Int.toNat_natCast, Int.toNat_natCast, List.getD_eq_getElem?_getD, List.getD_eq_getElem?_getD]
  by_cases c1 : q < p
  · rw [if_neg (by omega), List.append_assoc, List.getElem?_append_left (by simp; omega), List.getElem?_replicate, if_pos c1]
    rfl
  · by_cases c2 : q < p + l.length
    · rw [if_pos (by omega), List.append_assoc, List.getElem?_append_right (by simp; omega), List.getElem?_append_left (by simp; omega), List.length_replicate]
    · rw [if_neg (by omega), List.getElem?_append_right (by simp; omega), List.getElem?_replicate]
      split <;> rfl
/-- A list added to zeros. -/
theorem addGo_zeros (l : List Int) (hw : ∀ x ∈ l, (Lit.int .i64 x).wf = true) (o N z : Nat) (h : N = o + l.length + z) : addGo l o l.length 0 (List.replicate N 0) = List.replicate o 0 ++ l ++ List.replicate z 0 := by
  refine ext_rd _ _ (by rw [addGo_length]; simp; omega) fun q hq => ?_
  rw [addGo_length, List.length_replicate] at hq
  rw [addGo_at l o l.length 0 _ q (by simp; omega), rd_zeros, rd_app3]
  by_cases c : o ≤ q ∧ q < o + l.length
  · rw [if_pos (by omega), if_pos c, Int.zero_add]
    have hx := hw _ (List.getElem_mem (show q - o < l.length by omega))
    rw [rd_nat l (q - o) (by omega)]
    have h2 : -9223372036854775808 ≤ l[q - o] ∧ l[q - o] ≤ 9223372036854775807 := by simpa [Lit.wf, IntKind.min, IntKind.max, IntKind.signed, IntKind.bits] using hx
    exact w64 _ h2.1 h2.2
  · rw [if_neg (by omega), if_neg c]
/-- Zeros around a polynomial are of no matter. -/
theorem normal_front (z : Int × List Int) : ∀ (p : Nat) (a : Int) (l : List Int), -1000000000 ≤ a → a + p ≤ 1000000000 → p ≤ 1000000 → Evt (fun K => impl_normal.l0 K (a + p) l) z → Evt (fun K => impl_normal.l0 K a (List.replicate p 0 ++ l)) z
  | 0, a, l, _, _, _, h => by
    rw [Int.natCast_zero, Int.add_zero] at h
    exact h
  | p + 1, a, l, h1, h2, h3, h => by
    have ih := normal_front z p (a + 1) l (by omega) (by omega) (by omega) (by rw [show a + 1 + (p : Int) = a + ((p + 1 : Nat) : Int) by omega]; exact h)
    refine Evt.step ih fun K => ?_
    have hl : (List.replicate (p + 1) 0 ++ l).length = p + 1 + l.length := by simp
    have e : rd (List.replicate (p + 1) 0 ++ l) 0 = 0 := rfl
    rw [impl_normal.l0, if_pos (by omega), if_pos (by omega), if_pos e, if_pos (by omega), w64 (a + 1) (by omega) (by omega)]
    rfl
theorem normal_back (z : Int × List Int) (a : Int) (l : List Int) : ∀ (q : Nat), l.length + q ≤ 1048576 → Evt (fun K => impl_normal.l0 K a l) z → Evt (fun K => impl_normal.l0 K a (l ++ List.replicate q 0)) z
  | 0, _, h => by simpa using h
  | q + 1, hq, h => by
    obtain ⟨c, hc⟩ := normal_back z a l q (by omega) h
    rw [List.replicate_succ', ← List.append_assoc]
    refine ⟨c + 2, fun K hK => ?_⟩
    obtain ⟨K, rfl⟩ : ∃ m, K = m + 2 := ⟨K - 2, by omega⟩
    exact normal_l0Z z K a _ (by simp; omega) (hc K (by omega))
theorem normal_around (a : Int) (l : List Int) (p q : Nat) (x : Int) (r : List Int) (h1 : -1000 ≤ a) (h2 : a ≤ 1000) (hp : p ≤ 2000) (hl : l.length + q ≤ 10000) (h : Evt (fun K => impl_normal.f K (a + p) l) (x, r)) : Evt (fun K => impl_normal.f K a (List.replicate p 0 ++ l ++ List.replicate q 0)) (x, r) := by
  have := normal_front (x, r) p a (l ++ List.replicate q 0) (by omega) (by omega) (by omega) (normal_back (x, r) (a + p) l q (by omega) h)
  rw [← List.append_assoc] at this
  exact this
theorem form_ev (a : Int) (l : List Int) (ha : -1000000000000000 ≤ a ∧ a ≤ 1000000000000000) (hl : l.length ≤ 1048576) :
    ∃ x r, r.length ≤ l.length ∧ (Lit.int .i64 x).wf = true ∧ Evt (fun K => spec_l03Form.f K a l) (x, r) ∧ Evt (fun K => impl_normal.f K a l) (x, r) := by
  obtain ⟨x, r, h1, h2⟩ := form_normal a l ha hl
  exact ⟨x, r, h1, form_wf a l x r ha hl (h2 (2 * l.length + 3) (by omega)).2, ⟨2 * l.length + 3, fun K hK => (h2 K (by omega)).1⟩, ⟨2 * l.length + 3, fun K hK => (h2 K (by omega)).2⟩⟩
theorem valid_ev (a : Int) (l : List Int) (x : Int) (r : List Int) (h : Evt (fun K => impl_normal.f K a l) (x, r)) (hx : (Lit.int .i64 x).wf = true) (hr : r.length ≤ 1048576) : Evt (fun K => impl_valid.f K a l) (endOf x r) := by
  obtain ⟨c, hc⟩ := h
  exact ⟨c, fun K hK => valid_eq K a l x r (hc K hK) hx hr⟩
theorem ia_l1 (low a : Int) (L : List S26) (n j : Int) (t : List Int) (o : Nat) (ho : a - low = (o : Int)) (ho2 : o ≤ 1000) (ht : t.length ≤ 1000) (hlow : -1000 ≤ low ∧ low ≤ 1000) (hj : 0 ≤ j ∧ j ≤ 10) (r : Int × List Int × Int) :
    ∀ (d i : Nat) (acc : List Int), i + d = t.length → o + t.length ≤ acc.length → Evt (fun K => impl_AddLaurent.l0 K low L n (j + 1) low (addGo t o d i acc)) r → Evt (fun K => impl_AddLaurent.l1 K low L n j t (t.length : Int) (i : Int) low acc a t) r := by
  intro d
  induction d with
  | zero =>
    intro i acc hi _ h
    refine Evt.step h fun K => ?_
    rw [impl_AddLaurent.l1, if_neg (by omega), w64 (j + 1) (by omega) (by omega)]
    rfl
  | succ d ih =>
    intro i acc hi hacc h
    have h1 := ih (i + 1) _ (by omega) (by simpa using hacc) h
    refine Evt.step h1 fun K => ?_
    have e1 : wrap64 (wrap64 (a - low) + (i : Int)) = ((o + i : Nat) : Int) := by rw [ho, w64 (o : Int) (by omega) (by omega), ← Int.natCast_add]; exact w64n _ (by omega)
    have e2 : wrap64 ((i : Int) + 1) = ((i + 1 : Nat) : Int) := w64n (i + 1) (by clear e1; omega)
    rw [impl_AddLaurent.l1, e1, e2, if_pos (by clear e1 e2; omega), if_pos (by clear e1 e2; omega), if_pos (by clear e1 e2; omega), if_pos (Int.natCast_nonneg _), if_pos (by clear e1 e2; omega), Int.toNat_natCast]
theorem sa_l1 (low a : Int) (t : List Int) (o : Nat) (ho : a - low = (o : Int)) (ho2 : o ≤ 1000) (ht : t.length ≤ 1000) (r : Int × List Int) :
    ∀ (d i : Nat) (acc : List Int), i + d = t.length → o + t.length ≤ acc.length → Evt (fun K => spec_l03Form.f K low (addGo t o d i acc)) r → Evt (fun K => spec_l03Sum.l1 K low acc (i : Int) a t) r := by
  intro d
  induction d with
  | zero =>
    intro i acc hi _ h
    refine Evt.step h fun K => ?_
    rw [spec_l03Sum.l1, if_neg (by omega), addGo]
    cases spec_l03Form.f K low acc <;> rfl
  | succ d ih =>
    intro i acc hi hacc h
    have h1 := ih (i + 1) _ (by omega) (by simpa using hacc) h
    refine Evt.step h1 fun K => ?_
    have e1 : wrap64 (wrap64 (a - low) + (i : Int)) = ((o + i : Nat) : Int) := by rw [ho, w64 (o : Int) (by omega) (by omega), ← Int.natCast_add]; exact w64n _ (by omega)
    have e2 : wrap64 ((i : Int) + 1) = ((i + 1 : Nat) : Int) := w64n (i + 1) (by clear e1; omega)
    rw [spec_l03Sum.l1, e1, e2, if_pos (by clear e1 e2; omega), if_pos (Int.natCast_nonneg _), if_pos (by clear e1 e2; omega), if_pos (by clear e1 e2; omega), Int.toNat_natCast]
theorem sa_l0 (low a b : Int) (t m : List Int) (o : Nat) (ho : a - low = (o : Int)) (ho2 : o ≤ 1000) (ht : t.length ≤ 1000) (r : Int × List Int) :
    ∀ (d i : Nat) (acc : List Int), i + d = t.length → o + t.length ≤ acc.length → Evt (fun K => spec_l03Sum.l1 K low (addGo t o d i acc) 0 b m) r → Evt (fun K => spec_l03Sum.l0 K low acc (i : Int) a t b m) r := by
  intro d
  induction d with
  | zero =>
    intro i acc hi _ h
    refine Evt.step h fun K => ?_
    rw [spec_l03Sum.l0, if_neg (by omega)]
    rfl
  | succ d ih =>
    intro i acc hi hacc h
    have h1 := ih (i + 1) _ (by omega) (by simpa using hacc) h
    refine Evt.step h1 fun K => ?_
    have e1 : wrap64 (wrap64 (a - low) + (i : Int)) = ((o + i : Nat) : Int) := by rw [ho, w64 (o : Int) (by omega) (by omega), ← Int.natCast_add]; exact w64n _ (by omega)
    have e2 : wrap64 ((i : Int) + 1) = ((i + 1 : Nat) : Int) := w64n (i + 1) (by clear e1; omega)
    rw [spec_l03Sum.l0, e1, e2, if_pos (by clear e1 e2; omega), if_pos (Int.natCast_nonneg _), if_pos (by clear e1 e2; omega), if_pos (by clear e1 e2; omega), Int.toNat_natCast]
theorem mn_le (a b : Int) : mn a b ≤ a ∧ mn a b ≤ b ∧ (mn a b = a ∨ mn a b = b) := by
  unfold mn
  split <;> omega
theorem mx_ge (a b : Int) : a ≤ mx a b ∧ b ≤ mx a b ∧ (mx a b = a ∨ mx a b = b) := by
  unfold mx
  split <;> omega
theorem add_both (a : Int) (l : List Int) (b : Int) (m : List Int) (ha : (Lit.int .i64 a).wf = true) (hb : (Lit.int .i64 b).wf = true) (hl : l.length ≤ 1048576) (hm : m.length ≤ 1048576) (hw : ∀ x ∈ l, (Lit.int .i64 x).wf = true) (hv : ∀ x ∈ m, (Lit.int .i64 x).wf = true) :
    ∃ x r t, r.length ≤ 1048576 ∧ Evt (fun K => spec_AddLaurent.f K a l b m) (x, r, t) ∧ Evt (fun K => impl_AddLaurent.f K a l b m) (x, r, t) := by
  have hA : impl_areLaurents.f [(⟨a, l⟩ : S26), (⟨b, m⟩ : S26)] = some (isLauB a l && isLauB b m) := by
    unfold impl_areLaurents.f anyLaurentsBad.f
    simp only [anyL, lauQ]
    rw [implisLaurent_eq a l ha hl, implisLaurent_eq b m hb hm]
    cases isLauB a l <;> cases isLauB b m <;> rfl
  have ml : Evt (fun K => spec_IsLaurent.f K a l) (isLauB a l) := ⟨l.length + 2, fun K hK => specIsLaurent_eq a l K hl (by omega)⟩
  have mm : Evt (fun K => spec_IsLaurent.f K b m) (isLauB b m) := ⟨m.length + 2, fun K hK => specIsLaurent_eq b m K hm (by omega)⟩
  have j0t : Evt (fun K => spec_AddLaurent.j0 K true a l b m) (0, [], 1) := Evt.now fun K => by rw [spec_AddLaurent.j0, if_pos rfl]
  by_cases h1 : isLauB a l = true
  case neg =>
    have h1' : isLauB a l = false := by simpa using h1
    refine ⟨0, [], 1, by simp, ?_, Evt.const fun K => ?_⟩
    · unfold spec_AddLaurent.f
      rw [h1'] at ml
      exact Evt.bind ml (by simpa using j0t) fun _ => rfl
    · unfold impl_AddLaurent.f
      rw [hA, h1']
      rfl
  by_cases h2 : isLauB b m = true
  case neg =>
    have h2' : isLauB b m = false := by simpa using h2
    refine ⟨0, [], 1, by simp, ?_, Evt.const fun K => ?_⟩
    · unfold spec_AddLaurent.f
      rw [h1] at ml
      rw [h2'] at mm
      refine Evt.bind ml ?_ fun _ => rfl
      simp only [if_true]
      exact Evt.bind mm (by simpa using j0t) fun _ => rfl
    · unfold impl_AddLaurent.f
      rw [hA, h1, h2']
      rfl
  have hla := isLauB_len h1
  have hlb := isLauB_len h2
  obtain ⟨low, hlow⟩ : ∃ low, low = mn a b := ⟨_, rfl⟩
  obtain ⟨q1, q2, q3⟩ := mn_le a b
  rw [← hlow] at q1 q2 q3
  have hb1 : -1000 ≤ low ∧ low ≤ 1000 := by omega
  obtain ⟨oa, hoa⟩ : ∃ oa : Nat, a - low = (oa : Int) := ⟨(a - low).toNat, by omega⟩
  obtain ⟨ob, hob⟩ : ∃ ob : Nat, b - low = (ob : Int) := ⟨(b - low).toNat, by omega⟩
  -- the program's length
  obtain ⟨H, hH⟩ : ∃ H, H = mx (mx (a + l.length - 1) (b + m.length - 1)) low := ⟨_, rfl⟩
  obtain ⟨u1, u2, u3⟩ := mx_ge (a + l.length - 1) (b + m.length - 1)
  obtain ⟨u4, u5, u6⟩ := mx_ge (mx (a + l.length - 1) (b + m.length - 1)) low
  rw [← hH] at u4 u5 u6
  obtain ⟨N, hN⟩ : ∃ N : Nat, H - low + 1 = (N : Int) := ⟨(H - low + 1).toNat, by omega⟩
  have hN2 : N ≤ 3000 := by omega
  have hNa : oa + l.length ≤ N := by omega
  have hNb : ob + m.length ≤ N := by omega
  have himpl : ∀ r, Evt (fun K => impl_valid.f K low (addGo m ob m.length 0 (addGo l oa l.length 0 (List.replicate N 0)))) r → Evt (fun K => impl_AddLaurent.f K a l b m) r := by
    intro r hr
    have e2 : Evt (fun K => impl_AddLaurent.l0 K low [(⟨a, l⟩ : S26), (⟨b, m⟩ : S26)] 2 (1 + 1) low (addGo m ob m.length 0 (addGo l oa l.length 0 (List.replicate N 0)))) r := by
      refine Evt.step hr fun K => ?_
      rw [impl_AddLaurent.l0, if_neg (by omega)]
      cases impl_valid.f K low (addGo m ob m.length 0 (addGo l oa l.length 0 (List.replicate N 0))) <;> rfl
    have e1 := ia_l1 low b [(⟨a, l⟩ : S26), (⟨b, m⟩ : S26)] 2 1 m ob hob (by omega) (by omega) hb1 (by omega) r m.length 0 (addGo l oa l.length 0 (List.replicate N 0)) (by omega) (by rw [addGo_length]; simpa using hNb) e2
    have e1' : Evt (fun K => impl_AddLaurent.l0 K low [(⟨a, l⟩ : S26), (⟨b, m⟩ : S26)] 2 (0 + 1) low (addGo l oa l.length 0 (List.replicate N 0))) r := by
      refine Evt.step e1 fun K => ?_
      rw [impl_AddLaurent.l0, if_pos (by omega), if_pos (by omega), if_pos (by simp)]
      rfl
    have e0 := ia_l1 low a [(⟨a, l⟩ : S26), (⟨b, m⟩ : S26)] 2 0 l oa hoa (by omega) (by omega) hb1 (by omega) r l.length 0 (List.replicate N 0) (by omega) (by simpa using hNa) e1'
    have e00 : Evt (fun K => impl_AddLaurent.l0 K low [(⟨a, l⟩ : S26), (⟨b, m⟩ : S26)] 2 0 low (List.replicate N 0)) r := by
      refine Evt.step e0 fun K => ?_
      rw [impl_AddLaurent.l0, if_pos (by omega), if_pos (by omega), if_pos (by simp)]
      rfl
    refine Evt.same e00 fun K => ?_
    have w1 : wrap64 (wrap64 (a + (l.length : Int)) - 1) = a + l.length - 1 := by rw [w64 (a + (l.length : Int)) (by omega) (by omega), w64 _ (by omega) (by omega)]
    have w2 : wrap64 (wrap64 (b + (m.length : Int)) - 1) = b + m.length - 1 := by rw [w64 (b + (m.length : Int)) (by clear w1; omega) (by clear w1; omega), w64 _ (by clear w1; omega) (by clear w1; omega)]
    have w3 : wrap64 (wrap64 (H - low) + 1) = (N : Int) := by rw [w64 (H - low) (by clear w1 w2; omega) (by clear w1 w2; omega), hN]; exact w64n N (by clear w1 w2; omega)
    unfold impl_AddLaurent.f impl_Laurent_high.f impl_size_int64.f
    rw [hA, h1, h2, Option.bind_some, Bool.and_self, if_pos rfl, Option.bind_some, w1, Option.bind_some, Option.bind_some, w2, Option.bind_some, ← hlow, ← hH, w3, if_pos (Int.natCast_nonneg _), Int.toNat_natCast, if_pos (by clear w1 w2 w3; omega), Option.bind_some]
    rfl
  have hspec : ∀ x r, r.length ≤ 1048576 → Evt (fun K => spec_l03Sum.f K a l b m) (x, r) → Evt (fun K => spec_AddLaurent.f K a l b m) (endOf x r) := by
    intro x r hr h
    unfold spec_AddLaurent.f
    rw [h1] at ml
    rw [h2] at mm
    refine Evt.bind ml ?_ fun _ => rfl
    simp only [if_true]
    refine Evt.bind mm ?_ fun _ => rfl
    refine Evt.step (g := fun K => (spec_l03Sum.f K a l b m).bind fun bt158 => ((spec_l03If.f K bt158.1 bt158.2).bind fun bt162 => (some (bt162.1, bt162.2.1, bt162.2.2)))) ?_ fun K => by rw [Bool.not_true, spec_AddLaurent.j0, if_neg (by simp)]
    refine Evt.bind h ?_ fun _ => rfl
    exact Evt.bind (x := endOf x r) ⟨r.length + 2, fun K hK => if_eq K x r hr (by omega)⟩ (Evt.const fun _ => rfl) fun _ => rfl
  by_cases c1 : l.length = 0
  · obtain rfl := List.length_eq_zero_iff.1 c1
    obtain ⟨x, r, g1, g2, g3, g4⟩ := form_ev b m (by omega) (by omega)
    refine ⟨(endOf x r).1, (endOf x r).2.1, (endOf x r).2.2, by have := endOf_length x r; omega, hspec x r (by omega) ?_, himpl _ ?_⟩
    · refine Evt.bind (h := fun _ bt => some (bt.1, bt.2)) g3 (Evt.const fun _ => rfl) fun K => ?_
      unfold spec_l03Sum.f
      rw [if_pos (by simp)]
    · obtain ⟨z, hz⟩ : ∃ z, N = ob + m.length + z := ⟨N - (ob + m.length), by omega⟩
      have hT : addGo m ob m.length 0 (addGo [] oa ([] : List Int).length 0 (List.replicate N 0)) = List.replicate ob 0 ++ m ++ List.replicate z 0 := addGo_zeros m hv ob N z hz
      rw [hT]
      refine valid_ev low _ x r (normal_around low m ob z x r hb1.1 hb1.2 (by omega) (by omega) ?_) g2 (by omega)
      rw [← hob, show low + (b - low) = b by omega]
      exact g4
  by_cases c2 : m.length = 0
  · obtain rfl := List.length_eq_zero_iff.1 c2
    obtain ⟨x, r, g1, g2, g3, g4⟩ := form_ev a l (by omega) (by omega)
    refine ⟨(endOf x r).1, (endOf x r).2.1, (endOf x r).2.2, by have := endOf_length x r; omega, hspec x r (by omega) ?_, himpl _ ?_⟩
    · refine Evt.bind (h := fun _ bt => some (bt.1, bt.2)) g3 (Evt.const fun _ => rfl) fun K => ?_
      unfold spec_l03Sum.f
      rw [if_neg (by omega), if_pos (by simp)]
    · obtain ⟨z, hz⟩ : ∃ z, N = oa + l.length + z := ⟨N - (oa + l.length), by omega⟩
      have hT : addGo [] ob ([] : List Int).length 0 (addGo l oa l.length 0 (List.replicate N 0)) = List.replicate oa 0 ++ l ++ List.replicate z 0 := addGo_zeros l hw oa N z hz
      rw [hT]
      refine valid_ev low _ x r (normal_around low l oa z x r hb1.1 hb1.2 (by omega) (by omega) ?_) g2 (by omega)
      rw [← hoa, show low + (a - low) = a by omega]
      exact g4
  obtain ⟨T, hT⟩ : ∃ T, T = addGo m ob m.length 0 (addGo l oa l.length 0 (List.replicate N 0)) := ⟨_, rfl⟩
  have hTl : T.length = N := by rw [hT, addGo_length, addGo_length, List.length_replicate]
  rw [← hT] at himpl
  obtain ⟨x, r, g1, g2, g3, g4⟩ := form_ev low T (by omega) (by omega)
  refine ⟨(endOf x r).1, (endOf x r).2.1, (endOf x r).2.2, by have := endOf_length x r; omega, hspec x r (by omega) ?_, himpl _ (valid_ev low T x r g4 g2 (by omega))⟩
  rw [hT] at g3
  have e1 := sa_l1 low b m ob hob (by omega) (by omega) (x, r) m.length 0 (addGo l oa l.length 0 (List.replicate N 0)) (by omega) (by rw [addGo_length]; simpa using hNb) g3
  have e0 := sa_l0 low a b l m oa hoa (by omega) (by omega) (x, r) l.length 0 (List.replicate N 0) (by omega) (by simpa using hNa) e1
  refine Evt.same e0 fun K => ?_
  obtain ⟨v1, v2, v3⟩ := mx_ge (a + (l.length : Int)) (b + (m.length : Int))
  have w1 : wrap64 (a + (l.length : Int)) = a + l.length := w64 _ (by omega) (by omega)
  have w2 : wrap64 (b + (m.length : Int)) = b + m.length := w64 _ (by clear w1; omega) (by clear w1; omega)
  have w3 : wrap64 (mx (a + (l.length : Int)) (b + (m.length : Int)) - low) = (N : Int) := by rw [show mx (a + (l.length : Int)) (b + (m.length : Int)) - low = (N : Int) by clear w1 w2; omega]; exact w64n N (by clear w1 w2; omega)
  unfold spec_l03Sum.f
  rw [if_neg (by clear w1 w2 w3; omega), if_neg (by clear w1 w2 w3; omega), w1, w2, ← hlow, w3, if_pos (Int.natCast_nonneg _), Int.toNat_natCast, if_pos (by clear w1 w2 w3; omega)]
  rfl
theorem FnExactAddLaurent : laws_FnExactAddLaurent.Pure := by
  intro a l b m ha hl hw hb hm hv
  by_cases h : (1048576 : Int) < l.length
  · refine ⟨0, ?_⟩
    unfold laws_FnExactAddLaurent.f
    rw [szLaurent_eq a l 1048576 (by omega) (by omega) hl]
    simp [h]
  have hl' : l.length ≤ 1048576 := by omega
  by_cases h2 : (1048576 - (l.length : Int)) < m.length
  · refine ⟨0, ?_⟩
    unfold laws_FnExactAddLaurent.f
    rw [szLaurent_eq a l 1048576 (by omega) (by omega) hl]
    simp only [Option.bind_some]
    rw [if_neg h, if_neg (by omega), szLaurent_eq b m _ (by omega) (by omega) hm]
    simp [h2]
  have hm' : m.length ≤ 1048576 := by omega
  obtain ⟨x, r, t, hr, ⟨k1, (e1 : ∀ K, k1 ≤ K → spec_AddLaurent.f K a l b m = some (x, r, t))⟩, ⟨k2, (e2 : ∀ K, k2 ≤ K → impl_AddLaurent.f K a l b m = some (x, r, t))⟩⟩ := add_both a l b m ha hb hl' hm' hw hv
  have hbs : ∀ k, k1 + k2 < k → spec_AddLaurent.f k a l b m = some (x, r, t) := fun k hk => e1 k (by omega)
  have hbi : ∀ k, k1 + k2 < k → impl_AddLaurent.f k a l b m = some (x, r, t) := fun k hk => e2 k (by omega)
  clear e1 e2
  obtain ⟨K, hK⟩ : ∃ K : Nat, K = k1 + k2 + 3050000 := ⟨_, rfl⟩
  refine ⟨K + 1 + 1 + 1, ?_⟩
  unfold laws_FnExactAddLaurent.f
  rw [szLaurent_eq a l 1048576 (by omega) (by omega) hl]
  simp only [Option.bind_some]
  rw [if_neg h, if_neg (by omega), szLaurent_eq b m _ (by omega) (by omega) hm]
  simp only [Option.bind_some]
  rw [if_neg h2, if_neg (by omega)]
  simp (disch := omega) only [toLaurent_eq, hbs, hbi, eqLaurent_self, markLaurent_eq, Option.bind_some, if_true, Bool.not_true, bne_self_eq_false]
  simp only [laws_FnExactAddLaurent.j0]
  simp (disch := omega) only [toLaurent_eq, hbs, hbi, eqLaurent_self, markLaurent_eq, heldLaurent_marks, Option.bind_some, if_true, bne_self_eq_false]
  rw [if_neg (by simp), if_neg (by omega)]
  simp only [laws_FnExactAddLaurent.j1]
  simp (disch := omega) only [toLaurent_eq, hbs, hbi, eqLaurent_self, markLaurent_eq, heldLaurent_marks, Option.bind_some, if_true, bne_self_eq_false]
  rw [if_neg (by simp), if_neg (by omega)]
  simp only [laws_FnExactAddLaurent.j2]
  simp (disch := omega) only [toLaurent_eq, hbs, hbi, eqLaurent_self, markLaurent_eq, heldLaurent_marks, Option.bind_some, if_true, bne_self_eq_false]
  rw [if_neg (by simp), if_neg (by omega)]

end Go.Proofs.Ytpkocglndlmhkaa.Pure
