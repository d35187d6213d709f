/- Program and reference make the same monomial, in new memory. No condition: for every input that the statement lets in. -/
import Derived.Test.YtcpgjhpcoohlgaaPFnExactMonomialOfx3
namespace Go.Proofs.Ytcpgjhpcoohlgaa.Pure
open Go.RowKit Go.Proofs.Ytcpgjhpcoohlgaa.PFnExactMonomialOf Go.Proofs.YtcpgjhpcoohlgaaW.PrintWords Go.Proofs.YtcpgjhpcoohlgaaW.PrintLast

set_option linter.unusedSimpArgs false
set_option linter.unusedVariables false
theorem w64 (x : Int) (h0 : -9223372036854775808 ≤ x) (h1 : x ≤ 9223372036854775807) : wrap64 x = x := by
  unfold wrap64
  omega
theorem rd_nat (l : List Int) (i : Nat) (h : i < l.length) : rd l (i : Int) = l[i] := by
  simp [rd, List.getD, List.getElem?_eq_getElem h]
theorem succ_k {k n : Nat} (h : n < k) : ∃ m, k = m + 1 := ⟨k - 1, by omega⟩
theorem cast_succ (i : Nat) : ((i : Int) + 1) = ((i + 1 : Nat) : Int) := by omega
theorem drop_rd (l : List Int) (k : Nat) (h : k < l.length) : l.drop k = rd l (k : Int) :: l.drop (k + 1) := by
  rw [List.drop_eq_getElem_cons h, rd_nat l k h]


theorem eqInt64S_l0 (l r : List Int) (hr : r.length = l.length) (hl : l.length ≤ 4611686018427387904) : ∀ (d i k : Nat), i + d = l.length → d < k → laws_eqInt64S.l0 k l r (i : Int) = some (decide (l.drop i = r.drop i)) := by
  intro d
  induction d with
  | zero =>
    intro i k hd hk
    obtain ⟨k, rfl⟩ := succ_k hk
    simp only [laws_eqInt64S.l0]
    rw [if_neg (by omega), List.drop_of_length_le (by omega), List.drop_of_length_le (by omega)]
    simp
  | succ d ih =>
    intro i k hd hk
    obtain ⟨k, rfl⟩ := succ_k hk
    simp only [laws_eqInt64S.l0]
    rw [if_pos (by omega), if_pos (by omega), if_pos (by omega), w64 _ (by omega) (by omega), cast_succ, ih (i + 1) k (by omega) (by omega), drop_rd l i (by omega), drop_rd r i (by omega)]
    by_cases h : rd l (i : Int) = rd r (i : Int)
    · simp [h]
    · simp [h]
theorem eqInt64S_eq (l r : List Int) (k : Nat) (hl : l.length ≤ 4611686018427387904) (hk : l.length < k) : laws_eqInt64S.f k l r = some (decide (l = r)) := by
  unfold laws_eqInt64S.f
  by_cases h : l.length = r.length
  · rw [if_pos (by omega)]
    have := eqInt64S_l0 l r h.symm hl l.length 0 k (by omega) hk
    simpa using this
  · rw [if_neg (by omega)]
    have : ¬ l = r := fun e => h (by rw [e])
    simp [this]
theorem eqInt64S_self (l : List Int) (k : Nat) (hl : l.length ≤ 4611686018427387904) (hk : l.length < k) : laws_eqInt64S.f k l l = some true := by
  rw [eqInt64S_eq l l k hl hk]
  simp


theorem eqLaurent_self (a : Int) (l : List Int) (k : Nat) (hl : l.length ≤ 4611686018427387904) (hk : l.length < k) : laws_eqLaurent.f k a l a l = some true := by
  unfold laws_eqLaurent.f
  rw [if_pos rfl, eqInt64S_self l k hl hk]
  rfl


/-- The numbers from m on. -/
def marks : Int → Nat → List Int
  | _, 0 => []
  | m, n + 1 => m :: marks (m + 1) n
theorem marks_length : ∀ (m : Int) (n : Nat), (marks m n).length = n
  | _, 0 => rfl
  | m, n + 1 => by simp [marks, marks_length (m + 1) n]


theorem markInt64S_l0 : ∀ (d i k : Nat) (x0 : List Int) (x1 : Int), x0.length ≤ 4611686018427387904 → i + d = x0.length → 0 ≤ x1 → x1 + d ≤ 4611686018427387904 → d < k →
    laws_markInt64S.l0 k x0 x1 (i : Int) = some (x1 + d, x0.take i ++ marks x1 d) := by
  intro d
  induction d with
  | zero =>
    intro i k x0 x1 hl hd h0 h1 hk
    obtain ⟨k, rfl⟩ := succ_k hk
    simp only [laws_markInt64S.l0]
    rw [if_neg (by omega)]
    simp [marks, List.take_of_length_le (show x0.length ≤ i by omega)]
  | succ d ih =>
    intro i k x0 x1 hl hd h0 h1 hk
    obtain ⟨k, rfl⟩ := succ_k hk
    simp only [laws_markInt64S.l0]
    rw [if_pos (by omega), if_pos (by omega), w64 _ (by omega) (by omega), w64 _ (by omega) (by omega), cast_succ, Int.toNat_natCast]
    rw [ih (i + 1) k (x0.set i x1) (x1 + 1) (by simp; omega) (by simp; omega) (by omega) (by omega) (by omega)]
    rw [List.take_succ_eq_append_getElem (by simp; omega), List.take_set_of_le (by omega)]
    simp only [marks, List.getElem_set_self, List.append_assoc, List.singleton_append]
    rw [show x1 + 1 + (d : Int) = x1 + ((d + 1 : Nat) : Int) by omega]
theorem markInt64S_eq (l : List Int) (m : Int) (k : Nat) (hl : l.length ≤ 1048576) (h0 : 0 ≤ m) (h1 : m ≤ 4611686018426339328) (hk : l.length < k) :
    laws_markInt64S.f k l m = some (m + l.length, marks m l.length) := by
  unfold laws_markInt64S.f
  have := markInt64S_l0 l.length 0 k l m (by omega) (by omega) h0 (by omega) hk
  simpa using this


theorem markLaurent_eq (a : Int) (l : List Int) (m : Int) (k : Nat) (hl : l.length ≤ 1048576) (h0 : 0 ≤ m) (h1 : m ≤ 4611686018426339328) (hk : l.length < k) :
    laws_markLaurent.f k a l m = some (m + l.length, marks m l.length) := by
  unfold laws_markLaurent.f
  rw [markInt64S_eq l m k hl h0 h1 hk]
  rfl


theorem heldInt64S_l0 : ∀ (d i k : Nat) (x0 : List Int) (x1 : Int), x0.length ≤ 4611686018427387904 → i + d = x0.length → x0.drop i = marks x1 d → 0 ≤ x1 → x1 + d ≤ 4611686018427387904 → d < k →
    laws_heldInt64S.l0 k x0 x1 (i : Int) = some (x1 + d) := by
  intro d
  induction d with
  | zero =>
    intro i k x0 x1 hl hd he h0 h1 hk
    obtain ⟨k, rfl⟩ := succ_k hk
    simp only [laws_heldInt64S.l0]
    rw [if_neg (by omega)]
    simp
  | succ d ih =>
    intro i k x0 x1 hl hd he h0 h1 hk
    obtain ⟨k, rfl⟩ := succ_k hk
    simp only [laws_heldInt64S.l0]
    rw [drop_rd x0 i (by omega)] at he
    simp only [marks, List.cons.injEq] at he
    rw [if_pos (by omega), if_pos (by omega), if_pos he.1, w64 _ (by omega) (by omega), w64 _ (by omega) (by omega), cast_succ, ih (i + 1) k x0 (x1 + 1) hl (by omega) he.2 (by omega) (by omega) (by omega)]
    rw [show x1 + 1 + (d : Int) = x1 + ((d + 1 : Nat) : Int) by omega]
theorem heldInt64S_marks (m : Int) (n k : Nat) (hl : n ≤ 1048576) (h0 : 0 ≤ m) (h1 : m ≤ 4611686018426339328) (hk : n < k) :
    laws_heldInt64S.f k (marks m n) m = some (m + n) := by
  unfold laws_heldInt64S.f
  exact heldInt64S_l0 n 0 k (marks m n) m (by rw [marks_length]; omega) (by rw [marks_length]; omega) (by simp) h0 (by omega) hk


theorem heldLaurent_marks (a m : Int) (n k : Nat) (hl : n ≤ 1048576) (h0 : 0 ≤ m) (h1 : m ≤ 4611686018426339328) (hk : n < k) :
    laws_heldLaurent.f k a (marks m n) m = some (m + n) := by
  unfold laws_heldLaurent.f
  rw [heldInt64S_marks m n k hl h0 h1 hk]
  simp only [Option.bind_some]
  rw [if_neg (by omega)]


theorem last_take (l : List Int) (lo m : Nat) (h : lo + (m + 1) ≤ l.length) : rd ((l.drop lo).take (m + 1)) (m : Int) = rd l ((lo + m : Nat) : Int) := by
  rw [rd_nat _ m (by simp; omega), rd_nat l _ (by omega)]
  simp
theorem form_l1 (a : Int) (l : List Int) (ha : -1000000000000000 ≤ a ∧ a ≤ 1000000000000000) (hl : l.length ≤ 1048576) (lo : Nat) : ∀ (m k : Nat), lo + m ≤ l.length → m < k →
    ∃ x r, spec_l03Form.l1 k a l (lo : Int) ((lo + m : Nat) : Int) = some (x, r) ∧ impl_normal.l1 k (a + lo) ((l.drop lo).take m) = some (x, r) ∧ r.length ≤ l.length := by
  intro m
  induction m with
  | zero =>
    intro k hm hk
    obtain ⟨k, rfl⟩ := succ_k hk
    refine ⟨0, [], ?_, ?_, by simp⟩
    · simp only [spec_l03Form.l1]
      rw [if_neg (by omega), if_pos (by omega)]
    · simp only [impl_normal.l1]
      simp
  | succ m ih =>
    intro k hm hk
    obtain ⟨k, rfl⟩ := succ_k hk
    have hlen : ((l.drop lo).take (m + 1)).length = m + 1 := by simp; omega
    have e1 : wrap64 (((lo + (m + 1) : Nat) : Int) - 1) = ((lo + m : Nat) : Int) := by rw [w64 _ (by omega) (by omega)]; omega
    have e2 : wrap64 (((m + 1 : Nat) : Int) - 1) = (m : Int) := by rw [w64 _ (by omega) (by omega)]; omega
    simp only [spec_l03Form.l1, impl_normal.l1]
    rw [hlen, e1, e2, last_take l lo m hm]
    by_cases h0 : rd l ((lo + m : Nat) : Int) = 0
    · simp (disch := omega) only [if_pos, if_neg]
      rw [Int.toNat_natCast, List.take_take, Nat.min_eq_left (by omega)]
      exact ih k (by omega) (by omega)
    · simp (disch := omega) only [if_pos, if_neg]
      refine ⟨a + lo, (l.drop lo).take (m + 1), ?_, ?_, by omega⟩
      · simp only [Option.bind_some]
        have e3 : (l.take ((lo + (m + 1) : Nat) : Int).toNat).drop ((lo : Int)).toNat = (l.drop lo).take (m + 1) := by
          rw [Int.toNat_natCast, Int.toNat_natCast, List.drop_take, show lo + (m + 1) - lo = m + 1 by omega]
        rw [e3, if_pos (by rw [hlen]; simp; omega), w64 _ (by omega) (by omega)]
        rfl
      · unfold slices_Clone_int64_int64.f
        rw [if_pos (by omega)]
        rfl
theorem form_l0 (a : Int) (l : List Int) (ha : -1000000000000000 ≤ a ∧ a ≤ 1000000000000000) (hl : l.length ≤ 1048576) : ∀ (d i k : Nat), i + d = l.length → d + l.length + 2 < k →
    ∃ x r, spec_l03Form.l0 k a l (i : Int) (l.length : Int) = some (x, r) ∧ impl_normal.l0 k (a + i) (l.drop i) = some (x, r) ∧ r.length ≤ l.length := by
  intro d
  induction d with
  | zero =>
    intro i k hd hk
    obtain ⟨k, rfl⟩ := succ_k hk
    obtain ⟨k, rfl⟩ := succ_k (show l.length + 1 < k by omega)
    obtain rfl : i = l.length := by omega
    obtain ⟨x, r, h1, h2, h3⟩ := form_l1 a l ha hl l.length 0 k (by omega) (by omega)
    refine ⟨x, r, ?_, ?_, h3⟩
    · simp only [spec_l03Form.l0, spec_l03Form.j1]
      rw [if_neg (by omega)]
      rw [Nat.add_zero] at h1
      exact h1
    · simp only [impl_normal.l0, impl_normal.j1]
      rw [if_neg (by simp)]
      simpa using h2
  | succ d ih =>
    intro i k hd hk
    obtain ⟨k, rfl⟩ := succ_k hk
    have hlen : (l.drop i).length = d + 1 := by simp; omega
    simp only [spec_l03Form.l0, impl_normal.l0]
    have e0 : rd (l.drop i) 0 = rd l (i : Int) := by rw [drop_rd l i (by omega)]; rfl
    rw [hlen, e0]
    by_cases h0 : rd l (i : Int) = 0
    · simp (disch := omega) only [if_pos, if_neg]
      rw [w64 _ (by omega) (by omega), w64 _ (by omega) (by omega), List.drop_drop, cast_succ, show a + (i : Int) + 1 = a + ((i + 1 : Nat) : Int) by omega]
      exact ih (i + 1) k (by omega) (by omega)
    · obtain ⟨k, rfl⟩ := succ_k (show l.length + 1 < k by omega)
      simp (disch := omega) only [if_pos, if_neg]
      simp only [spec_l03Form.j1, impl_normal.j1]
      obtain ⟨x, r, h1, h2, h3⟩ := form_l1 a l ha hl i (d + 1) k (by omega) (by omega)
      refine ⟨x, r, ?_, ?_, h3⟩
      · rw [hd] at h1
        exact h1
      · rw [List.take_of_length_le (by omega)] at h2
        exact h2
theorem form_normal (a : Int) (l : List Int) (ha : -1000000000000000 ≤ a ∧ a ≤ 1000000000000000) (hl : l.length ≤ 1048576) :
    ∃ x r, r.length ≤ l.length ∧ ∀ k, 2 * l.length + 2 < k → (spec_l03Form.f k a l = some (x, r) ∧ impl_normal.f k a l = some (x, r)) := by
  obtain ⟨x, r, h1, h2, h3⟩ := form_l0 a l ha hl l.length 0 (2 * l.length + 3) (by omega) (by omega)
  refine ⟨x, r, h3, fun k hk => ⟨at_rounds (spec_l03Form.mono a l) (show 2 * l.length + 3 ≤ k by omega) ?_, at_rounds (impl_normal.mono a l) (show 2 * l.length + 3 ≤ k by omega) ?_⟩⟩
  · unfold spec_l03Form.f
    exact h1
  · unfold impl_normal.f
    rw [Int.natCast_zero, Int.add_zero, List.drop_zero] at h2
    exact h2


theorem mono_both (a e : Int) : ∃ x r t, r.length ≤ 1 ∧ ∀ k, 4 < k → (spec_MonomialOf.f k a e = some (x, r, t) ∧ impl_MonomialOf.f k a e = some (x, r, t)) := by
  unfold spec_MonomialOf.f impl_MonomialOf.f spec_l01In.f impl_inRange.f
  by_cases h1 : -1000000000000 ≤ a <;> by_cases h2 : a ≤ 1000000000000 <;> by_cases h3 : -240 ≤ e <;> by_cases h4 : e ≤ 240
  case pos =>
    obtain ⟨x, r, h5, h6⟩ := form_normal e [a] ⟨by omega, by omega⟩ (by simp)
    refine ⟨x, r, 0, h5, fun k hk => ?_⟩
    obtain ⟨h7, h8⟩ := h6 k (by simp; omega)
    constructor
    · simp [h1, h2, h3, h4, h7]
    · simp [h1, h2, h3, h4, h8]
  all_goals exact ⟨0, [], 2, by simp, fun k hk => ⟨by simp [h1, h2, h3, h4], by simp [h1, h2, h3, h4]⟩⟩
theorem FnExactMonomialOf : laws_FnExactMonomialOf.Pure := by
  intro a e _ _
  obtain ⟨K, hK⟩ : ∃ K : Nat, K = 100 := ⟨_, rfl⟩
  refine ⟨K + 1 + 1, ?_⟩
  obtain ⟨x, r, t, hr, hb⟩ := mono_both a e
  unfold laws_FnExactMonomialOf.f
  rw [(hb (K + 1 + 1) (by omega)).1, (hb (K + 1 + 1) (by omega)).2]
  simp only [Option.bind_some]
  rw [eqLaurent_self x r _ (by omega) (by omega)]
  simp only [Option.bind_some, if_true, bne_self_eq_false, laws_FnExactMonomialOf.j0]
  rw [markLaurent_eq x r 1 _ (by omega) (by omega) (by omega) (by omega)]
  simp only [Option.bind_some]
  rw [heldLaurent_marks x 1 r.length _ (by omega) (by omega) (by omega) (by omega), (hb (K + 1) (by omega)).2]
  simp only [Option.bind_some]
  rw [eqLaurent_self x r _ (by omega) (by omega)]
  simp only [Option.bind_some, if_true, bne_self_eq_false, laws_FnExactMonomialOf.j1]
  rw [heldLaurent_marks x 1 r.length _ (by omega) (by omega) (by omega) (by omega)]
  simp
  rw [if_neg (by omega), if_neg (by omega)]

end Go.Proofs.Ytcpgjhpcoohlgaa.Pure
