/- Program and reference find the same matching; the results are new memory. No condition: for every input that the statement lets in. -/
import Derived.Test.YtmffjekpnibnfaaPFnExactMatchingAtx4
namespace Go.Proofs.Ytmffjekpnibnfaa.Pure
open Go.RowKit Go.Proofs.Ytmffjekpnibnfaa.PFnExactMatchingAt Go.Proofs.YtmffjekpnibnfaaW.PrintWords Go.Proofs.YtmffjekpnibnfaaW.PrintLast

set_option linter.unusedSimpArgs false
set_option linter.unusedVariables false
theorem w64 (x : Int) (h0 : -9223372036854775808 ≤ x) (h1 : x ≤ 9223372036854775807) : wrap64 x = x := by
  unfold wrap64
  omega
theorem w64n (n : Nat) (h : n ≤ 9223372036854775807) : wrap64 (n : Int) = (n : Int) := w64 _ (by omega) (by omega)
theorem rd_nat (l : List Int) (i : Nat) (h : i < l.length) : rd l (i : Int) = l[i] := by
  simp [rd, List.getD, List.getElem?_eq_getElem h]
theorem succ_k {k n : Nat} (h : n < k) : ∃ m, k = m + 1 := ⟨k - 1, by omega⟩
theorem cast_succ (i : Nat) : ((i : Int) + 1) = ((i + 1 : Nat) : Int) := by omega
theorem drop_rd (l : List Int) (k : Nat) (h : k < l.length) : l.drop k = rd l (k : Int) :: l.drop (k + 1) := by
  rw [List.drop_eq_getElem_cons h, rd_nat l k h]


theorem eqInt64S_l0 (l r : List Int) (hr : r.length = l.length) (hl : l.length ≤ 4611686018427387904) : ∀ (d i k : Nat), i + d = l.length → d < k → laws_eqInt64S.l0 k l r (i : Int) = some (decide (l.drop i = r.drop i)) := by
  intro d
  induction d with
  | zero =>
    intro i k hd hk
    obtain ⟨k, rfl⟩ := succ_k hk
    simp only [laws_eqInt64S.l0]
    rw [if_neg (by omega), List.drop_of_length_le (by omega), List.drop_of_length_le (by omega)]
    simp
  | succ d ih =>
    intro i k hd hk
    obtain ⟨k, rfl⟩ := succ_k hk
    simp only [laws_eqInt64S.l0]
    rw [if_pos (by omega), if_pos (by omega), if_pos (by omega), w64 _ (by omega) (by omega), cast_succ, ih (i + 1) k (by omega) (by omega), drop_rd l i (by omega), drop_rd r i (by omega)]
    by_cases h : rd l (i : Int) = rd r (i : Int)
    · simp [h]
    · simp [h]
theorem eqInt64S_eq (l r : List Int) (k : Nat) (hl : l.length ≤ 4611686018427387904) (hk : l.length < k) : laws_eqInt64S.f k l r = some (decide (l = r)) := by
  unfold laws_eqInt64S.f
  by_cases h : l.length = r.length
  · rw [if_pos (by omega)]
    have := eqInt64S_l0 l r h.symm hl l.length 0 k (by omega) hk
    simpa using this
  · rw [if_neg (by omega)]
    have : ¬ l = r := fun e => h (by rw [e])
    simp [this]
theorem eqInt64S_self (l : List Int) (k : Nat) (hl : l.length ≤ 4611686018427387904) (hk : l.length < k) : laws_eqInt64S.f k l l = some true := by
  rw [eqInt64S_eq l l k hl hk]
  simp


/-- The numbers from m on. -/
def marks : Int → Nat → List Int
  | _, 0 => []
  | m, n + 1 => m :: marks (m + 1) n
theorem marks_length : ∀ (m : Int) (n : Nat), (marks m n).length = n
  | _, 0 => rfl
  | m, n + 1 => by simp [marks, marks_length (m + 1) n]


theorem markInt64S_l0 : ∀ (d i k : Nat) (x0 : List Int) (x1 : Int), x0.length ≤ 4611686018427387904 → i + d = x0.length → 0 ≤ x1 → x1 + d ≤ 4611686018427387904 → d < k →
    laws_markInt64S.l0 k x0 x1 (i : Int) = some (x1 + d, x0.take i ++ marks x1 d) := by
  intro d
  induction d with
  | zero =>
    intro i k x0 x1 hl hd h0 h1 hk
    obtain ⟨k, rfl⟩ := succ_k hk
    simp only [laws_markInt64S.l0]
    rw [if_neg (by omega)]
    simp [marks, List.take_of_length_le (show x0.length ≤ i by omega)]
  | succ d ih =>
    intro i k x0 x1 hl hd h0 h1 hk
    obtain ⟨k, rfl⟩ := succ_k hk
    simp only [laws_markInt64S.l0]
    rw [if_pos (by omega), if_pos (by omega), w64 _ (by omega) (by omega), w64 _ (by omega) (by omega), cast_succ, Int.toNat_natCast]
    rw [ih (i + 1) k (x0.set i x1) (x1 + 1) (by simp; omega) (by simp; omega) (by omega) (by omega) (by omega)]
    rw [List.take_succ_eq_append_getElem (by simp; omega), List.take_set_of_le (by omega)]
    simp only [marks, List.getElem_set_self, List.append_assoc, List.singleton_append]
    rw [show x1 + 1 + (d : Int) = x1 + ((d + 1 : Nat) : Int) by omega]
theorem markInt64S_eq (l : List Int) (m : Int) (k : Nat) (hl : l.length ≤ 1048576) (h0 : 0 ≤ m) (h1 : m ≤ 4611686018426339328) (hk : l.length < k) :
    laws_markInt64S.f k l m = some (m + l.length, marks m l.length) := by
  unfold laws_markInt64S.f
  have := markInt64S_l0 l.length 0 k l m (by omega) (by omega) h0 (by omega) hk
  simpa using this


theorem heldInt64S_l0 : ∀ (d i k : Nat) (x0 : List Int) (x1 : Int), x0.length ≤ 4611686018427387904 → i + d = x0.length → x0.drop i = marks x1 d → 0 ≤ x1 → x1 + d ≤ 4611686018427387904 → d < k →
    laws_heldInt64S.l0 k x0 x1 (i : Int) = some (x1 + d) := by
  intro d
  induction d with
  | zero =>
    intro i k x0 x1 hl hd he h0 h1 hk
    obtain ⟨k, rfl⟩ := succ_k hk
    simp only [laws_heldInt64S.l0]
    rw [if_neg (by omega)]
    simp
  | succ d ih =>
    intro i k x0 x1 hl hd he h0 h1 hk
    obtain ⟨k, rfl⟩ := succ_k hk
    simp only [laws_heldInt64S.l0]
    rw [drop_rd x0 i (by omega)] at he
    simp only [marks, List.cons.injEq] at he
    rw [if_pos (by omega), if_pos (by omega), if_pos he.1, w64 _ (by omega) (by omega), w64 _ (by omega) (by omega), cast_succ, ih (i + 1) k x0 (x1 + 1) hl (by omega) he.2 (by omega) (by omega) (by omega)]
    rw [show x1 + 1 + (d : Int) = x1 + ((d + 1 : Nat) : Int) by omega]
theorem heldInt64S_marks (m : Int) (n k : Nat) (hl : n ≤ 1048576) (h0 : 0 ≤ m) (h1 : m ≤ 4611686018426339328) (hk : n < k) :
    laws_heldInt64S.f k (marks m n) m = some (m + n) := by
  unfold laws_heldInt64S.f
  exact heldInt64S_l0 n 0 k (marks m n) m (by rw [marks_length]; omega) (by rw [marks_length]; omega) (by simp) h0 (by omega) hk


def dM : Nat → Int
  | 0 => 1
  | h + 1 => (2 * (h : Int) + 1) * dM h
theorem dM_pos : ∀ h : Nat, h ≤ 8 → 0 < dM h ∧ dM h ≤ 2027025 := by decide +kernel
theorem dM_impl : ∀ h : Nat, h ≤ 8 → impl_matchings.f 20 (2 * (h : Int)) = some (dM h) := by decide +kernel
theorem dM_spec : ∀ h : Nat, h ≤ 8 → spec_l16Matchings.f 20 (2 * (h : Int)) = some (dM h) := by decide +kernel
theorem rd_in (l : List Int) (i : Nat) (h : i < l.length) : rd l (i : Int) ∈ l := by
  rw [rd_nat l i h]
  exact List.getElem_mem h
theorem mem_next (L : List Int) (q : Nat) (x : Int) (h : x ∈ (L.take (q + 1) ++ L.drop (q + 1 + 1)).drop 1) : x ∈ L := by
  rcases List.mem_append.1 (List.mem_of_mem_drop h) with h | h
  · exact List.mem_of_mem_take h
  · exact List.mem_of_mem_drop h
theorem len_next (L : List Int) (q : Nat) (h : q + 1 < L.length) : ((L.take (q + 1) ++ L.drop (q + 1 + 1)).drop 1).length = L.length - 2 := by
  simp
  omega
/-- One step: which number, how many are left. -/
theorem step_nat (h : Nat) (hh : h + 1 ≤ 8) (n : Int) (n0 : 0 ≤ n) (n1 : n < dM (h + 1)) : ∃ q : Nat, n.tdiv (dM h) = q ∧ (q : Int) < 2 * (h : Int) + 1 ∧ 0 ≤ n.tmod (dM h) ∧ n.tmod (dM h) < dM h := by
  obtain ⟨p0, p1⟩ := dM_pos h (by omega)
  rw [Int.tdiv_eq_ediv_of_nonneg n0, Int.tmod_eq_emod_of_nonneg n0]
  have d0 := Int.ediv_nonneg n0 (Int.le_of_lt p0)
  have d1 : n / dM h < 2 * (h : Int) + 1 := Int.ediv_lt_of_lt_mul p0 n1
  exact ⟨(n / dM h).toNat, by omega, by omega, Int.emod_nonneg _ (by omega), Int.emod_lt_of_pos _ p0⟩
def matR : Nat → Int → List Int → List Int → List Int
  | 0, _, _, O => O
  | h + 1, n, L, O => matR h (n.tmod (dM h)) ((L.take ((n.tdiv (dM h)).toNat + 1) ++ L.drop ((n.tdiv (dM h)).toNat + 1 + 1)).drop 1) ((O.set (rd L 0).toNat (rd L (n.tdiv (dM h) + 1))).set (rd L (n.tdiv (dM h) + 1)).toNat (rd L 0))
theorem matR_length : ∀ (h : Nat) (n : Int) (L O : List Int), (matR h n L O).length = O.length
  | 0, _, _, _ => rfl
  | h + 1, n, L, O => by unfold matR; rw [matR_length h, List.length_set, List.length_set]
theorem match_both : ∀ (h : Nat), h ≤ 8 → ∀ (L O : List Int) (n : Int) (k : Nat), L.length = 2 * h → O.length ≤ 100 → 0 ≤ n → n < dM h → (∀ x ∈ L, 0 ≤ x ∧ x < (O.length : Int)) → h + 21 ≤ k →
    impl_matchingAt.l0 k n L O = some (matR h n L O) ∧ spec_l16Matching.l0 k n L O = some (matR h n L O) := by
  intro h
  induction h with
  | zero =>
    intro hh L O n k hl ho n0 n1 hm hk
    obtain ⟨k, rfl⟩ := succ_k (show 0 < k by omega)
    simp only [impl_matchingAt.l0, spec_l16Matching.l0, matR]
    rw [if_neg (by omega), if_neg (by omega)]
    exact ⟨rfl, rfl⟩
  | succ h ih =>
    intro hh L O n k hl ho n0 n1 hm hk
    obtain ⟨k, rfl⟩ := succ_k (show 0 < k by omega)
    obtain ⟨q, hq, q1, m0, m1⟩ := step_nat h hh n n0 n1
    obtain ⟨p0, p1⟩ := dM_pos h (by omega)
    have hn1 := (dM_pos (h + 1) hh).2
    have b1 : (-9223372036854775808 ≤ (L.length : Int) - 2 ∧ (L.length : Int) - 2 ≤ 9223372036854775807) ∧ (L.length : Int) - 2 = 2 * (h : Int) := by omega
    have b2 : (-9223372036854775808 ≤ (q : Int) ∧ (q : Int) ≤ 9223372036854775807) ∧ (-9223372036854775808 ≤ 1 + (q : Int) ∧ 1 + (q : Int) ≤ 9223372036854775807) ∧ 1 + (q : Int) = ((q + 1 : Nat) : Int) := by omega
    have b3 : (-9223372036854775808 ≤ ((q + 1 : Nat) : Int) + 1 ∧ ((q + 1 : Nat) : Int) + 1 ≤ 9223372036854775807) ∧ ((q + 1 : Nat) : Int) + 1 = ((q + 1 + 1 : Nat) : Int) := by omega
    have g1 : impl_matchings.f k (2 * (h : Int)) = some (dM h) := at_rounds (g := fun k => impl_matchings.f k (2 * (h : Int))) (fun k => impl_matchings.mono _ k) (show 20 ≤ k by omega) (dM_impl h (by omega))
    have g2 : spec_l16Matchings.f k (2 * (h : Int)) = some (dM h) := at_rounds (g := fun k => spec_l16Matchings.f k (2 * (h : Int))) (fun k => spec_l16Matchings.mono _ k) (show 20 ≤ k by omega) (dM_spec h (by omega))
    have ma := hm _ (rd_in L 0 (by omega))
    have mb := hm _ (rd_in L (q + 1) (by omega))
    rw [show (((0 : Nat) : Int)) = 0 from rfl] at ma
    have hnext := ih (by omega) ((L.take (q + 1) ++ L.drop (q + 1 + 1)).drop 1) ((O.set (rd L 0).toNat (rd L ((q + 1 : Nat) : Int))).set (rd L ((q + 1 : Nat) : Int)).toNat (rd L 0)) (n.tmod (dM h)) k
      (by rw [len_next L q (by omega)]; omega) (by rw [List.length_set, List.length_set]; exact ho) m0 m1 (fun x hx => by rw [List.length_set, List.length_set]; exact hm x (mem_next L q x hx)) (by omega)
    have hR : matR (h + 1) n L O = matR h (n.tmod (dM h)) ((L.take (q + 1) ++ L.drop (q + 1 + 1)).drop 1) ((O.set (rd L 0).toNat (rd L ((q + 1 : Nat) : Int))).set (rd L ((q + 1 : Nat) : Int)).toNat (rd L 0)) := by
      simp only [matR]
      rw [hq, Int.toNat_natCast]
      rfl
    rw [hR]
    have hdr : (L.take (q + 1)).drop 1 ++ L.drop (q + 1 + 1) = (L.take (q + 1) ++ L.drop (q + 1 + 1)).drop 1 := (List.drop_append_of_le_length (by simp; omega)).symm
    have c1 : (0 < L.length) := by omega
    have c2 : ((L.length : Int) > 0) := by omega
    have c3 : ¬ dM h = 0 := by omega
    have c4 : (0 : Int) < (L.length : Int) := by omega
    have c5 : (0 : Int) ≤ ((q + 1 : Nat) : Int) := by omega
    have c6 : ((q + 1 : Nat) : Int) < (L.length : Int) := by omega
    have c7 : (1 : Int) ≤ ((q + 1 : Nat) : Int) := by omega
    have c8 : ((q + 1 : Nat) : Int) ≤ (L.length : Int) := by omega
    have c9 : (0 : Int) ≤ ((q + 1 + 1 : Nat) : Int) := by omega
    have c10 : ((q + 1 + 1 : Nat) : Int) ≤ (L.length : Int) := by omega
    have l1 : (([] : List Int).length + ((L.take (q + 1)).drop 1).length < 17592186044416) := by simp; omega
    have l2 : (([] ++ (L.take (q + 1)).drop 1 : List Int).length + (L.drop (q + 1 + 1)).length < 17592186044416) := by simp; omega
    have d1 : (0 < dM h ∧ dM h ≤ 1000000000 ∧ 0 ≤ n ∧ n ≤ 1000000000) := ⟨p0, by omega, n0, by omega⟩
    have e1 : wrap64 ((L.length : Int) - 2) = 2 * (h : Int) := (w64 _ b1.1.1 b1.1.2).trans b1.2
    have w1 := w64 (q : Int) b2.1.1 b2.1.2
    have w2 : wrap64 (1 + (q : Int)) = ((q + 1 : Nat) : Int) := (w64 _ b2.2.1.1 b2.2.1.2).trans b2.2.2
    have w3 : wrap64 (((q + 1 : Nat) : Int) + 1) = ((q + 1 + 1 : Nat) : Int) := (w64 _ b3.1.1 b3.1.2).trans b3.2
    refine ⟨?_, ?_⟩
    · simp only [impl_matchingAt.l0]
      rw [if_pos c1, e1, g1, Option.bind_some, hq, Int.toNat_natCast, show ((q : Int) + 1) = ((q + 1 : Nat) : Int) from rfl, if_pos ⟨d1, c6, ma, mb⟩]
      exact hnext.1
    · simp only [spec_l16Matching.l0]
      rw [if_pos c2, e1, g2, Option.bind_some, if_neg c3, if_pos c4, hq, w1, w2, w3, if_pos c5, if_pos c6, if_pos ma.1, if_pos ma.2, if_pos mb.1, if_pos mb.2, Option.bind_some, if_pos c7, if_pos c8, Int.toNat_natCast, Option.bind_some, if_pos l1, Option.bind_some, if_pos c9, if_pos c10, Int.toNat_natCast, Option.bind_some, if_pos l2, List.nil_append, hdr]
      exact hnext.2
theorem fresh_both : ∀ h : Nat, h ≤ 8 → impl_counting.f 20 (2 * (h : Int)) = some ((List.range (2 * h)).map fun i : Nat => (i : Int)) ∧ spec_l08Fresh.f 20 (2 * (h : Int)) = some ((List.range (2 * h)).map fun i : Nat => (i : Int)) := by decide +kernel
def matL (h : Nat) (n : Int) : List Int := matR h n ((List.range (2 * h)).map fun i : Nat => (i : Int)) (List.replicate (2 * h) 0)
theorem matL_length (h : Nat) (n : Int) : (matL h n).length = 2 * h := by unfold matL; rw [matR_length]; simp
theorem match_at (h : Nat) (hh : h ≤ 8) (n : Int) (n0 : 0 ≤ n) (n1 : n < dM h) (k : Nat) (hk : 100 ≤ k) :
    impl_matchingAt.f k (2 * (h : Int)) n = some (matL h n) ∧ spec_l16Matching.f k (2 * (h : Int)) n = some (matL h n) := by
  have f1 := at_rounds (g := fun k => impl_counting.f k (2 * (h : Int))) (fun k => impl_counting.mono _ k) (show 20 ≤ k by omega) (fresh_both h hh).1
  have f2 := at_rounds (g := fun k => spec_l08Fresh.f k (2 * (h : Int))) (fun k => spec_l08Fresh.mono _ k) (show 20 ≤ k by omega) (fresh_both h hh).2
  have hm := match_both h hh ((List.range (2 * h)).map fun i : Nat => (i : Int)) (List.replicate (2 * h) 0) n k (by simp) (by simp; omega) n0 n1 (fun x hx => by
    obtain ⟨i, hi, rfl⟩ := List.mem_map.1 hx
    have := List.mem_range.1 hi
    rw [List.length_replicate]
    omega) (by omega)
  have e : (2 * (h : Int)).toNat = 2 * h := by omega
  unfold impl_matchingAt.f spec_l16Matching.f
  simp only [f1, f2, Option.bind_some]
  rw [if_pos ⟨by omega, by omega, by simp; omega⟩, if_pos (by omega), if_pos (by omega), e]
  exact hm
/-- What MatchingAt hands back. -/
def matP (m n : Int) : List Int × Bool := if (0 ≤ m ∧ m ≤ 16 ∧ m.tmod 2 = 0) ∧ 0 ≤ n ∧ n < dM (m / 2).toNat then (matL (m / 2).toNat n, true) else ([], false)
theorem matP_pos (h : Nat) (hh : h ≤ 8) (n : Int) (n0 : 0 ≤ n) (n1 : n < dM h) : matP (2 * (h : Int)) n = (matL h n, true) := by
  unfold matP
  have e : ((2 * (h : Int)) / 2).toNat = h := by omega
  have e2 : (2 * (h : Int)).tmod 2 = 0 := by rw [Int.tmod_eq_emod_of_nonneg (by omega)]; omega
  rw [e, if_pos ⟨⟨by omega, by omega, e2⟩, n0, n1⟩]
theorem count_impl (m : Int) : impl_isEven.f m = some (decide (0 ≤ m ∧ m ≤ 16 ∧ m.tmod 2 = 0)) := by
  unfold impl_isEven.f impl_inRange.f
  by_cases h0 : 0 ≤ m
  · by_cases h1 : m ≤ 16
    · by_cases h2 : m.tmod 2 = 0
      · rw [decide_eq_true (show 0 ≤ m ∧ m ≤ 16 ∧ m.tmod 2 = 0 from ⟨h0, h1, h2⟩), if_pos h0, decide_eq_true h1, Option.bind_some, if_pos rfl, h2]
        rfl
      · rw [decide_eq_false (show ¬ (0 ≤ m ∧ m ≤ 16 ∧ m.tmod 2 = 0) from fun hx => h2 hx.2.2), if_pos h0, decide_eq_true h1, Option.bind_some, if_pos rfl, beq_eq_false_iff_ne.2 h2]
    · rw [decide_eq_false (show ¬ (0 ≤ m ∧ m ≤ 16 ∧ m.tmod 2 = 0) from fun hx => h1 hx.2.1), if_pos h0, decide_eq_false h1]
      rfl
  · rw [decide_eq_false (show ¬ (0 ≤ m ∧ m ≤ 16 ∧ m.tmod 2 = 0) from fun hx => h0 hx.1), if_neg h0]
    rfl
theorem count_odd : ∀ m, m < 17 → ¬ ((m : Nat) : Int).tmod 2 = 0 → ((m : Nat) : Int).tmod 2 = 1 := by decide
theorem count_spec (m : Int) (k : Nat) (hk : 20 ≤ k) : spec_MatchingCount.f k m = some (if 0 ≤ m ∧ m ≤ 16 ∧ m.tmod 2 = 0 then dM (m / 2).toNat else -1) := by
  unfold spec_MatchingCount.f spec_l07In.f
  by_cases h0 : 0 ≤ m
  · by_cases h1 : m ≤ 16
    · obtain ⟨m', rfl⟩ : ∃ m' : Nat, m = m' := ⟨m.toNat, by omega⟩
      by_cases h2 : (m' : Int).tmod 2 = 0
      · obtain ⟨h, hh⟩ : ∃ h : Nat, (m' : Int) = 2 * (h : Int) := ⟨m' / 2, by
          rw [Int.tmod_eq_emod_of_nonneg h0] at h2
          omega⟩
        have e : ((m' : Int) / 2).toNat = h := by omega
        have g2 := at_rounds (g := fun k => spec_l16Matchings.f k (2 * (h : Int))) (fun k => spec_l16Matchings.mono _ k) hk (dM_spec h (by omega))
        rw [if_pos (show 0 ≤ (m' : Int) ∧ (m' : Int) ≤ 16 ∧ (m' : Int).tmod 2 = 0 from ⟨h0, h1, h2⟩), e, if_pos h0, decide_eq_true h1, Option.bind_some, if_pos rfl, h2, if_neg (by decide), hh, g2]
        rfl
      · have h21 := count_odd m' (by omega) h2
        rw [if_neg (show ¬ (0 ≤ (m' : Int) ∧ (m' : Int) ≤ 16 ∧ (m' : Int).tmod 2 = 0) from fun hx => h2 hx.2.2), if_pos h0, decide_eq_true h1, Option.bind_some, if_pos rfl, if_pos h21]
    · rw [if_neg (show ¬ (0 ≤ m ∧ m ≤ 16 ∧ m.tmod 2 = 0) from fun hx => h1 hx.2.1), if_pos h0, decide_eq_false h1]
      rfl
  · rw [if_neg (show ¬ (0 ≤ m ∧ m ≤ 16 ∧ m.tmod 2 = 0) from fun hx => h0 hx.1), if_neg h0]
    rfl
theorem in_range (n c : Int) (hc : -1 ≤ c ∧ c ≤ 2027025) : impl_inRange.f n 0 (wrap64 (c - 1)) = some (decide (0 ≤ n ∧ n < c)) ∧ spec_l07In.f n 0 (wrap64 (c - 1)) = some (decide (0 ≤ n ∧ n < c)) := by
  rw [w64 (c - 1) (by omega) (by omega)]
  unfold impl_inRange.f spec_l07In.f
  by_cases n0 : 0 ≤ n
  · by_cases n1 : n ≤ c - 1
    · rw [decide_eq_true (show 0 ≤ n ∧ n < c by omega), if_pos n0, decide_eq_true n1]
      exact ⟨rfl, rfl⟩
    · rw [decide_eq_false (show ¬ (0 ≤ n ∧ n < c) by omega), if_pos n0, decide_eq_false n1]
      exact ⟨rfl, rfl⟩
  · rw [decide_eq_false (show ¬ (0 ≤ n ∧ n < c) by omega), if_neg n0]
    exact ⟨rfl, rfl⟩
theorem match_P (m n : Int) (k : Nat) (hk : 100 ≤ k) : impl_MatchingAt.f k m n = some (matP m n) ∧ spec_MatchingAt.f k m n = some (matP m n) := by
  unfold impl_MatchingAt.f spec_MatchingAt.f
  rw [count_impl, count_spec m k (by omega)]
  simp only [Option.bind_some]
  by_cases hm : 0 ≤ m ∧ m ≤ 16 ∧ m.tmod 2 = 0
  · obtain ⟨h, rfl⟩ : ∃ h : Nat, m = 2 * (h : Int) := ⟨(m / 2).toNat, by
      have := hm.2.2
      rw [Int.tmod_eq_emod_of_nonneg hm.1] at this
      omega⟩
    have e : ((2 * (h : Int)) / 2).toNat = h := by omega
    obtain ⟨p0, p1⟩ := dM_pos h (by omega)
    have g1 := at_rounds (g := fun k => impl_matchings.f k (2 * (h : Int))) (fun k => impl_matchings.mono _ k) (show 20 ≤ k by omega) (dM_impl h (by omega))
    obtain ⟨i1, i2⟩ := in_range n (dM h) ⟨by omega, p1⟩
    rw [decide_eq_true hm, if_pos rfl, if_pos hm, e, g1]
    simp only [Option.bind_some]
    rw [i1, i2]
    simp only [Option.bind_some]
    by_cases hn : 0 ≤ n ∧ n < dM h
    · obtain ⟨a1, a2⟩ := match_at h (by omega) n hn.1 hn.2 k hk
      rw [decide_eq_true hn, if_pos rfl, if_pos rfl, a1, a2, matP_pos h (by omega) n hn.1 hn.2]
      exact ⟨rfl, rfl⟩
    · have hp : matP (2 * (h : Int)) n = ([], false) := by unfold matP; rw [e]; exact if_neg fun hx => hn hx.2
      rw [decide_eq_false hn, hp]
      exact ⟨rfl, rfl⟩
  · have hp : matP m n = ([], false) := by unfold matP; exact if_neg fun hx => hm hx.1
    obtain ⟨i1, i2⟩ := in_range n (-1) ⟨by omega, by omega⟩
    rw [decide_eq_false hm, if_neg hm, hp, i2, decide_eq_false (show ¬ (0 ≤ n ∧ n < -1) by omega)]
    exact ⟨rfl, rfl⟩
theorem matP_length (m n : Int) : (matP m n).1.length ≤ 16 := by
  unfold matP
  by_cases h : (0 ≤ m ∧ m ≤ 16 ∧ m.tmod 2 = 0) ∧ 0 ≤ n ∧ n < dM (m / 2).toNat
  · rw [if_pos h]
    show (matL _ _).length ≤ 16
    rw [matL_length]
    omega
  · rw [if_neg h]
    simp

theorem FnExactMatchingAt : laws_FnExactMatchingAt.Pure := by
  intro m n _ hn
  refine ⟨200 + 1 + 1, ?_⟩
  obtain ⟨p, hp⟩ : ∃ p, p = matP m n := ⟨_, rfl⟩
  have hl := matP_length m n
  have hi : ∀ k, 100 ≤ k → impl_MatchingAt.f k m n = some p := fun k hk => by rw [hp]; exact (match_P m n k hk).1
  have hs : ∀ k, 100 ≤ k → spec_MatchingAt.f k m n = some p := fun k hk => by rw [hp]; exact (match_P m n k hk).2
  rw [← hp] at hl
  clear hp
  obtain ⟨l, b⟩ := p
  simp only at hl
  unfold laws_FnExactMatchingAt.f
  rw [hs _ (by omega), hi _ (by omega)]
  simp only [Option.bind_some]
  rw [eqInt64S_self l _ (by omega) (by omega), Option.bind_some, if_pos rfl, show (b != b) = false by simp]
  simp only [laws_FnExactMatchingAt.j0]
  rw [if_neg (by simp), markInt64S_eq l 1 _ (by omega) (by omega) (by omega) (by omega), Option.bind_some, heldInt64S_marks 1 l.length _ (by omega) (by omega) (by omega) (by omega), Option.bind_some, if_neg (by omega), if_pos rfl, hi _ (by omega)]
  simp only [Option.bind_some]
  rw [eqInt64S_self l _ (by omega) (by omega), Option.bind_some, if_pos rfl, show (b != b) = false by simp]
  simp only [laws_FnExactMatchingAt.j1]
  rw [if_neg (by simp), heldInt64S_marks 1 l.length _ (by omega) (by omega) (by omega) (by omega), Option.bind_some, if_neg (by omega), if_pos rfl]

end Go.Proofs.Ytmffjekpnibnfaa.Pure
