/- A matching pairs each face with another one, and matchings with different numbers are different. No condition: for every input that the statement lets in. -/
import Derived.Test.YtmffjekpnibnfaaPFnMatchingx5
namespace Go.Proofs.Ytmffjekpnibnfaa.Pure
open Go.RowKit Go.Proofs.Ytmffjekpnibnfaa.PFnMatching Go.Proofs.YtmffjekpnibnfaaW.PrintWords Go.Proofs.YtmffjekpnibnfaaW.PrintLast

set_option linter.unusedSimpArgs false
set_option linter.unusedVariables false
theorem w64 (x : Int) (h0 : -9223372036854775808 ≤ x) (h1 : x ≤ 9223372036854775807) : wrap64 x = x := by
  unfold wrap64
  omega
theorem w64n (n : Nat) (h : n ≤ 9223372036854775807) : wrap64 (n : Int) = (n : Int) := w64 _ (by omega) (by omega)
theorem rd_nat (l : List Int) (i : Nat) (h : i < l.length) : rd l (i : Int) = l[i] := by
  simp [rd, List.getD, List.getElem?_eq_getElem h]
theorem succ_k {k n : Nat} (h : n < k) : ∃ m, k = m + 1 := ⟨k - 1, by omega⟩
theorem cast_succ (i : Nat) : ((i : Int) + 1) = ((i + 1 : Nat) : Int) := by omega
theorem drop_rd (l : List Int) (k : Nat) (h : k < l.length) : l.drop k = rd l (k : Int) :: l.drop (k + 1) := by
  rw [List.drop_eq_getElem_cons h, rd_nat l k h]


theorem dbyte_of (x : Int) (h : (Lit.int .u8 x).wf = true) : 0 ≤ x ∧ x ≤ 255 := by
  simpa [Lit.wf, IntKind.min, IntKind.max, IntKind.signed, IntKind.bits] using h
theorem dbyte_at (b : List Int) (hb : ∀ x ∈ b, (Lit.int .u8 x).wf = true) (i : Nat) (hi : i < b.length) : 0 ≤ rd b i ∧ rd b i ≤ 255 := by
  refine dbyte_of _ (hb _ ?_)
  rw [rd_nat b i hi]
  exact List.getElem_mem hi
theorem from_step (c x : Int) (h0 : 0 ≤ c) (h1 : c < 2147483647) (x0 : 0 ≤ x) (x1 : x ≤ 255) : 0 ≤ Int.tmod (wrap64 (wrap64 (c * 37) + wrap64 x)) 2147483647 ∧ Int.tmod (wrap64 (wrap64 (c * 37) + wrap64 x)) 2147483647 < 2147483647 := by
  rw [w64 (c * 37) (by omega) (by omega), w64 x (by omega) (by omega), w64 (c * 37 + x) (by omega) (by omega)]
  exact ⟨Int.tmod_nonneg _ (by omega), Int.tmod_lt_of_pos _ (by omega)⟩
theorem from_l0 (b : List Int) (hb : ∀ x ∈ b, (Lit.int .u8 x).wf = true) (hl : b.length ≤ 4096) : ∀ (d i k : Nat) (c : Int), i + d = b.length → d < k → 0 ≤ c → c < 2147483647 → ∃ c', spec_l01From.l0 k b (i : Int) b 0 c = some (b, 0, c') ∧ 0 ≤ c' ∧ c' < 2147483647 := by
  intro d
  induction d with
  | zero =>
    intro i k c hi hk h0 h1
    obtain ⟨k, rfl⟩ := succ_k hk
    simp only [spec_l01From.l0]
    rw [if_neg (by omega)]
    exact ⟨c, rfl, h0, h1⟩
  | succ d ih =>
    intro i k c hi hk h0 h1
    obtain ⟨k, rfl⟩ := succ_k hk
    simp only [spec_l01From.l0]
    rw [if_pos (by omega)]
    by_cases c4 : (i : Int) < 64
    · obtain ⟨x0, x1⟩ := dbyte_at b hb i (by omega)
      obtain ⟨s0, s1⟩ := from_step c _ h0 h1 x0 x1
      rw [if_pos c4, if_pos (by omega), w64 ((i : Int) + 1) (by omega) (by omega), cast_succ]
      exact ih (i + 1) k _ (by omega) (by omega) s0 s1
    · rw [if_neg c4]
      exact ⟨c, rfl, h0, h1⟩
theorem from_ok (b : List Int) (hb : ∀ x ∈ b, (Lit.int .u8 x).wf = true) (hl : b.length ≤ 4096) (k : Nat) (hk : b.length < k) : ∃ c, spec_l01From.f k b = some (b, 0, c) ∧ 0 ≤ c ∧ c < 2147483647 :=
  from_l0 b hb hl b.length 0 k 97531 (by omega) hk (by omega) (by omega)
theorem next_seed (c : Int) (h0 : 0 ≤ c) (h1 : c < 2147483647) : 0 ≤ Int.tmod (wrap64 (wrap64 (c * 48271) + 11)) 2147483647 ∧ Int.tmod (wrap64 (wrap64 (c * 48271) + 11)) 2147483647 < 2147483647 := by
  rw [w64 (c * 48271) (by omega) (by omega), w64 (c * 48271 + 11) (by omega) (by omega)]
  exact ⟨Int.tmod_nonneg _ (by omega), Int.tmod_lt_of_pos _ (by omega)⟩
theorem next_ok (b : List Int) (hb : ∀ x ∈ b, (Lit.int .u8 x).wf = true) (hl : b.length ≤ 4096) (i c a : Int) (hi : 0 ≤ i) (h0 : 0 ≤ c) (h1 : c < 2147483647) :
    ∃ r i' c', spec_l01Next.f b i c a = some (r, i', c') ∧ 0 ≤ r ∧ (r < a ∨ r = 0) ∧ 0 ≤ i' ∧ 0 ≤ c' ∧ c' < 2147483647 := by
  unfold spec_l01Next.f
  obtain ⟨s0, s1⟩ := next_seed c h0 h1
  generalize Int.tmod (wrap64 (wrap64 (c * 48271) + 11)) 2147483647 = s at s0 s1 ⊢
  by_cases a1 : a ≤ 1
  · rw [if_pos a1]
    exact ⟨0, i, c, rfl, by omega, Or.inr rfl, hi, h0, h1⟩
  · rw [if_neg a1]
    have an : ¬ a = 0 := by omega
    have q0 : 0 ≤ Int.tdiv s 11 := Int.tdiv_nonneg s0 (by omega)
    have q1 : Int.tdiv s 11 ≤ 2147483647 := by rw [Int.tdiv_eq_ediv_of_nonneg s0]; omega
    generalize Int.tdiv s 11 = q at q0 q1 ⊢
    by_cases c1 : i < (b.length : Int)
    · obtain ⟨j, rfl⟩ : ∃ j : Nat, i = j := ⟨i.toNat, by omega⟩
      obtain ⟨x0, x1⟩ := dbyte_at b hb j (by omega)
      have b1 : -9223372036854775808 ≤ (j : Int) + 1 ∧ (j : Int) + 1 ≤ 9223372036854775807 := by omega
      have b2 : -9223372036854775808 ≤ (j : Int) + 1 - 1 ∧ (j : Int) + 1 - 1 ≤ 9223372036854775807 := by omega
      have e2 : (j : Int) + 1 - 1 = (j : Int) := by omega
      have b3 : 0 ≤ (j : Int) + 1 := by omega
      rw [w64 ((j : Int) + 1) b1.1 b1.2, w64 ((j : Int) + 1 - 1) b2.1 b2.2, e2]
      generalize rd b (j : Int) = x at x0 x1 ⊢
      have t0 := Int.tmod_nonneg a x0
      have t1 := Int.tmod_lt_of_pos x (show 0 < a by omega)
      have t2 := Int.tmod_nonneg a (show 0 ≤ q + x by omega)
      have t3 := Int.tmod_lt_of_pos (q + x) (show 0 < a by omega)
      have b4 : -9223372036854775808 ≤ x ∧ x ≤ 9223372036854775807 := by omega
      have b5 : -9223372036854775808 ≤ q ∧ q ≤ 9223372036854775807 := by omega
      have b6 : -9223372036854775808 ≤ q + x ∧ q + x ≤ 9223372036854775807 := by omega
      rw [w64 x b4.1 b4.2, w64 q b5.1 b5.2, w64 (q + x) b6.1 b6.2, if_pos c1, if_pos hi]
      by_cases c2 : a ≤ 256
      · rw [if_pos c2]
        by_cases c3 : ((j : Int) + 1).tmod 2 = 0
        · rw [if_pos c3, if_pos hi, if_pos c1, if_neg an]
          exact ⟨_, _, _, rfl, t0, Or.inl t1, b3, s0, s1⟩
        · rw [if_neg c3, if_neg an]
          exact ⟨_, _, _, rfl, t2, Or.inl t3, b3, s0, s1⟩
      · rw [if_neg c2, if_neg an]
        exact ⟨_, _, _, rfl, t2, Or.inl t3, b3, s0, s1⟩
    · have b5 : -9223372036854775808 ≤ q ∧ q ≤ 9223372036854775807 := by omega
      rw [if_neg c1, if_neg an, w64 q b5.1 b5.2]
      exact ⟨_, _, _, rfl, Int.tmod_nonneg a q0, Or.inl (Int.tmod_lt_of_pos q (by omega)), hi, s0, s1⟩

def dM : Nat → Int
  | 0 => 1
  | h + 1 => (2 * (h : Int) + 1) * dM h
theorem dM_pos : ∀ h : Nat, h ≤ 8 → 0 < dM h ∧ dM h ≤ 2027025 := by decide +kernel
theorem dM_impl : ∀ h : Nat, h ≤ 8 → impl_matchings.f 20 (2 * (h : Int)) = some (dM h) := by decide +kernel
theorem dM_spec : ∀ h : Nat, h ≤ 8 → spec_l16Matchings.f 20 (2 * (h : Int)) = some (dM h) := by decide +kernel
theorem rd_in (l : List Int) (i : Nat) (h : i < l.length) : rd l (i : Int) ∈ l := by
  rw [rd_nat l i h]
  exact List.getElem_mem h
theorem mem_next (L : List Int) (q : Nat) (x : Int) (h : x ∈ (L.take (q + 1) ++ L.drop (q + 1 + 1)).drop 1) : x ∈ L := by
  rcases List.mem_append.1 (List.mem_of_mem_drop h) with h | h
  · exact List.mem_of_mem_take h
  · exact List.mem_of_mem_drop h
theorem len_next (L : List Int) (q : Nat) (h : q + 1 < L.length) : ((L.take (q + 1) ++ L.drop (q + 1 + 1)).drop 1).length = L.length - 2 := by
  simp
  omega
/-- One step: which number, how many are left. -/
theorem step_nat (h : Nat) (hh : h + 1 ≤ 8) (n : Int) (n0 : 0 ≤ n) (n1 : n < dM (h + 1)) : ∃ q : Nat, n.tdiv (dM h) = q ∧ (q : Int) < 2 * (h : Int) + 1 ∧ 0 ≤ n.tmod (dM h) ∧ n.tmod (dM h) < dM h := by
  obtain ⟨p0, p1⟩ := dM_pos h (by omega)
  rw [Int.tdiv_eq_ediv_of_nonneg n0, Int.tmod_eq_emod_of_nonneg n0]
  have d0 := Int.ediv_nonneg n0 (Int.le_of_lt p0)
  have d1 : n / dM h < 2 * (h : Int) + 1 := Int.ediv_lt_of_lt_mul p0 n1
  exact ⟨(n / dM h).toNat, by omega, by omega, Int.emod_nonneg _ (by omega), Int.emod_lt_of_pos _ p0⟩
def matR : Nat → Int → List Int → List Int → List Int
  | 0, _, _, O => O
  | h + 1, n, L, O => matR h (n.tmod (dM h)) ((L.take ((n.tdiv (dM h)).toNat + 1) ++ L.drop ((n.tdiv (dM h)).toNat + 1 + 1)).drop 1) ((O.set (rd L 0).toNat (rd L (n.tdiv (dM h) + 1))).set (rd L (n.tdiv (dM h) + 1)).toNat (rd L 0))
theorem matR_length : ∀ (h : Nat) (n : Int) (L O : List Int), (matR h n L O).length = O.length
  | 0, _, _, _ => rfl
  | h + 1, n, L, O => by unfold matR; rw [matR_length h, List.length_set, List.length_set]
theorem match_both : ∀ (h : Nat), h ≤ 8 → ∀ (L O : List Int) (n : Int) (k : Nat), L.length = 2 * h → O.length ≤ 100 → 0 ≤ n → n < dM h → (∀ x ∈ L, 0 ≤ x ∧ x < (O.length : Int)) → h + 21 ≤ k →
    impl_matchingAt.l0 k n L O = some (matR h n L O) ∧ spec_l16Matching.l0 k n L O = some (matR h n L O) := by
  intro h
  induction h with
  | zero =>
    intro hh L O n k hl ho n0 n1 hm hk
    obtain ⟨k, rfl⟩ := succ_k (show 0 < k by omega)
    simp only [impl_matchingAt.l0, spec_l16Matching.l0, matR]
    rw [if_neg (by omega), if_neg (by omega)]
    exact ⟨rfl, rfl⟩
  | succ h ih =>
    intro hh L O n k hl ho n0 n1 hm hk
    obtain ⟨k, rfl⟩ := succ_k (show 0 < k by omega)
    obtain ⟨q, hq, q1, m0, m1⟩ := step_nat h hh n n0 n1
    obtain ⟨p0, p1⟩ := dM_pos h (by omega)
    have hn1 := (dM_pos (h + 1) hh).2
    have b1 : (-9223372036854775808 ≤ (L.length : Int) - 2 ∧ (L.length : Int) - 2 ≤ 9223372036854775807) ∧ (L.length : Int) - 2 = 2 * (h : Int) := by omega
    have b2 : (-9223372036854775808 ≤ (q : Int) ∧ (q : Int) ≤ 9223372036854775807) ∧ (-9223372036854775808 ≤ 1 + (q : Int) ∧ 1 + (q : Int) ≤ 9223372036854775807) ∧ 1 + (q : Int) = ((q + 1 : Nat) : Int) := by omega
    have b3 : (-9223372036854775808 ≤ ((q + 1 : Nat) : Int) + 1 ∧ ((q + 1 : Nat) : Int) + 1 ≤ 9223372036854775807) ∧ ((q + 1 : Nat) : Int) + 1 = ((q + 1 + 1 : Nat) : Int) := by omega
    have g1 : impl_matchings.f k (2 * (h : Int)) = some (dM h) := at_rounds (g := fun k => impl_matchings.f k (2 * (h : Int))) (fun k => impl_matchings.mono _ k) (show 20 ≤ k by omega) (dM_impl h (by omega))
    have g2 : spec_l16Matchings.f k (2 * (h : Int)) = some (dM h) := at_rounds (g := fun k => spec_l16Matchings.f k (2 * (h : Int))) (fun k => spec_l16Matchings.mono _ k) (show 20 ≤ k by omega) (dM_spec h (by omega))
    have ma := hm _ (rd_in L 0 (by omega))
    have mb := hm _ (rd_in L (q + 1) (by omega))
    rw [show (((0 : Nat) : Int)) = 0 from rfl] at ma
    have hnext := ih (by omega) ((L.take (q + 1) ++ L.drop (q + 1 + 1)).drop 1) ((O.set (rd L 0).toNat (rd L ((q + 1 : Nat) : Int))).set (rd L ((q + 1 : Nat) : Int)).toNat (rd L 0)) (n.tmod (dM h)) k
      (by rw [len_next L q (by omega)]; omega) (by rw [List.length_set, List.length_set]; exact ho) m0 m1 (fun x hx => by rw [List.length_set, List.length_set]; exact hm x (mem_next L q x hx)) (by omega)
    have hR : matR (h + 1) n L O = matR h (n.tmod (dM h)) ((L.take (q + 1) ++ L.drop (q + 1 + 1)).drop 1) ((O.set (rd L 0).toNat (rd L ((q + 1 : Nat) : Int))).set (rd L ((q + 1 : Nat) : Int)).toNat (rd L 0)) := by
      simp only [matR]
      rw [hq, Int.toNat_natCast]
      rfl
    rw [hR]
    have hdr : (L.take (q + 1)).drop 1 ++ L.drop (q + 1 + 1) = (L.take (q + 1) ++ L.drop (q + 1 + 1)).drop 1 := (List.drop_append_of_le_length (by simp; omega)).symm
    have c1 : (0 < L.length) := by omega
    have c2 : ((L.length : Int) > 0) := by omega
    have c3 : ¬ dM h = 0 := by omega
    have c4 : (0 : Int) < (L.length : Int) := by omega
    have c5 : (0 : Int) ≤ ((q + 1 : Nat) : Int) := by omega
    have c6 : ((q + 1 : Nat) : Int) < (L.length : Int) := by omega
    have c7 : (1 : Int) ≤ ((q + 1 : Nat) : Int) := by omega
    have c8 : ((q + 1 : Nat) : Int) ≤ (L.length : Int) := by omega
    have c9 : (0 : Int) ≤ ((q + 1 + 1 : Nat) : Int) := by omega
    have c10 : ((q + 1 + 1 : Nat) : Int) ≤ (L.length : Int) := by omega
    have l1 : (([] : List Int).length + ((L.take (q + 1)).drop 1).length < 17592186044416) := by simp; omega
    have l2 : (([] ++ (L.take (q + 1)).drop 1 : List Int).length + (L.drop (q + 1 + 1)).length < 17592186044416) := by simp; omega
    have d1 : (0 < dM h ∧ dM h ≤ 1000000000 ∧ 0 ≤ n ∧ n ≤ 1000000000) := ⟨p0, by omega, n0, by omega⟩
    have e1 : wrap64 ((L.length : Int) - 2) = 2 * (h : Int) := (w64 _ b1.1.1 b1.1.2).trans b1.2
    have w1 := w64 (q : Int) b2.1.1 b2.1.2
    have w2 : wrap64 (1 + (q : Int)) = ((q + 1 : Nat) : Int) := (w64 _ b2.2.1.1 b2.2.1.2).trans b2.2.2
    have w3 : wrap64 (((q + 1 : Nat) : Int) + 1) = ((q + 1 + 1 : Nat) : Int) := (w64 _ b3.1.1 b3.1.2).trans b3.2
    refine ⟨?_, ?_⟩
    · simp only [impl_matchingAt.l0]
      rw [if_pos c1, e1, g1, Option.bind_some, hq, Int.toNat_natCast, show ((q : Int) + 1) = ((q + 1 : Nat) : Int) from rfl, if_pos ⟨d1, c6, ma, mb⟩]
      exact hnext.1
    · simp only [spec_l16Matching.l0]
      rw [if_pos c2, e1, g2, Option.bind_some, if_neg c3, if_pos c4, hq, w1, w2, w3, if_pos c5, if_pos c6, if_pos ma.1, if_pos ma.2, if_pos mb.1, if_pos mb.2, Option.bind_some, if_pos c7, if_pos c8, Int.toNat_natCast, Option.bind_some, if_pos l1, Option.bind_some, if_pos c9, if_pos c10, Int.toNat_natCast, Option.bind_some, if_pos l2, List.nil_append, hdr]
      exact hnext.2
theorem fresh_both : ∀ h : Nat, h ≤ 8 → impl_counting.f 20 (2 * (h : Int)) = some ((List.range (2 * h)).map fun i : Nat => (i : Int)) ∧ spec_l08Fresh.f 20 (2 * (h : Int)) = some ((List.range (2 * h)).map fun i : Nat => (i : Int)) := by decide +kernel
def matL (h : Nat) (n : Int) : List Int := matR h n ((List.range (2 * h)).map fun i : Nat => (i : Int)) (List.replicate (2 * h) 0)
theorem matL_length (h : Nat) (n : Int) : (matL h n).length = 2 * h := by unfold matL; rw [matR_length]; simp
theorem match_at (h : Nat) (hh : h ≤ 8) (n : Int) (n0 : 0 ≤ n) (n1 : n < dM h) (k : Nat) (hk : 100 ≤ k) :
    impl_matchingAt.f k (2 * (h : Int)) n = some (matL h n) ∧ spec_l16Matching.f k (2 * (h : Int)) n = some (matL h n) := by
  have f1 := at_rounds (g := fun k => impl_counting.f k (2 * (h : Int))) (fun k => impl_counting.mono _ k) (show 20 ≤ k by omega) (fresh_both h hh).1
  have f2 := at_rounds (g := fun k => spec_l08Fresh.f k (2 * (h : Int))) (fun k => spec_l08Fresh.mono _ k) (show 20 ≤ k by omega) (fresh_both h hh).2
  have hm := match_both h hh ((List.range (2 * h)).map fun i : Nat => (i : Int)) (List.replicate (2 * h) 0) n k (by simp) (by simp; omega) n0 n1 (fun x hx => by
    obtain ⟨i, hi, rfl⟩ := List.mem_map.1 hx
    have := List.mem_range.1 hi
    rw [List.length_replicate]
    omega) (by omega)
  have e : (2 * (h : Int)).toNat = 2 * h := by omega
  unfold impl_matchingAt.f spec_l16Matching.f
  simp only [f1, f2, Option.bind_some]
  rw [if_pos ⟨by omega, by omega, by simp; omega⟩, if_pos (by omega), if_pos (by omega), e]
  exact hm
/-- What MatchingAt hands back. -/
def matP (m n : Int) : List Int × Bool := if (0 ≤ m ∧ m ≤ 16 ∧ m.tmod 2 = 0) ∧ 0 ≤ n ∧ n < dM (m / 2).toNat then (matL (m / 2).toNat n, true) else ([], false)
theorem matP_pos (h : Nat) (hh : h ≤ 8) (n : Int) (n0 : 0 ≤ n) (n1 : n < dM h) : matP (2 * (h : Int)) n = (matL h n, true) := by
  unfold matP
  have e : ((2 * (h : Int)) / 2).toNat = h := by omega
  have e2 : (2 * (h : Int)).tmod 2 = 0 := by rw [Int.tmod_eq_emod_of_nonneg (by omega)]; omega
  rw [e, if_pos ⟨⟨by omega, by omega, e2⟩, n0, n1⟩]
theorem count_impl (m : Int) : impl_isEven.f m = some (decide (0 ≤ m ∧ m ≤ 16 ∧ m.tmod 2 = 0)) := by
  unfold impl_isEven.f impl_inRange.f
  by_cases h0 : 0 ≤ m
  · by_cases h1 : m ≤ 16
    · by_cases h2 : m.tmod 2 = 0
      · rw [decide_eq_true (show 0 ≤ m ∧ m ≤ 16 ∧ m.tmod 2 = 0 from ⟨h0, h1, h2⟩), if_pos h0, decide_eq_true h1, Option.bind_some, if_pos rfl, h2]
        rfl
      · rw [decide_eq_false (show ¬ (0 ≤ m ∧ m ≤ 16 ∧ m.tmod 2 = 0) from fun hx => h2 hx.2.2), if_pos h0, decide_eq_true h1, Option.bind_some, if_pos rfl, beq_eq_false_iff_ne.2 h2]
    · rw [decide_eq_false (show ¬ (0 ≤ m ∧ m ≤ 16 ∧ m.tmod 2 = 0) from fun hx => h1 hx.2.1), if_pos h0, decide_eq_false h1]
      rfl
  · rw [decide_eq_false (show ¬ (0 ≤ m ∧ m ≤ 16 ∧ m.tmod 2 = 0) from fun hx => h0 hx.1), if_neg h0]
    rfl
theorem count_odd : ∀ m, m < 17 → ¬ ((m : Nat) : Int).tmod 2 = 0 → ((m : Nat) : Int).tmod 2 = 1 := by decide
theorem count_spec (m : Int) (k : Nat) (hk : 20 ≤ k) : spec_MatchingCount.f k m = some (if 0 ≤ m ∧ m ≤ 16 ∧ m.tmod 2 = 0 then dM (m / 2).toNat else -1) := by
  unfold spec_MatchingCount.f spec_l07In.f
  by_cases h0 : 0 ≤ m
  · by_cases h1 : m ≤ 16
    · obtain ⟨m', rfl⟩ : ∃ m' : Nat, m = m' := ⟨m.toNat, by omega⟩
      by_cases h2 : (m' : Int).tmod 2 = 0
      · obtain ⟨h, hh⟩ : ∃ h : Nat, (m' : Int) = 2 * (h : Int) := ⟨m' / 2, by
          rw [Int.tmod_eq_emod_of_nonneg h0] at h2
          omega⟩
        have e : ((m' : Int) / 2).toNat = h := by omega
        have g2 := at_rounds (g := fun k => spec_l16Matchings.f k (2 * (h : Int))) (fun k => spec_l16Matchings.mono _ k) hk (dM_spec h (by omega))
        rw [if_pos (show 0 ≤ (m' : Int) ∧ (m' : Int) ≤ 16 ∧ (m' : Int).tmod 2 = 0 from ⟨h0, h1, h2⟩), e, if_pos h0, decide_eq_true h1, Option.bind_some, if_pos rfl, h2, if_neg (by decide), hh, g2]
        rfl
      · have h21 := count_odd m' (by omega) h2
        rw [if_neg (show ¬ (0 ≤ (m' : Int) ∧ (m' : Int) ≤ 16 ∧ (m' : Int).tmod 2 = 0) from fun hx => h2 hx.2.2), if_pos h0, decide_eq_true h1, Option.bind_some, if_pos rfl, if_pos h21]
    · rw [if_neg (show ¬ (0 ≤ m ∧ m ≤ 16 ∧ m.tmod 2 = 0) from fun hx => h1 hx.2.1), if_pos h0, decide_eq_false h1]
      rfl
  · rw [if_neg (show ¬ (0 ≤ m ∧ m ≤ 16 ∧ m.tmod 2 = 0) from fun hx => h0 hx.1), if_neg h0]
    rfl
theorem in_range (n c : Int) (hc : -1 ≤ c ∧ c ≤ 2027025) : impl_inRange.f n 0 (wrap64 (c - 1)) = some (decide (0 ≤ n ∧ n < c)) ∧ spec_l07In.f n 0 (wrap64 (c - 1)) = some (decide (0 ≤ n ∧ n < c)) := by
  rw [w64 (c - 1) (by omega) (by omega)]
  unfold impl_inRange.f spec_l07In.f
  by_cases n0 : 0 ≤ n
  · by_cases n1 : n ≤ c - 1
    · rw [decide_eq_true (show 0 ≤ n ∧ n < c by omega), if_pos n0, decide_eq_true n1]
      exact ⟨rfl, rfl⟩
    · rw [decide_eq_false (show ¬ (0 ≤ n ∧ n < c) by omega), if_pos n0, decide_eq_false n1]
      exact ⟨rfl, rfl⟩
  · rw [decide_eq_false (show ¬ (0 ≤ n ∧ n < c) by omega), if_neg n0]
    exact ⟨rfl, rfl⟩
theorem match_P (m n : Int) (k : Nat) (hk : 100 ≤ k) : impl_MatchingAt.f k m n = some (matP m n) ∧ spec_MatchingAt.f k m n = some (matP m n) := by
  unfold impl_MatchingAt.f spec_MatchingAt.f
  rw [count_impl, count_spec m k (by omega)]
  simp only [Option.bind_some]
  by_cases hm : 0 ≤ m ∧ m ≤ 16 ∧ m.tmod 2 = 0
  · obtain ⟨h, rfl⟩ : ∃ h : Nat, m = 2 * (h : Int) := ⟨(m / 2).toNat, by
      have := hm.2.2
      rw [Int.tmod_eq_emod_of_nonneg hm.1] at this
      omega⟩
    have e : ((2 * (h : Int)) / 2).toNat = h := by omega
    obtain ⟨p0, p1⟩ := dM_pos h (by omega)
    have g1 := at_rounds (g := fun k => impl_matchings.f k (2 * (h : Int))) (fun k => impl_matchings.mono _ k) (show 20 ≤ k by omega) (dM_impl h (by omega))
    obtain ⟨i1, i2⟩ := in_range n (dM h) ⟨by omega, p1⟩
    rw [decide_eq_true hm, if_pos rfl, if_pos hm, e, g1]
    simp only [Option.bind_some]
    rw [i1, i2]
    simp only [Option.bind_some]
    by_cases hn : 0 ≤ n ∧ n < dM h
    · obtain ⟨a1, a2⟩ := match_at h (by omega) n hn.1 hn.2 k hk
      rw [decide_eq_true hn, if_pos rfl, if_pos rfl, a1, a2, matP_pos h (by omega) n hn.1 hn.2]
      exact ⟨rfl, rfl⟩
    · have hp : matP (2 * (h : Int)) n = ([], false) := by unfold matP; rw [e]; exact if_neg fun hx => hn hx.2
      rw [decide_eq_false hn, hp]
      exact ⟨rfl, rfl⟩
  · have hp : matP m n = ([], false) := by unfold matP; exact if_neg fun hx => hm hx.1
    obtain ⟨i1, i2⟩ := in_range n (-1) ⟨by omega, by omega⟩
    rw [decide_eq_false hm, if_neg hm, hp, i2, decide_eq_false (show ¬ (0 ≤ n ∧ n < -1) by omega)]
    exact ⟨rfl, rfl⟩
theorem matP_length (m n : Int) : (matP m n).1.length ≤ 16 := by
  unfold matP
  by_cases h : (0 ≤ m ∧ m ≤ 16 ∧ m.tmod 2 = 0) ∧ 0 ≤ n ∧ n < dM (m / 2).toNat
  · rw [if_pos h]
    show (matL _ _).length ≤ 16
    rw [matL_length]
    omega
  · rw [if_neg h]
    simp

theorem rd_set (O : List Int) (a x v : Int) (a0 : 0 ≤ a) (a1 : a < (O.length : Int)) (x0 : 0 ≤ x) : rd (O.set a.toNat v) x = if x = a then v else rd O x := by
  obtain ⟨i, rfl⟩ : ∃ i : Nat, a = i := ⟨a.toNat, by omega⟩
  obtain ⟨j, rfl⟩ : ∃ j : Nat, x = j := ⟨x.toNat, by omega⟩
  simp only [rd, Int.toNat_natCast, List.getD]
  by_cases h : j = i
  · subst h
    rw [if_pos rfl, List.getElem?_set_self (by omega)]
    rfl
  · rw [if_neg (by omega), List.getElem?_set_ne (by omega)]
theorem split_L (L : List Int) (q : Nat) (h : q + 1 < L.length) : ∃ X Y, X.length = q ∧ L = rd L 0 :: (X ++ rd L ((q + 1 : Nat) : Int) :: Y) ∧ (L.take (q + 1) ++ L.drop (q + 1 + 1)).drop 1 = X ++ Y := by
  match L, h with
  | a :: T, h =>
    have hT : q < T.length := by simp at h; omega
    refine ⟨T.take q, T.drop (q + 1), by simp; omega, ?_, by simp⟩
    have e1 : rd (a :: T) 0 = a := rfl
    have e2 : rd (a :: T) ((q + 1 : Nat) : Int) = T[q] := by
      simp [rd, List.getD, List.getElem?_eq_getElem hT]
    rw [e1, e2]
    congr 1
    rw [← List.drop_eq_getElem_cons hT, List.take_append_drop]
/-- The state of the rounds: the list's numbers are different and in range, and what is not in it any more is matched. -/
structure MInv (N : Int) (L O : List Int) : Prop where
  len : (O.length : Int) = N
  nd : L.Nodup
  rng : ∀ x ∈ L, 0 ≤ x ∧ x < N
  out : ∀ x, 0 ≤ x → x < N → x ∉ L → (0 ≤ rd O x ∧ rd O x < N) ∧ rd O x ≠ x ∧ rd O (rd O x) = x ∧ rd O x ∉ L
theorem nodup_mid (a b : Int) (X Y : List Int) (h : (a :: (X ++ b :: Y)).Nodup) : (X ++ Y).Nodup ∧ a ≠ b ∧ a ∉ X ++ Y ∧ b ∉ X ++ Y := by
  obtain ⟨h1, h2⟩ := List.nodup_cons.1 h
  have h3 : (b :: (X ++ Y)).Nodup := (List.perm_middle (a := b) (l₁ := X) (l₂ := Y)).nodup_iff.1 h2
  obtain ⟨h4, h5⟩ := List.nodup_cons.1 h3
  refine ⟨h5, fun e => h1 (by rw [e]; simp), fun hm => h1 ?_, h4⟩
  rcases List.mem_append.1 hm with hm | hm
  · exact List.mem_append.2 (Or.inl hm)
  · exact List.mem_append.2 (Or.inr (List.mem_cons.2 (Or.inr hm)))
theorem MInv.step {N : Int} {a b : Int} {X Y O : List Int} (h : MInv N (a :: (X ++ b :: Y)) O) : MInv N (X ++ Y) ((O.set a.toNat b).set b.toNat a) ∧ (∀ x, 0 ≤ x → x ≠ a → x ≠ b → rd ((O.set a.toNat b).set b.toNat a) x = rd O x) ∧ rd ((O.set a.toNat b).set b.toNat a) a = b ∧ a ≠ b ∧ a ∉ X ++ Y := by
  obtain ⟨n1, n2, n3, n4⟩ := nodup_mid a b X Y h.nd
  have ra := h.rng a (by simp)
  have rb := h.rng b (by simp)
  have hl := h.len
  have g : ∀ x, 0 ≤ x → rd ((O.set a.toNat b).set b.toNat a) x = if x = b then a else if x = a then b else rd O x := fun x hx => by
    rw [rd_set _ b x a rb.1 (by rw [List.length_set]; omega) hx, rd_set O a x b ra.1 (by omega) hx]
  have gb : rd ((O.set a.toNat b).set b.toNat a) b = a := by rw [g b rb.1, if_pos rfl]
  have ga : rd ((O.set a.toNat b).set b.toNat a) a = b := by rw [g a ra.1, if_neg n2, if_pos rfl]
  have gx : ∀ x, 0 ≤ x → x ≠ a → x ≠ b → rd ((O.set a.toNat b).set b.toNat a) x = rd O x := fun x hx ha hb => by rw [g x hx, if_neg hb, if_neg ha]
  refine ⟨⟨by rw [List.length_set, List.length_set]; exact hl, n1, fun x hx => h.rng x ?_, fun x x0 x1 hx => ?_⟩, gx, ga, n2, n3⟩
  · rcases List.mem_append.1 hx with hx | hx
    · exact List.mem_cons.2 (Or.inr (List.mem_append.2 (Or.inl hx)))
    · exact List.mem_cons.2 (Or.inr (List.mem_append.2 (Or.inr (List.mem_cons.2 (Or.inr hx)))))
  · by_cases ha : x = a
    · subst ha
      rw [ga, gb]
      exact ⟨rb, fun e => n2 e.symm, rfl, n4⟩
    · by_cases hb : x = b
      · subst hb
        rw [gb, ga]
        exact ⟨ra, n2, rfl, n3⟩
      · have hx2 : x ∉ a :: (X ++ b :: Y) := by
          intro hm
          rcases List.mem_cons.1 hm with e | hm
          · exact ha e
          · rcases List.mem_append.1 hm with hm | hm
            · exact hx (List.mem_append.2 (Or.inl hm))
            · rcases List.mem_cons.1 hm with e | hm
              · exact hb e
              · exact hx (List.mem_append.2 (Or.inr hm))
        obtain ⟨o1, o2, o3, o4⟩ := h.out x x0 x1 hx2
        have oa : rd O x ≠ a := fun e => o4 (by rw [e]; simp)
        have ob : rd O x ≠ b := fun e => o4 (by rw [e]; simp)
        rw [gx x x0 ha hb, gx _ o1.1 oa ob]
        refine ⟨o1, o2, o3, fun hm => o4 ?_⟩
        rcases List.mem_append.1 hm with hm | hm
        · exact List.mem_cons.2 (Or.inr (List.mem_append.2 (Or.inl hm)))
        · exact List.mem_cons.2 (Or.inr (List.mem_append.2 (Or.inr (List.mem_cons.2 (Or.inr hm)))))
theorem matR_step (h : Nat) (hh : h + 1 ≤ 8) (n : Int) (n0 : 0 ≤ n) (n1 : n < dM (h + 1)) (N : Int) (L O : List Int) (hl : L.length = 2 * (h + 1)) (hi : MInv N L O) :
    ∃ (q : Nat) (X Y : List Int) (a b : Int), n.tdiv (dM h) = q ∧ q + 1 < L.length ∧ rd L ((q + 1 : Nat) : Int) = b ∧ rd L 0 = a ∧ 0 ≤ n.tmod (dM h) ∧ n.tmod (dM h) < dM h ∧ (X ++ Y).length = 2 * h ∧ L = a :: (X ++ b :: Y) ∧ MInv N (X ++ Y) ((O.set a.toNat b).set b.toNat a) ∧ a ∉ X ++ Y ∧ (∀ x, 0 ≤ x → x ∉ L → rd ((O.set a.toNat b).set b.toNat a) x = rd O x) ∧ rd ((O.set a.toNat b).set b.toNat a) a = b ∧ matR (h + 1) n L O = matR h (n.tmod (dM h)) (X ++ Y) ((O.set a.toNat b).set b.toNat a) := by
  obtain ⟨q, hq, q1, m0, m1⟩ := step_nat h hh n n0 n1
  obtain ⟨X, Y, hX, hL, hd⟩ := split_L L q (by omega)
  have hi2 := hi
  rw [hL] at hi2
  obtain ⟨s1, s2, s3, s4, s5⟩ := hi2.step
  refine ⟨q, X, Y, rd L 0, rd L ((q + 1 : Nat) : Int), hq, by omega, rfl, rfl, m0, m1, ?_, hL, s1, s5, fun x hx hm => s2 x hx (fun e => hm ?_) (fun e => hm ?_), s3, ?_⟩
  · rw [← hd, len_next L q (by omega)]
    omega
  · rw [hL, e]
    exact List.mem_cons.2 (Or.inl rfl)
  · rw [hL, e]
    exact List.mem_cons.2 (Or.inr (List.mem_append.2 (Or.inr (List.mem_cons.2 (Or.inl rfl)))))
  · simp only [matR]
    rw [hq, Int.toNat_natCast, show ((q : Int) + 1) = ((q + 1 : Nat) : Int) from rfl, hd]
theorem matR_inv : ∀ (h : Nat), h ≤ 8 → ∀ (n : Int) (N : Int) (L O : List Int), 0 ≤ n → n < dM h → L.length = 2 * h → MInv N L O → MInv N [] (matR h n L O) ∧ (∀ x, 0 ≤ x → x ∉ L → rd (matR h n L O) x = rd O x) := by
  intro h
  induction h with
  | zero =>
    intro hh n N L O n0 n1 hl hi
    have : L = [] := List.length_eq_zero_iff.1 (by omega)
    subst this
    exact ⟨hi, fun _ _ _ => rfl⟩
  | succ h ih =>
    intro hh n N L O n0 n1 hl hi
    obtain ⟨q, X, Y, a, b, hq, q1, hb, ha, m0, m1, hlen, hL, s1, s5, s2, s3, hR⟩ := matR_step h hh n n0 n1 N L O hl hi
    obtain ⟨r1, r2⟩ := ih (by omega) _ N (X ++ Y) _ m0 m1 hlen s1
    rw [hR]
    refine ⟨r1, fun x hx hm => ?_⟩
    rw [r2 x hx (fun hx2 => hm (by
      rw [hL]
      rcases List.mem_append.1 hx2 with h1 | h1
      · exact List.mem_cons.2 (Or.inr (List.mem_append.2 (Or.inl h1)))
      · exact List.mem_cons.2 (Or.inr (List.mem_append.2 (Or.inr (List.mem_cons.2 (Or.inr h1))))))), s2 x hx hm]
theorem matR_ne : ∀ (h : Nat), h ≤ 8 → ∀ (n n' : Int) (N : Int) (L O : List Int), 0 ≤ n → n < dM h → 0 ≤ n' → n' < dM h → n ≠ n' → L.length = 2 * h → MInv N L O → matR h n L O ≠ matR h n' L O := by
  intro h
  induction h with
  | zero =>
    intro hh n n' N L O n0 n1 m0 m1 hne hl hi
    have e : dM 0 = 1 := rfl
    omega
  | succ h ih =>
    intro hh n n' N L O n0 n1 n0' n1' hne hl hi
    obtain ⟨q, X, Y, a, b, hq, q1, hb, ha, m0, m1, hlen, hL, s1, s5, s2, s3, hR⟩ := matR_step h hh n n0 n1 N L O hl hi
    obtain ⟨q', X', Y', a', b', hq', q1', hb', ha', m0', m1', hlen', hL', s1', s5', s2', s3', hR'⟩ := matR_step h hh n' n0' n1' N L O hl hi
    obtain rfl : a = a' := ha.symm.trans ha'
    by_cases hqq : q = q'
    · subst hqq
      obtain rfl : b = b' := hb.symm.trans hb'
      have hXY : X ++ Y = X' ++ Y' := by
        have h1 := List.cons.inj (hL.symm.trans hL')
        have h2 := h1.2
        obtain ⟨X1, Y1, e1, e2, e3⟩ := split_L L q q1
        obtain ⟨n1_, n2_, n3_, n4_⟩ := nodup_mid a b X Y (by rw [← hL]; exact hi.nd)
        obtain ⟨n1'', n2'', n3'', n4''⟩ := nodup_mid a b X' Y' (by rw [← hL']; exact hi.nd)
        have h3 := congrArg (fun l => List.erase l b) h2
        rw [List.erase_append_right _ (fun hm => n4_ (List.mem_append.2 (Or.inl hm))), List.erase_append_right _ (fun hm => n4'' (List.mem_append.2 (Or.inl hm))), List.erase_cons_head, List.erase_cons_head] at h3
        exact h3
      rw [hR, hR', ← hXY]
      refine ih (by omega) _ _ N (X ++ Y) _ m0 m1 m0' m1' (fun e => hne ?_) hlen s1
      have d1 := Int.mul_tdiv_add_tmod n (dM h)
      have d2 := Int.mul_tdiv_add_tmod n' (dM h)
      rw [hq] at d1
      rw [hq'] at d2
      rw [← d1, ← d2, e]
    · intro e
      have ra := (hi.rng a (by rw [hL]; exact List.mem_cons.2 (Or.inl rfl))).1
      have r1 := (matR_inv h (by omega) _ N (X ++ Y) _ m0 m1 hlen s1).2 a ra s5
      have r2 := (matR_inv h (by omega) _ N (X' ++ Y') _ m0' m1' hlen' s1').2 a ra s5'
      rw [← hR, s3] at r1
      rw [← hR', s3'] at r2
      have hbb : b = b' := r1.symm.trans ((congrArg (fun l => rd l a) e).trans r2)
      have hnd := hi.nd
      have i1 : L[q + 1]'q1 = b := by rw [← hb, rd_nat L (q + 1) q1]
      have i2 : L[q' + 1]'q1' = b' := by rw [← hb', rd_nat L (q' + 1) q1']
      have hpw := List.pairwise_iff_getElem.1 hnd
      rcases Nat.lt_or_gt_of_ne hqq with hlt | hlt
      · exact hpw (q + 1) (q' + 1) q1 q1' (by omega) (i1.trans (hbb.trans i2.symm))
      · exact hpw (q' + 1) (q + 1) q1' q1 (by omega) (i2.trans (hbb.symm.trans i1.symm))
theorem start_inv (h : Nat) : MInv (2 * (h : Int)) ((List.range (2 * h)).map fun i : Nat => (i : Int)) (List.replicate (2 * h) 0) := by
  refine ⟨by simp, ?_, fun x hx => ?_, fun x x0 x1 hx => ?_⟩
  · rw [List.Nodup, List.pairwise_map]
    exact (List.nodup_range (n := 2 * h)).imp fun hne e => hne (by omega)
  · obtain ⟨i, hi, rfl⟩ := List.mem_map.1 hx
    have := List.mem_range.1 hi
    omega
  · exact absurd (List.mem_map.2 ⟨x.toNat, List.mem_range.2 (by omega), by omega⟩) hx
theorem matL_inv (h : Nat) (hh : h ≤ 8) (n : Int) (n0 : 0 ≤ n) (n1 : n < dM h) (x : Int) (x0 : 0 ≤ x) (x1 : x < 2 * (h : Int)) : (0 ≤ rd (matL h n) x ∧ rd (matL h n) x < 2 * (h : Int)) ∧ rd (matL h n) x ≠ x ∧ rd (matL h n) (rd (matL h n) x) = x := by
  have hi := (matR_inv h hh n _ _ _ n0 n1 (by simp) (start_inv h)).1
  obtain ⟨a, b, c, _⟩ := hi.out x x0 x1 (by simp)
  exact ⟨a, b, c⟩
theorem matL_ne (h : Nat) (hh : h ≤ 8) (n n' : Int) (n0 : 0 ≤ n) (n1 : n < dM h) (m0 : 0 ≤ n') (m1 : n' < dM h) (hne : n ≠ n') : matL h n ≠ matL h n' :=
  matR_ne h hh n n' _ _ _ n0 n1 m0 m1 hne (by simp) (start_inv h)

theorem ints_l0 (a l : List Int) (ha : a.length = l.length) (hl : a.length ≤ 1048576) : ∀ (d i k : Nat), i + d = a.length → d < k → laws_w5Ints.l0 k a l (i : Int) = some (decide (a.drop i = l.drop i)) := by
  intro d
  induction d with
  | zero =>
    intro i k hi hk
    obtain ⟨k, rfl⟩ := succ_k hk
    simp only [laws_w5Ints.l0]
    rw [if_neg (by omega), List.drop_of_length_le (by omega), List.drop_of_length_le (by omega)]
    simp
  | succ d ih =>
    intro i k hi hk
    obtain ⟨k, rfl⟩ := succ_k hk
    simp only [laws_w5Ints.l0]
    rw [if_pos (by omega), if_pos (by omega), if_pos (by omega), w64 _ (by omega) (by omega), cast_succ, ih (i + 1) k (by omega) (by omega), drop_rd a i (by omega), drop_rd l i (by omega)]
    by_cases h : rd a (i : Int) = rd l (i : Int)
    · simp [h]
    · simp [h]
theorem ints_f (a l : List Int) (ha : a.length = l.length) (hl : a.length ≤ 1048576) (k : Nat) (hk : a.length < k) : laws_w5Ints.f k a l = some (decide (a = l)) := by
  unfold laws_w5Ints.f
  rw [if_pos (by omega)]
  have := ints_l0 a l ha hl a.length 0 k (by omega) hk
  simpa using this
theorem count_both (m : Int) (k : Nat) (hk : 20 ≤ k) : impl_MatchingCount.f k m = some (if 0 ≤ m ∧ m ≤ 16 ∧ m.tmod 2 = 0 then dM (m / 2).toNat else -1) := by
  unfold impl_MatchingCount.f
  rw [count_impl]
  by_cases hm : 0 ≤ m ∧ m ≤ 16 ∧ m.tmod 2 = 0
  · obtain ⟨h, rfl⟩ : ∃ h : Nat, m = 2 * (h : Int) := ⟨(m / 2).toNat, by
      have := hm.2.2
      rw [Int.tmod_eq_emod_of_nonneg hm.1] at this
      omega⟩
    have e : ((2 * (h : Int)) / 2).toNat = h := by omega
    have g1 := at_rounds (g := fun k => impl_matchings.f k (2 * (h : Int))) (fun k => impl_matchings.mono _ k) hk (dM_impl h (by omega))
    rw [decide_eq_true hm, if_pos hm, e, Option.bind_some, if_pos rfl, g1]
    rfl
  · rw [decide_eq_false hm, if_neg hm]
    rfl
theorem count_range (m : Int) : -1 ≤ (if 0 ≤ m ∧ m ≤ 16 ∧ m.tmod 2 = 0 then dM (m / 2).toNat else -1) ∧ (if 0 ≤ m ∧ m ≤ 16 ∧ m.tmod 2 = 0 then dM (m / 2).toNat else -1) ≤ 2027025 := by
  by_cases hm : 0 ≤ m ∧ m ≤ 16 ∧ m.tmod 2 = 0
  · rw [if_pos hm]
    have := dM_pos (m / 2).toNat (by omega)
    omega
  · rw [if_neg hm]
    omega
theorem draw_j0 (b : List Int) (hb : ∀ x ∈ b, (Lit.int .u8 x).wf = true) (hl : b.length ≤ 4096) (m i c : Int) (hi : 0 ≤ i) (h0 : 0 ≤ c) (h1 : c < 2147483647) (k : Nat) (hk : 30 ≤ k) :
    ∃ n, spec_DrawMatchingAt.j0 k m b i c = some (m, n) ∧ -3000000 ≤ n ∧ n ≤ 3000000 := by
  obtain ⟨k, rfl⟩ := succ_k (show 0 < k by omega)
  simp only [spec_DrawMatchingAt.j0]
  rw [count_spec m k (by omega), Option.bind_some]
  obtain ⟨t0, t1⟩ := count_range m
  generalize (if 0 ≤ m ∧ m ≤ 16 ∧ m.tmod 2 = 0 then dM (m / 2).toNat else -1) = t at t0 t1 ⊢
  obtain ⟨r, i1, c1, e1, r0, r1, hi1, p1, p2⟩ := next_ok b hb hl i c (mx 1 t) hi h0 h1
  obtain ⟨s, i2, c2, e2, s0, s1, hi2, p3, p4⟩ := next_ok b hb hl i1 c1 12 hi1 p1 p2
  rw [e1, Option.bind_some, e2, Option.bind_some]
  have hmx : mx 1 t ≤ 2027025 := by unfold mx; split <;> omega
  by_cases hs : s = 0
  · obtain ⟨u, i3, c3, e3, u0, u1, _⟩ := next_ok b hb hl i2 c2 2 hi2 p3 p4
    rw [if_pos hs, Option.bind_some, e3, Option.bind_some]
    refine ⟨_, rfl, ?_⟩
    have hu : u = 0 ∨ u = 1 := by omega
    rcases hu with rfl | rfl
    · have : wrap64 (t * 0) = 0 := by rw [Int.mul_zero]; exact w64 0 (by omega) (by omega)
      rw [this]
      omega
    · have : wrap64 (t * 1) = t := by rw [Int.mul_one]; exact w64 t (by omega) (by omega)
      rw [this]
      omega
  · rw [if_neg hs]
    exact ⟨r, rfl, by omega, by omega⟩
theorem draw_ok (b : List Int) (hb : ∀ x ∈ b, (Lit.int .u8 x).wf = true) (hl : b.length ≤ 4096) (k : Nat) (hk : b.length + 30 ≤ k) :
    ∃ m n, spec_DrawMatchingAt.f k b = some (m, n) ∧ -3000000 ≤ n ∧ n ≤ 3000000 := by
  unfold spec_DrawMatchingAt.f
  obtain ⟨c, e0, h0, h1⟩ := from_ok b hb hl k (by omega)
  rw [e0, Option.bind_some]
  obtain ⟨r, i1, c1, e1, r0, r1, hi1, p1, p2⟩ := next_ok b hb hl 0 c 9 (by omega) h0 h1
  rw [e1, Option.bind_some]
  obtain ⟨s, i2, c2, e2, s0, s1, hi2, p3, p4⟩ := next_ok b hb hl i1 c1 12 hi1 p1 p2
  rw [e2, Option.bind_some]
  by_cases hs : s = 0
  · obtain ⟨u, i3, c3, e3, u0, u1, hi3, p5, p6⟩ := next_ok b hb hl i2 c2 3 hi2 p3 p4
    rw [if_pos hs, Option.bind_some, e3, Option.bind_some, if_pos u0, if_pos (by show u < 3; omega)]
    obtain ⟨n, e, n0, n1⟩ := draw_j0 b hb hl (rd [-2, 3, 18] u) i3 c3 hi3 p5 p6 k (by omega)
    exact ⟨_, n, e, n0, n1⟩
  · rw [if_neg hs]
    obtain ⟨n, e, n0, n1⟩ := draw_j0 b hb hl (wrap64 (2 * r)) i2 c2 hi2 p3 p4 k (by omega)
    exact ⟨_, n, e, n0, n1⟩
theorem law_l0 (h : Nat) (hh : h ≤ 8) (n : Int) (n0 : 0 ≤ n) (n1 : n < dM h) : ∀ (d i k : Nat), i + d = 2 * h → d + 110 ≤ k → laws_FnMatching.l0 k (2 * (h : Int)) n (matL h n) (i : Int) = some true := by
  intro d
  induction d with
  | zero =>
    intro i k hi hk
    obtain ⟨k, rfl⟩ := succ_k (show 0 < k by omega)
    simp only [laws_FnMatching.l0]
    obtain ⟨p0, p1⟩ := dM_pos h hh
    have hcond : 0 ≤ 2 * (h : Int) ∧ 2 * (h : Int) ≤ 16 ∧ (2 * (h : Int)).tmod 2 = 0 := ⟨by omega, by omega, by rw [Int.tmod_eq_emod_of_nonneg (by omega)]; omega⟩
    have e : ((2 * (h : Int)) / 2).toNat = h := by omega
    rw [if_neg (by omega), w64 (n + 1) (by omega) (by omega), (match_P (2 * (h : Int)) (n + 1) k (by omega)).1, Option.bind_some, count_both _ k (by omega), if_pos hcond, e, Option.bind_some]
    by_cases hn : n + 1 < dM h
    · rw [matP_pos h hh (n + 1) (by omega) hn, decide_eq_true hn]
      simp only [beq_self_eq_true, if_true]
      show (laws_w5Ints.f k (matL h n) (matL h (n + 1))).bind _ = _
      rw [ints_f _ _ (by rw [matL_length, matL_length]) (by rw [matL_length]; omega) k (by rw [matL_length]; omega), Option.bind_some, decide_eq_false (matL_ne h hh n (n + 1) n0 n1 (by omega) hn (by omega))]
      rfl
    · have hp : matP (2 * (h : Int)) (n + 1) = ([], false) := by unfold matP; rw [e]; exact if_neg fun hx => hn hx.2.2
      rw [hp, decide_eq_false hn]
      rfl
  | succ d ih =>
    intro i k hi hk
    obtain ⟨k, rfl⟩ := succ_k (show 0 < k by omega)
    simp only [laws_FnMatching.l0]
    obtain ⟨⟨r0, r1⟩, r2, r3⟩ := matL_inv h hh n n0 n1 (i : Int) (by omega) (by omega)
    have hl := matL_length h n
    rw [if_pos (by omega), if_pos (by omega), if_pos (by omega), if_neg (by omega), if_neg (by omega), if_neg r2, if_pos r0, if_pos (by omega), if_pos r3, w64 _ (by omega) (by omega), cast_succ]
    exact ih (i + 1) k (by omega) (by omega)
theorem FnMatching : laws_FnMatching.Pure := by
  intro b _ _ hb
  refine ⟨b.length + 300, ?_⟩
  unfold laws_FnMatching.f laws_big.f
  by_cases h : (b.length : Int) > 4096
  · rw [decide_eq_true h]
    rfl
  · have hl : b.length ≤ 4096 := by omega
    rw [decide_eq_false h, Option.bind_some, if_neg (by simp)]
    obtain ⟨m, n, e, n0, n1⟩ := draw_ok b hb hl (b.length + 300) (by omega)
    obtain ⟨a1, a2⟩ := match_P m n (b.length + 300) (by omega)
    rw [e, Option.bind_some]
    simp only
    rw [a1, Option.bind_some, a2, Option.bind_some]
    rw [show ((matP m n).2 != (matP m n).2) = false by simp, if_neg (by simp)]
    by_cases hc : (0 ≤ m ∧ m ≤ 16 ∧ m.tmod 2 = 0) ∧ 0 ≤ n ∧ n < dM (m / 2).toNat
    · obtain ⟨q, rfl⟩ : ∃ q : Nat, m = 2 * (q : Int) := ⟨(m / 2).toNat, by
        have := hc.1.2.2
        rw [Int.tmod_eq_emod_of_nonneg hc.1.1] at this
        omega⟩
      have e2 : ((2 * (q : Int)) / 2).toNat = q := by omega
      have hn2 := hc.2.2
      rw [e2] at hn2
      rw [matP_pos q (by omega) n hc.2.1 hn2]
      simp only [if_true]
      rw [if_pos (by rw [matL_length]; omega)]
      exact law_l0 q (by omega) n hc.2.1 hn2 (2 * q) 0 _ (by omega) (by omega)
    · have hp : matP m n = ([], false) := by unfold matP; exact if_neg hc
      rw [hp]
      rfl

end Go.Proofs.Ytmffjekpnibnfaa.Pure
