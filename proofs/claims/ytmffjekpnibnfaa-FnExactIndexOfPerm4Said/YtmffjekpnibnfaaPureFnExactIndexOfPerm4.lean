/- Program and reference find the same number of a permutation from its images; the argument stays. No condition: for every input that the statement lets in. -/
import Derived.Test.YtmffjekpnibnfaaPFnExactIndexOfPerm4x3
namespace Go.Proofs.Ytmffjekpnibnfaa.Pure
open Go.RowKit Go.Proofs.Ytmffjekpnibnfaa.PFnExactIndexOfPerm4 Go.Proofs.YtmffjekpnibnfaaW.PrintWords Go.Proofs.YtmffjekpnibnfaaW.PrintLast

set_option linter.unusedSimpArgs false
set_option linter.unusedVariables false
theorem w64 (x : Int) (h0 : -9223372036854775808 ≤ x) (h1 : x ≤ 9223372036854775807) : wrap64 x = x := by
  unfold wrap64
  omega
theorem w64n (n : Nat) (h : n ≤ 9223372036854775807) : wrap64 (n : Int) = (n : Int) := w64 _ (by omega) (by omega)
theorem rd_nat (l : List Int) (i : Nat) (h : i < l.length) : rd l (i : Int) = l[i] := by
  simp [rd, List.getD, List.getElem?_eq_getElem h]
theorem succ_k {k n : Nat} (h : n < k) : ∃ m, k = m + 1 := ⟨k - 1, by omega⟩
theorem cast_succ (i : Nat) : ((i : Int) + 1) = ((i + 1 : Nat) : Int) := by omega
theorem drop_rd (l : List Int) (k : Nat) (h : k < l.length) : l.drop k = rd l (k : Int) :: l.drop (k + 1) := by
  rw [List.drop_eq_getElem_cons h, rd_nat l k h]


theorem toInt64S_l0 (l : List Int) (hl : l.length ≤ 4611686018427387904) : ∀ (d i : Nat) (x3 : List Int) (k : Nat), x3.length = l.length → i + d = l.length → x3.take i = l.take i → d < k → laws_toInt64S.l0 k l x3 (i : Int) = some l := by
  intro d
  induction d with
  | zero =>
    intro i x3 k h3 hd ht hk
    obtain ⟨k, rfl⟩ := succ_k hk
    simp only [laws_toInt64S.l0]
    rw [if_neg (by omega)]
    have e : i = l.length := by omega
    subst e
    rw [List.take_length, List.take_of_length_le (by omega)] at ht
    rw [ht]
  | succ d ih =>
    intro i x3 k h3 hd ht hk
    obtain ⟨k, rfl⟩ := succ_k hk
    simp only [laws_toInt64S.l0]
    rw [if_pos (by omega), if_pos (by omega), if_pos (by omega), w64 _ (by omega) (by omega), cast_succ]
    refine ih (i + 1) _ k (by simp [h3]) (by omega) ?_ (by omega)
    rw [Int.toNat_natCast, rd_nat l i (by omega)]
    rw [List.take_succ_eq_append_getElem (by simp; omega), List.take_succ_eq_append_getElem (by omega), List.take_set_of_le (by omega), ht]
    simp
theorem toInt64S_eq (l : List Int) (k : Nat) (hl : l.length ≤ 1048576) (hk : l.length < k) : laws_toInt64S.f k l = some l := by
  unfold laws_toInt64S.f
  rw [if_pos (by omega), if_pos (by omega)]
  exact toInt64S_l0 l (by omega) l.length 0 _ k (by simp) (by omega) (by simp) hk


theorem eqInt64S_l0 (l r : List Int) (hr : r.length = l.length) (hl : l.length ≤ 4611686018427387904) : ∀ (d i k : Nat), i + d = l.length → d < k → laws_eqInt64S.l0 k l r (i : Int) = some (decide (l.drop i = r.drop i)) := by
  intro d
  induction d with
  | zero =>
    intro i k hd hk
    obtain ⟨k, rfl⟩ := succ_k hk
    simp only [laws_eqInt64S.l0]
    rw [if_neg (by omega), List.drop_of_length_le (by omega), List.drop_of_length_le (by omega)]
    simp
  | succ d ih =>
    intro i k hd hk
    obtain ⟨k, rfl⟩ := succ_k hk
    simp only [laws_eqInt64S.l0]
    rw [if_pos (by omega), if_pos (by omega), if_pos (by omega), w64 _ (by omega) (by omega), cast_succ, ih (i + 1) k (by omega) (by omega), drop_rd l i (by omega), drop_rd r i (by omega)]
    by_cases h : rd l (i : Int) = rd r (i : Int)
    · simp [h]
    · simp [h]
theorem eqInt64S_eq (l r : List Int) (k : Nat) (hl : l.length ≤ 4611686018427387904) (hk : l.length < k) : laws_eqInt64S.f k l r = some (decide (l = r)) := by
  unfold laws_eqInt64S.f
  by_cases h : l.length = r.length
  · rw [if_pos (by omega)]
    have := eqInt64S_l0 l r h.symm hl l.length 0 k (by omega) hk
    simpa using this
  · rw [if_neg (by omega)]
    have : ¬ l = r := fun e => h (by rw [e])
    simp [this]
theorem eqInt64S_self (l : List Int) (k : Nat) (hl : l.length ≤ 4611686018427387904) (hk : l.length < k) : laws_eqInt64S.f k l l = some true := by
  rw [eqInt64S_eq l l k hl hk]
  simp


theorem images_all : ∀ n, n < 24 → spec_l06Images.f 40 ((n : Nat) : Int) = some (permL n) := by decide +kernel
theorem images_at (n : Nat) (hn : n < 24) (k : Nat) (hk : 40 ≤ k) : spec_l06Images.f k (n : Int) = some (permL n) :=
  at_rounds (g := fun k => spec_l06Images.f k (n : Int)) (fun k => spec_l06Images.mono _ k) hk (images_all n hn)

theorem isPerm_l0 (l : List Int) (hl : l.length ≤ 1048576) : ∀ (d i : Nat) (seen : List Bool) (k : Nat), seen.length = 4 → i + d = l.length → d < k →
    ∃ b, impl_isPermutation.l0 k l 4 seen l (l.length : Int) (i : Int) = some b ∧ (b = true → l.length = 4 ∧ ∀ j, i ≤ j → j < l.length → 0 ≤ rd l j ∧ rd l j < 4) := by
  intro d
  induction d with
  | zero =>
    intro i seen k hs hi hk
    obtain ⟨k, rfl⟩ := succ_k hk
    simp only [impl_isPermutation.l0]
    rw [if_neg (by omega)]
    unfold impl_size_int64.f
    refine ⟨_, rfl, fun hb => ⟨?_, fun j h1 h2 => by omega⟩⟩
    have := beq_iff_eq.1 hb
    omega
  | succ d ih =>
    intro i seen k hs hi hk
    obtain ⟨k, rfl⟩ := succ_k hk
    simp only [impl_isPermutation.l0]
    rw [if_pos (by omega), if_pos (by omega), if_pos (by omega), w64 (4 - 1) (by omega) (by omega)]
    unfold impl_inRange.f
    by_cases h0 : 0 ≤ rd l i
    · rw [if_pos h0, Option.bind_some]
      by_cases h3 : rd l i ≤ 4 - 1
      · rw [decide_eq_true h3, if_pos rfl, if_pos h0, if_pos (by omega)]
        cases hv : rdOf false seen (rd l i) with
        | true => exact ⟨false, by rw [if_pos rfl], fun h => absurd h (by simp)⟩
        | false =>
          rw [if_neg (by simp), w64 ((i : Int) + 1) (by omega) (by omega), show ((i : Int) + 1) = ((i + 1 : Nat) : Int) from rfl]
          obtain ⟨b, hb, hx⟩ := ih (i + 1) (seen.set (rd l i).toNat true) k (by rw [List.length_set]; exact hs) (by omega) (by omega)
          refine ⟨b, hb, fun hbt => ⟨(hx hbt).1, fun j h1 h2 => ?_⟩⟩
          by_cases hj : j = i
          · subst hj
            omega
          · exact (hx hbt).2 j (by omega) h2
      · rw [decide_eq_false h3]
        exact ⟨false, by rw [if_neg (by simp)], fun h => absurd h (by simp)⟩
    · rw [if_neg h0, Option.bind_some]
      exact ⟨false, by rw [if_neg (by simp)], fun h => absurd h (by simp)⟩
theorem isPerm_f (l : List Int) (hl : l.length ≤ 1048576) (k : Nat) (hk : l.length < k) : ∃ b, impl_isPermutation.f k l 4 = some b ∧ (b = true → l.length = 4 ∧ ∀ j, j < l.length → 0 ≤ rd l j ∧ rd l j < 4) := by
  obtain ⟨b, hb, hx⟩ := isPerm_l0 l hl l.length 0 (List.replicate 4 false) k (by simp) (by omega) hk
  exact ⟨b, hb, fun h => ⟨(hx h).1, fun j hj => (hx h).2 j (Nat.zero_le _) hj⟩⟩
def permChk (a b c d : Nat) : Bool := !(decide (impl_isPermutation.f 60 [(a : Int), (b : Int), (c : Int), (d : Int)] 4 = some true)) || decide ([(a : Int), (b : Int), (c : Int), (d : Int)] ∈ (List.range 24).map permL)
theorem perm_chk : ((List.range 4).all fun a => (List.range 4).all fun b => (List.range 4).all fun c => (List.range 4).all fun d => permChk a b c d) = true := by decide +kernel
theorem perm_all (a b c d : Nat) (ha : a < 4) (hb : b < 4) (hc : c < 4) (hd : d < 4) (h : impl_isPermutation.f 60 [(a : Int), (b : Int), (c : Int), (d : Int)] 4 = some true) : [(a : Int), (b : Int), (c : Int), (d : Int)] ∈ (List.range 24).map permL := by
  have h1 := List.all_eq_true.1 perm_chk a (List.mem_range.2 ha)
  have h2 := List.all_eq_true.1 h1 b (List.mem_range.2 hb)
  have h3 := List.all_eq_true.1 h2 c (List.mem_range.2 hc)
  have h4 := List.all_eq_true.1 h3 d (List.mem_range.2 hd)
  unfold permChk at h4
  rw [decide_eq_true h, Bool.not_true, Bool.false_or] at h4
  exact of_decide_eq_true h4
theorem index_all : ∀ n, n < 24 → spec_IndexOfPerm4.f 60 (permL n) = some (n : Int) ∧ impl_IndexOfPerm4.f 60 (permL n) = some (n : Int) := by decide +kernel
theorem same_l0 (a l : List Int) (ha : a.length = l.length) (hl : a.length ≤ 1048576) : ∀ (d i k : Nat), i + d = a.length → d < k → spec_l06Same.l0 k a l (i : Int) = some (decide (a.drop i = l.drop i)) := by
  intro d
  induction d with
  | zero =>
    intro i k hi hk
    obtain ⟨k, rfl⟩ := succ_k hk
    simp only [spec_l06Same.l0]
    rw [if_neg (by omega), List.drop_of_length_le (by omega), List.drop_of_length_le (by omega)]
    simp
  | succ d ih =>
    intro i k hi hk
    obtain ⟨k, rfl⟩ := succ_k hk
    simp only [spec_l06Same.l0]
    rw [if_pos (by omega), if_pos (by omega), if_pos (by omega), w64 _ (by omega) (by omega), cast_succ, ih (i + 1) k (by omega) (by omega), drop_rd a i (by omega), drop_rd l i (by omega)]
    by_cases h : rd a (i : Int) = rd l (i : Int)
    · simp [h]
    · simp [h]
theorem same_f (a l : List Int) (hl : a.length ≤ 1048576) (k : Nat) (hk : a.length < k) : spec_l06Same.f k a l = some (decide (a = l)) := by
  unfold spec_l06Same.f
  by_cases h : a.length = l.length
  · rw [if_pos (by omega)]
    have := same_l0 a l h hl a.length 0 k (by omega) hk
    simpa using this
  · rw [if_neg (by omega)]
    have : ¬ a = l := fun e => h (by rw [e])
    simp [this]
theorem index_none (l : List Int) (hl : ∀ n, n < 24 → permL n ≠ l) : ∀ (g p k : Nat), p + g = 24 → g + 40 < k → spec_IndexOfPerm4.l0 k l (p : Int) = some (-1) := by
  intro g
  induction g with
  | zero =>
    intro p k hp hk
    obtain ⟨k, rfl⟩ := succ_k (show 0 < k by omega)
    simp only [spec_IndexOfPerm4.l0]
    rw [if_neg (by omega)]
  | succ g ih =>
    intro p k hp hk
    obtain ⟨k, rfl⟩ := succ_k (show 0 < k by omega)
    simp only [spec_IndexOfPerm4.l0]
    rw [if_pos (by omega), images_at p (by omega) k (by omega), Option.bind_some, same_f _ _ (by rw [(permL_ok p (by omega)).1]; omega) k (by rw [(permL_ok p (by omega)).1]; omega), Option.bind_some, decide_eq_false (hl p (by omega)), if_neg (by simp), w64 _ (by omega) (by omega), cast_succ]
    exact ih (p + 1) k (by omega) (by omega)
theorem index_both (l : List Int) (hl : l.length ≤ 1048576) (k : Nat) (hk : l.length + 100 < k) : ∃ r, spec_IndexOfPerm4.f k l = some r ∧ impl_IndexOfPerm4.f k l = some r := by
  by_cases h : ∃ n, n < 24 ∧ permL n = l
  · obtain ⟨n, hn, rfl⟩ := h
    refine ⟨(n : Int), ?_, ?_⟩
    · exact at_rounds (g := fun k => spec_IndexOfPerm4.f k (permL n)) (fun k => spec_IndexOfPerm4.mono _ k) (show 60 ≤ k by omega) (index_all n hn).1
    · exact at_rounds (g := fun k => impl_IndexOfPerm4.f k (permL n)) (fun k => impl_IndexOfPerm4.mono _ k) (show 60 ≤ k by omega) (index_all n hn).2
  · refine ⟨-1, ?_, ?_⟩
    · unfold spec_IndexOfPerm4.f
      exact index_none l (fun n hn e => h ⟨n, hn, e⟩) 24 0 k (by omega) (by omega)
    · unfold impl_IndexOfPerm4.f
      obtain ⟨b, hb, hx⟩ := isPerm_f l hl k (by omega)
      rw [hb, Option.bind_some]
      cases b with
      | false => rw [if_neg (by simp)]
      | true =>
        exfalso
        obtain ⟨h4, hr⟩ := hx rfl
        match l, h4 with
        | [a, b, c, d], _ =>
          have ra := hr 0 (by simp)
          have rb := hr 1 (by simp)
          have rc := hr 2 (by simp)
          have rd_ := hr 3 (by simp)
          have ea : rd [a, b, c, d] (0 : Nat) = a := rfl
          have eb : rd [a, b, c, d] (1 : Nat) = b := rfl
          have ec : rd [a, b, c, d] (2 : Nat) = c := rfl
          have ed : rd [a, b, c, d] (3 : Nat) = d := rfl
          rw [ea] at ra
          rw [eb] at rb
          rw [ec] at rc
          rw [ed] at rd_
          obtain ⟨a', rfl⟩ : ∃ n : Nat, a = n := ⟨a.toNat, by omega⟩
          obtain ⟨b', rfl⟩ : ∃ n : Nat, b = n := ⟨b.toNat, by omega⟩
          obtain ⟨c', rfl⟩ : ∃ n : Nat, c = n := ⟨c.toNat, by omega⟩
          obtain ⟨d', rfl⟩ : ∃ n : Nat, d = n := ⟨d.toNat, by omega⟩
          obtain ⟨b6, hb6, _⟩ := isPerm_f [(a' : Int), (b' : Int), (c' : Int), (d' : Int)] (by simp) 60 (by simp)
          have hb7 := at_rounds (g := fun k => impl_isPermutation.f k [(a' : Int), (b' : Int), (c' : Int), (d' : Int)] 4) (fun k => impl_isPermutation.mono _ _ k) (show 60 ≤ k by omega) hb6
          have hb8 : some b6 = some true := hb7.symm.trans hb
          rw [Option.some.inj hb8] at hb6
          obtain ⟨n, hn, e⟩ := List.mem_map.1 (perm_all a' b' c' d' (by omega) (by omega) (by omega) (by omega) hb6)
          exact h ⟨n, List.mem_range.1 hn, e⟩

theorem FnExactIndexOfPerm4 : laws_FnExactIndexOfPerm4.Pure := by
  intro l _ _ _
  refine ⟨l.length + 200, ?_⟩
  unfold laws_FnExactIndexOfPerm4.f
  by_cases h0 : (l.length : Int) > 1048576
  · rw [if_pos h0]
  · rw [if_neg h0]
    obtain ⟨r, hs, hi⟩ := index_both l (by omega) (l.length + 200) (by omega)
    have t0 := toInt64S_eq l (l.length + 200) (by omega) (by omega)
    have e0 := eqInt64S_self l (l.length + 200) (by omega) (by omega)
    simp only [t0, Option.bind_some, hs, hi, e0, if_true]

end Go.Proofs.Ytmffjekpnibnfaa.Pure
