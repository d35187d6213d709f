/- Program and reference find the same first permutation with given images; the arguments stay. No condition: for every input that the statement lets in. -/
import Derived.Test.YtmffjekpnibnfaaPFnExactExtendPerm4x5
namespace Go.Proofs.Ytmffjekpnibnfaa.Pure
open Go.RowKit Go.Proofs.Ytmffjekpnibnfaa.PFnExactExtendPerm4 Go.Proofs.YtmffjekpnibnfaaW.PrintWords Go.Proofs.YtmffjekpnibnfaaW.PrintLast

set_option linter.unusedSimpArgs false
set_option linter.unusedVariables false
theorem w64 (x : Int) (h0 : -9223372036854775808 ≤ x) (h1 : x ≤ 9223372036854775807) : wrap64 x = x := by
  unfold wrap64
  omega
theorem w64n (n : Nat) (h : n ≤ 9223372036854775807) : wrap64 (n : Int) = (n : Int) := w64 _ (by omega) (by omega)
theorem rd_nat (l : List Int) (i : Nat) (h : i < l.length) : rd l (i : Int) = l[i] := by
  simp [rd, List.getD, List.getElem?_eq_getElem h]
theorem succ_k {k n : Nat} (h : n < k) : ∃ m, k = m + 1 := ⟨k - 1, by omega⟩
theorem cast_succ (i : Nat) : ((i : Int) + 1) = ((i + 1 : Nat) : Int) := by omega
theorem drop_rd (l : List Int) (k : Nat) (h : k < l.length) : l.drop k = rd l (k : Int) :: l.drop (k + 1) := by
  rw [List.drop_eq_getElem_cons h, rd_nat l k h]


theorem toInt64S_l0 (l : List Int) (hl : l.length ≤ 4611686018427387904) : ∀ (d i : Nat) (x3 : List Int) (k : Nat), x3.length = l.length → i + d = l.length → x3.take i = l.take i → d < k → laws_toInt64S.l0 k l x3 (i : Int) = some l := by
  intro d
  induction d with
  | zero =>
    intro i x3 k h3 hd ht hk
    obtain ⟨k, rfl⟩ := succ_k hk
    simp only [laws_toInt64S.l0]
    rw [if_neg (by omega)]
    have e : i = l.length := by omega
    subst e
    rw [List.take_length, List.take_of_length_le (by omega)] at ht
    rw [ht]
  | succ d ih =>
    intro i x3 k h3 hd ht hk
    obtain ⟨k, rfl⟩ := succ_k hk
    simp only [laws_toInt64S.l0]
    rw [if_pos (by omega), if_pos (by omega), if_pos (by omega), w64 _ (by omega) (by omega), cast_succ]
    refine ih (i + 1) _ k (by simp [h3]) (by omega) ?_ (by omega)
    rw [Int.toNat_natCast, rd_nat l i (by omega)]
    rw [List.take_succ_eq_append_getElem (by simp; omega), List.take_succ_eq_append_getElem (by omega), List.take_set_of_le (by omega), ht]
    simp
theorem toInt64S_eq (l : List Int) (k : Nat) (hl : l.length ≤ 1048576) (hk : l.length < k) : laws_toInt64S.f k l = some l := by
  unfold laws_toInt64S.f
  rw [if_pos (by omega), if_pos (by omega)]
  exact toInt64S_l0 l (by omega) l.length 0 _ k (by simp) (by omega) (by simp) hk


theorem eqInt64S_l0 (l r : List Int) (hr : r.length = l.length) (hl : l.length ≤ 4611686018427387904) : ∀ (d i k : Nat), i + d = l.length → d < k → laws_eqInt64S.l0 k l r (i : Int) = some (decide (l.drop i = r.drop i)) := by
  intro d
  induction d with
  | zero =>
    intro i k hd hk
    obtain ⟨k, rfl⟩ := succ_k hk
    simp only [laws_eqInt64S.l0]
    rw [if_neg (by omega), List.drop_of_length_le (by omega), List.drop_of_length_le (by omega)]
    simp
  | succ d ih =>
    intro i k hd hk
    obtain ⟨k, rfl⟩ := succ_k hk
    simp only [laws_eqInt64S.l0]
    rw [if_pos (by omega), if_pos (by omega), if_pos (by omega), w64 _ (by omega) (by omega), cast_succ, ih (i + 1) k (by omega) (by omega), drop_rd l i (by omega), drop_rd r i (by omega)]
    by_cases h : rd l (i : Int) = rd r (i : Int)
    · simp [h]
    · simp [h]
theorem eqInt64S_eq (l r : List Int) (k : Nat) (hl : l.length ≤ 4611686018427387904) (hk : l.length < k) : laws_eqInt64S.f k l r = some (decide (l = r)) := by
  unfold laws_eqInt64S.f
  by_cases h : l.length = r.length
  · rw [if_pos (by omega)]
    have := eqInt64S_l0 l r h.symm hl l.length 0 k (by omega) hk
    simpa using this
  · rw [if_neg (by omega)]
    have : ¬ l = r := fun e => h (by rw [e])
    simp [this]
theorem eqInt64S_self (l : List Int) (k : Nat) (hl : l.length ≤ 4611686018427387904) (hk : l.length < k) : laws_eqInt64S.f k l l = some true := by
  rw [eqInt64S_eq l l k hl hk]
  simp


theorem images_all : ∀ n, n < 24 → spec_l06Images.f 40 ((n : Nat) : Int) = some (permL n) := by decide +kernel
theorem images_at (n : Nat) (hn : n < 24) (k : Nat) (hk : 40 ≤ k) : spec_l06Images.f k (n : Int) = some (permL n) :=
  at_rounds (g := fun k => spec_l06Images.f k (n : Int)) (fun k => spec_l06Images.mono _ k) hk (images_all n hn)

theorem spec_at (n m : Nat) (hn : n < 24) (hm : m < 4) (k : Nat) (hk : 40 ≤ k) : spec_l06At.f k (n : Int) (m : Int) = some (rd (permL n) m) := by
  unfold spec_l06At.f
  rw [images_at n hn k hk, Option.bind_some, if_pos (by omega), if_pos (by rw [(permL_ok n hn).1]; omega)]

theorem spec_ext_l2 (l0 l1 : List Int) (p : Nat) (hp : p < 24) (hn : l0.length = l1.length) (hl : l0.length ≤ 1048576) (h0 : l0.any exBad = false) (k : Nat) (hk : 40 ≤ k) : ∀ (d i : Nat), i + d = l0.length →
    spec_ExtendPerm4.l2 (k + d + 1) l0 l1 (p : Int) (exIn (permL p) l0 l1 i) (i : Int) = if exIn (permL p) l0 l1 l0.length = true then some ((p : Int), true) else spec_ExtendPerm4.l1 k l0 l1 ((p + 1 : Nat) : Int) := by
  intro d
  induction d with
  | zero =>
    intro i hi
    have e : i = l0.length := by omega
    subst e
    simp only [spec_ExtendPerm4.l2, Nat.add_zero]
    rw [if_neg (by omega), w64 ((p : Int) + 1) (by omega) (by omega)]
    rfl
  | succ d ih =>
    intro i hi
    obtain ⟨x0, x4⟩ := ex_mem l0 h0 i (by omega)
    obtain ⟨x, hx⟩ : ∃ x : Nat, rd l0 i = x := ⟨(rd l0 i).toNat, by omega⟩
    have hs : exIn (permL p) l0 l1 (i + 1) = (exIn (permL p) l0 l1 i && decide (rd (permL p) x = rd l1 i)) := by show (exIn (permL p) l0 l1 i && decide (rd (permL p) (rd l0 i) = rd l1 i)) = _; rw [hx]
    have h1 := ih (i + 1) (by omega)
    obtain ⟨K, hK⟩ : ∃ K, K = k + d + 1 := ⟨_, rfl⟩
    rw [← hK] at h1
    rw [show k + (d + 1) + 1 = K + 1 by omega]
    have ha := spec_at p x hp (by omega) K (by omega)
    simp only [spec_ExtendPerm4.l2]
    rw [if_pos (by omega), w64 ((i : Int) + 1) (by omega) (by omega), show ((i : Int) + 1) = ((i + 1 : Nat) : Int) from rfl, ← h1, hs]
    cases exIn (permL p) l0 l1 i with
    | false => rfl
    | true =>
      rw [if_pos rfl, if_pos (by omega), hx, ha, Option.bind_some, if_pos (by omega), Bool.true_and]
      rfl
theorem spec_ext_l1 (l0 l1 : List Int) (hn : l0.length = l1.length) (hl : l0.length ≤ 1048576) (h0 : l0.any exBad = false) : ∀ (g p k : Nat), p + g = 24 → g * (l0.length + 2) + 41 ≤ k →
    spec_ExtendPerm4.l1 k l0 l1 (p : Int) = some (exOut l0 l1 g p) := by
  intro g
  induction g with
  | zero =>
    intro p k hp hk
    obtain ⟨k, rfl⟩ := succ_k (show 0 < k by omega)
    simp only [spec_ExtendPerm4.l1]
    rw [if_neg (by omega)]
    rfl
  | succ g ih =>
    intro p k hp hk
    rw [Nat.succ_mul] at hk
    obtain ⟨m, rfl⟩ : ∃ m, k = m + l0.length + 1 + 1 := ⟨k - l0.length - 2, by omega⟩
    simp only [spec_ExtendPerm4.l1]
    rw [if_pos (by omega)]
    have h2 := spec_ext_l2 l0 l1 p (by omega) hn hl h0 m (by omega) l0.length 0 (by omega)
    rw [show exIn (permL p) l0 l1 0 = true from rfl, show (((0 : Nat) : Int)) = 0 from rfl] at h2
    rw [h2, ih (p + 1) m (by omega) (by omega)]
    rw [show exOut l0 l1 (g + 1) p = if exIn (permL p) l0 l1 l0.length = true then ((p : Int), true) else exOut l0 l1 g (p + 1) from rfl]
    split <;> rfl
theorem spec_ext_l0 (l0 l1 : List Int) (hn : l0.length = l1.length) (hl : l0.length ≤ 1048576) : ∀ (d i k : Nat), i + d = l0.length → d < k →
    spec_ExtendPerm4.l0 k l0 l1 (i : Int) = if (l0.drop i).any exBad = false ∧ (l1.drop i).any exBad = false then spec_ExtendPerm4.l1 (k - d - 1) l0 l1 0 else some (0, false) := by
  intro d
  induction d with
  | zero =>
    intro i k hi hk
    obtain ⟨k, rfl⟩ := succ_k hk
    simp only [spec_ExtendPerm4.l0]
    rw [if_neg (by omega), List.drop_of_length_le (by omega), List.drop_of_length_le (by omega), if_pos ⟨rfl, rfl⟩]
    rfl
  | succ d ih =>
    intro i k hi hk
    obtain ⟨k, rfl⟩ := succ_k hk
    simp only [spec_ExtendPerm4.l0]
    rw [if_pos (by omega), if_pos (by omega), drop_rd l0 i (by omega), drop_rd l1 i (by omega), List.any_cons, List.any_cons, w64 ((i : Int) + 1) (by omega) (by omega), show ((i : Int) + 1) = ((i + 1 : Nat) : Int) from rfl, ih (i + 1) k (by omega) (by omega), show k + 1 - (d + 1) - 1 = k - d - 1 by omega]
    have hb : ∀ x : Int, exBad x = decide (¬ (0 ≤ x ∧ x < 4)) := fun x => decide_not.symm
    by_cases a1 : rd l0 i < 0
    · rw [if_pos a1, if_neg (fun hx => by have := hx.1; rw [hb, decide_eq_true (by omega)] at this; simp at this)]
    · by_cases a2 : rd l0 i > 3
      · rw [if_neg a1, if_pos a2, if_neg (fun hx => by have := hx.1; rw [hb, decide_eq_true (by omega)] at this; simp at this)]
      · have e0 : exBad (rd l0 i) = false := by rw [hb, decide_eq_false (by omega)]
        rw [if_neg a1, if_neg a2, if_pos (by omega), e0, Bool.false_or]
        by_cases b1 : rd l1 i < 0
        · rw [if_pos b1, if_neg (fun hx => by have := hx.2; rw [hb, decide_eq_true (by omega)] at this; simp at this)]
        · by_cases b2 : rd l1 i > 3
          · rw [if_neg b1, if_pos b2, if_neg (fun hx => by have := hx.2; rw [hb, decide_eq_true (by omega)] at this; simp at this)]
          · have e1 : exBad (rd l1 i) = false := by rw [hb, decide_eq_false (by omega)]
            rw [if_neg b1, if_neg b2, e1, Bool.false_or]
theorem ext_both (l0 l1 : List Int) (hl : l0.length ≤ 1048576) (k : Nat) (hk : 26 * (l0.length + 2) + 41 ≤ k) : ∃ r, spec_ExtendPerm4.f k l0 l1 = some r ∧ impl_ExtendPerm4.f l0 l1 = some r := by
  unfold spec_ExtendPerm4.f impl_ExtendPerm4.f
  by_cases hn : l0.length = l1.length
  · rw [if_pos (by omega)]
    have h := spec_ext_l0 l0 l1 hn hl l0.length 0 k (by omega) (by omega)
    rw [show (((0 : Nat) : Int)) = 0 from rfl, List.drop_zero, List.drop_zero] at h
    rw [h]
    by_cases hb : l0.any exBad = false ∧ l1.any exBad = false
    · rw [if_pos hb, if_pos ⟨hn, hb⟩, if_pos (by omega)]
      refine ⟨_, ?_, rfl⟩
      have := spec_ext_l1 l0 l1 hn hl hb.1 24 0 (k - l0.length - 1) (by omega) (by omega)
      rw [show (((0 : Nat) : Int)) = 0 from rfl] at this
      exact this
    · rw [if_neg hb, if_neg (fun hx => hb hx.2)]
      exact ⟨_, rfl, rfl⟩
  · rw [if_neg (by omega), if_neg (fun hx => hn hx.1)]
    exact ⟨_, rfl, rfl⟩

theorem FnExactExtendPerm4 : laws_FnExactExtendPerm4.Pure := by
  intro l0 l1 _ _ _ _ _ _
  obtain ⟨K, hK⟩ : ∃ K : Nat, K = 26 * (l0.length + 2) + 41 + l1.length := ⟨_, rfl⟩
  refine ⟨K + 1, ?_⟩
  unfold laws_FnExactExtendPerm4.f
  by_cases h0 : (l0.length : Int) > 1048576
  · rw [if_pos h0]
  · by_cases h1 : (l1.length : Int) > 1048576
    · rw [if_neg h0, if_pos h1]
    · rw [if_neg h0, if_neg h1]
      obtain ⟨r, hs, hi⟩ := ext_both l0 l1 (by omega) (K + 1) (by omega)
      have t0 := toInt64S_eq l0 (K + 1) (by omega) (by omega)
      have t1 := toInt64S_eq l1 (K + 1) (by omega) (by omega)
      have u0 := toInt64S_eq l0 K (by omega) (by omega)
      have u1 := toInt64S_eq l1 K (by omega) (by omega)
      have e0 := eqInt64S_self l0 K (by omega) (by omega)
      have e1 := eqInt64S_self l1 K (by omega) (by omega)
      simp only [t0, t1, Option.bind_some, hs, hi, if_true]
      rw [show (r.2 != r.2) = false by simp]
      simp only [laws_FnExactExtendPerm4.j0]
      simp only [u0, u1, e0, e1, Option.bind_some, if_true]
      rfl

end Go.Proofs.Ytmffjekpnibnfaa.Pure
