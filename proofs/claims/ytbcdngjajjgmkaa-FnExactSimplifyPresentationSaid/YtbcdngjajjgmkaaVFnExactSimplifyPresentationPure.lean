/- Program and reference simplify a presentation by the same moves to the same presentation, in new memory, and leave the argument. No condition: for every input that the statement lets in. -/
import Derived.Test.YtbcdngjajjgmkaaVFnExactSimplifyPresentationStmt
namespace Go.Proofs.Ytbcdngjajjgmkaa.Pure
open Go.RowKit Go.Proofs.Ytbcdngjajjgmkaa.PFnExactSimplifyPresentation Go.Proofs.YtbcdngjajjgmkaaW.PrintWords Go.Proofs.YtbcdngjajjgmkaaW.PrintLast

set_option linter.unusedSimpArgs false
set_option linter.unusedVariables false
set_option linter.unusedSectionVars false
theorem w64 (x : Int) (h0 : -9223372036854775808 ≤ x) (h1 : x ≤ 9223372036854775807) : wrap64 x = x := by
 unfold wrap64
 omega
theorem w64n (n : Nat) (h : n ≤ 9223372036854775807) : wrap64 (n : Int) = (n : Int) := w64 _ (by omega) (by omega)
theorem rd_nat (l : List Int) (i : Nat) (h : i < l.length) : rd l (i : Int) = l[i] := by
 simp [rd, List.getD, List.getElem?_eq_getElem h]
theorem succ_k {k n : Nat} (h : n < k) : ∃ m, k = m + 1 := ⟨k - 1, by omega⟩
theorem cast_succ (i : Nat) : ((i : Int) + 1) = ((i + 1 : Nat) : Int) := by omega
theorem drop_rd (l : List Int) (k : Nat) (h : k < l.length) : l.drop k = rd l (k : Int) :: l.drop (k + 1) := by
 rw [List.drop_eq_getElem_cons h, rd_nat l k h]

theorem szInt64S_eq (l : List Int) (a : Int) (h0 : 0 ≤ a) (h1 : a ≤ 1048576) (hl : l.length ≤ maxLen) : laws_szInt64S.f l a = some (if a < l.length then -1 else a - l.length) := by
 unfold maxLen at hl
 unfold laws_szInt64S.f
 rw [w64 _ (by omega) (by omega)]
 by_cases h : a < l.length
 ·rw [if_pos (by omega), if_pos h]
 ·rw [if_neg (by omega), if_neg h]

theorem rdL1_nat (l : List (List Int)) (i : Nat) (h : i < l.length) : rd_L1 l (i : Int) = l[i] := by
 simp [rd_L1, List.getD, List.getElem?_eq_getElem h]
theorem drop_rdL1 (l : List (List Int)) (k : Nat) (h : k < l.length) : l.drop k = rd_L1 l (k : Int) :: l.drop (k + 1) := by
 rw [List.drop_eq_getElem_cons h, rdL1_nat l k h]
theorem rdL1_mem (l : List (List Int)) (i : Nat) (h : i < l.length) : rd_L1 l (i : Int) ∈ l := by
 rw [rdL1_nat l i h]
 exact List.getElem_mem h

theorem szInt64SS_l0 (l : List (List Int)) (hl : l.length ≤ 1048576) (hr : ∀ x ∈ l, x.length ≤ maxLen) : ∀ (d i k : Nat) (a : Int), i + d = l.length → d < k → 0 ≤ a → a ≤ 1048576 →
  ∃ r, laws_szInt64SS.l0 k l a (i : Int) = some r ∧ (r < 0 ∨ (0 ≤ r ∧ r ≤ a ∧ ∀ x ∈ l.drop i, (x.length : Int) ≤ a)) := by
 intro d
 induction d with
 | zero =>
  intro i k a hd hk h0 h1
  obtain ⟨k, rfl⟩ := succ_k hk
  simp only [laws_szInt64SS.l0]
  rw [if_neg (by omega), List.drop_of_length_le (by omega)]
  exact ⟨a, rfl, .inr ⟨h0, Int.le_refl _, by simp⟩⟩
 | succ d ih =>
  intro i k a hd hk h0 h1
  obtain ⟨k, rfl⟩ := succ_k hk
  simp only [laws_szInt64SS.l0]
  rw [if_pos (by omega), if_pos (by omega), szInt64S_eq _ a h0 h1 (hr _ (rdL1_mem l i (by omega)))]
  simp only [Option.bind_some]
  by_cases h : a < (rd_L1 l (i : Int)).length
  ·rw [if_pos h, if_pos (by omega)]
   exact ⟨-1, rfl, .inl (by omega)⟩
  ·rw [if_neg h, if_neg (by omega), w64 _ (by omega) (by omega), cast_succ, drop_rdL1 l i (by omega)]
   obtain ⟨r, e, hr'⟩ := ih (i + 1) k (a - (rd_L1 l (i : Int)).length) (by omega) (by omega) (by omega) (by omega)
   refine ⟨r, e, ?_⟩
   rcases hr' with hr' | ⟨h2, h3, h4⟩
   ·exact .inl hr'
   ·refine .inr ⟨h2, by omega, fun x hx => ?_⟩
    rcases List.mem_cons.1 hx with e | hx
    ·subst e
     omega
    ·have := h4 x hx
     omega
theorem szInt64SS_eq (l : List (List Int)) (a : Int) (k : Nat) (h0 : 0 ≤ a) (h1 : a ≤ 1048576) (hl : l.length ≤ maxLen) (hr : ∀ x ∈ l, x.length ≤ maxLen) (hk : 1048576 < k) :
  ∃ r, laws_szInt64SS.f k l a = some r ∧ (r < 0 ∨ (0 ≤ r ∧ r ≤ a ∧ (l.length : Int) ≤ a ∧ ∀ x ∈ l, (x.length : Int) ≤ a)) := by
 unfold maxLen at hl
 unfold laws_szInt64SS.f
 rw [w64 _ (by omega) (by omega)]
 by_cases h : a - (l.length : Int) < 0
 ·rw [if_pos h]
  exact ⟨-1, rfl, .inl (by omega)⟩
 ·rw [if_neg h]
  obtain ⟨r, e, hr'⟩ := szInt64SS_l0 l (by omega) hr l.length 0 k (a - l.length) (by omega) (by omega) (by omega) (by omega)
  refine ⟨r, e, ?_⟩
  rcases hr' with hr' | ⟨h2, h3, h4⟩
  ·exact .inl hr'
  ·refine .inr ⟨h2, by omega, by omega, fun x hx => ?_⟩
   have := h4 x (by simpa using hx)
   omega

theorem szPresentation_eq (g : Int) (l : List (List Int)) (a : Int) (k : Nat) (h0 : 0 ≤ a) (h1 : a ≤ 1048576) (hl : l.length ≤ maxLen) (hr : ∀ x ∈ l, x.length ≤ maxLen) (hk : 1048576 < k) :
  ∃ r, laws_szPresentation.f k g l a = some r ∧ (r < 0 ∨ (0 ≤ r ∧ r ≤ a ∧ (l.length : Int) ≤ a ∧ ∀ x ∈ l, (x.length : Int) ≤ a)) := by
 obtain ⟨r, e, h⟩ := szInt64SS_eq l a k h0 h1 hl hr hk
 unfold laws_szPresentation.f
 rw [e]
 simp only [Option.bind_some]
 by_cases hr : r < 0
 ·rw [if_pos hr]
  exact ⟨-1, rfl, .inl (by omega)⟩
 ·rw [if_neg hr]
  exact ⟨r, rfl, h⟩

theorem toInt64S_l0 (l : List Int) (hl : l.length ≤ 4611686018427387904) : ∀ (d i : Nat) (x3 : List Int) (k : Nat), x3.length = l.length → i + d = l.length → x3.take i = l.take i → d < k → laws_toInt64S.l0 k l x3 (i : Int) = some l := by
 intro d
 induction d with
 | zero =>
  intro i x3 k h3 hd ht hk
  obtain ⟨k, rfl⟩ := succ_k hk
  simp only [laws_toInt64S.l0]
  rw [if_neg (by omega)]
  have e : i = l.length := by omega
  subst e
  rw [List.take_length, List.take_of_length_le (by omega)] at ht
  rw [ht]
 | succ d ih =>
  intro i x3 k h3 hd ht hk
  obtain ⟨k, rfl⟩ := succ_k hk
  simp only [laws_toInt64S.l0]
  rw [if_pos (by omega), if_pos (by omega), if_pos (by omega), w64 _ (by omega) (by omega), cast_succ]
  refine ih (i + 1) _ k (by simp [h3]) (by omega) ?_ (by omega)
  rw [Int.toNat_natCast, rd_nat l i (by omega)]
  rw [List.take_succ_eq_append_getElem (by simp; omega), List.take_succ_eq_append_getElem (by omega), List.take_set_of_le (by omega), ht]
  simp
theorem toInt64S_eq (l : List Int) (k : Nat) (hl : l.length ≤ 1048576) (hk : l.length < k) : laws_toInt64S.f k l = some l := by
 unfold laws_toInt64S.f
 rw [if_pos (by omega), if_pos (by omega)]
 exact toInt64S_l0 l (by omega) l.length 0 _ k (by simp) (by omega) (by simp) hk

theorem toInt64SS_l0 (l : List (List Int)) (hl : l.length ≤ 1048576) (hr : ∀ x ∈ l, x.length ≤ 1048576) : ∀ (d i : Nat) (x3 : List (List Int)) (k : Nat), x3.length = l.length → i + d = l.length → x3.take i = l.take i → d + 1048576 < k → laws_toInt64SS.l0 k l x3 (i : Int) = some l := by
 intro d
 induction d with
 | zero =>
  intro i x3 k h3 hd ht hk
  obtain ⟨k, rfl⟩ := succ_k hk
  simp only [laws_toInt64SS.l0]
  rw [if_neg (by omega)]
  have e : i = l.length := by omega
  subst e
  rw [List.take_length, List.take_of_length_le (by omega)] at ht
  rw [ht]
 | succ d ih =>
  intro i x3 k h3 hd ht hk
  obtain ⟨k, rfl⟩ := succ_k hk
  simp only [laws_toInt64SS.l0]
  have hm := hr _ (rdL1_mem l i (by omega))
  rw [if_pos (by omega), if_pos (by omega), toInt64S_eq _ k hm (by omega)]
  simp only [Option.bind_some]
  rw [if_pos (by omega), w64 _ (by omega) (by omega), cast_succ]
  refine ih (i + 1) _ k (by simp [h3]) (by omega) ?_ (by omega)
  rw [Int.toNat_natCast, rdL1_nat l i (by omega)]
  rw [List.take_succ_eq_append_getElem (by simp; omega), List.take_succ_eq_append_getElem (by omega), List.take_set_of_le (by omega), ht]
  simp
theorem toInt64SS_eq (l : List (List Int)) (k : Nat) (hl : l.length ≤ 1048576) (hr : ∀ x ∈ l, x.length ≤ 1048576) (hk : 2097152 < k) : laws_toInt64SS.f k l = some l := by
 unfold laws_toInt64SS.f
 rw [if_pos (by omega), if_pos (by omega)]
 exact toInt64SS_l0 l (by omega) hr l.length 0 _ k (by simp) (by omega) (by simp) (by omega)

theorem toPresentation_eq (g : Int) (l : List (List Int)) (k : Nat) (hl : l.length ≤ 1048576) (hr : ∀ x ∈ l, x.length ≤ 1048576) (hk : 2097152 < k) : laws_toPresentation.f k g l = some (g, l) := by
 unfold laws_toPresentation.f
 rw [toInt64SS_eq l k hl hr hk]
 rfl

theorem eqInt64S_l0 (l r : List Int) (hr : r.length = l.length) (hl : l.length ≤ 4611686018427387904) : ∀ (d i k : Nat), i + d = l.length → d < k → laws_eqInt64S.l0 k l r (i : Int) = some (decide (l.drop i = r.drop i)) := by
 intro d
 induction d with
 | zero =>
  intro i k hd hk
  obtain ⟨k, rfl⟩ := succ_k hk
  simp only [laws_eqInt64S.l0]
  rw [if_neg (by omega), List.drop_of_length_le (by omega), List.drop_of_length_le (by omega)]
  simp
 | succ d ih =>
  intro i k hd hk
  obtain ⟨k, rfl⟩ := succ_k hk
  simp only [laws_eqInt64S.l0]
  rw [if_pos (by omega), if_pos (by omega), if_pos (by omega), w64 _ (by omega) (by omega), cast_succ, ih (i + 1) k (by omega) (by omega), drop_rd l i (by omega), drop_rd r i (by omega)]
  by_cases h : rd l (i : Int) = rd r (i : Int)
  ·simp [h]
  ·simp [h]
theorem eqInt64S_eq (l r : List Int) (k : Nat) (hl : l.length ≤ 4611686018427387904) (hk : l.length < k) : laws_eqInt64S.f k l r = some (decide (l = r)) := by
 unfold laws_eqInt64S.f
 by_cases h : l.length = r.length
 ·rw [if_pos (by omega)]
  have := eqInt64S_l0 l r h.symm hl l.length 0 k (by omega) hk
  simpa using this
 ·rw [if_neg (by omega)]
  have : ¬ l = r := fun e => h (by rw [e])
  simp [this]
theorem eqInt64S_self (l : List Int) (k : Nat) (hl : l.length ≤ 4611686018427387904) (hk : l.length < k) : laws_eqInt64S.f k l l = some true := by
 rw [eqInt64S_eq l l k hl hk]
 simp

theorem eqInt64SS_l0 (l : List (List Int)) (hl : l.length ≤ 4611686018427387904) (n : Nat) (hn : n ≤ 4611686018427387904) (hr : ∀ x ∈ l, x.length ≤ n) : ∀ (d i k : Nat), i + d = l.length → d + n < k → laws_eqInt64SS.l0 k l l (i : Int) = some true := by
 intro d
 induction d with
 | zero =>
  intro i k hd hk
  obtain ⟨k, rfl⟩ := succ_k hk
  simp only [laws_eqInt64SS.l0]
  rw [if_neg (by omega)]
 | succ d ih =>
  intro i k hd hk
  obtain ⟨k, rfl⟩ := succ_k hk
  simp only [laws_eqInt64SS.l0]
  have hm := hr _ (rdL1_mem l i (by omega))
  rw [if_pos (by omega), if_pos (by omega), if_pos (by omega), eqInt64S_self _ k (by omega) (by omega)]
  simp only [Option.bind_some, if_true]
  rw [w64 _ (by omega) (by omega), cast_succ, ih (i + 1) k (by omega) (by omega)]
theorem eqInt64SS_self (l : List (List Int)) (n k : Nat) (hl : l.length ≤ 1048576) (hn : n ≤ 1048576) (hr : ∀ x ∈ l, x.length ≤ n) (hk : 2097152 < k) : laws_eqInt64SS.f k l l = some true := by
 unfold laws_eqInt64SS.f
 rw [if_pos rfl]
 exact eqInt64SS_l0 l (by omega) n (by omega) hr l.length 0 k (by omega) (by omega)

theorem eqPresentation_self (g : Int) (l : List (List Int)) (n k : Nat) (hl : l.length ≤ 1048576) (hn : n ≤ 1048576) (hr : ∀ x ∈ l, x.length ≤ n) (hk : 2097152 < k) : laws_eqPresentation.f k g l g l = some true := by
 unfold laws_eqPresentation.f
 rw [if_pos rfl, eqInt64SS_self l n k hl hn hr hk]
 rfl

/-- The numbers from m on. -/
def marks : Int → Nat → List Int
 | _, 0 => []
 | m, n + 1 => m :: marks (m + 1) n
theorem marks_length : ∀ (m : Int) (n : Nat), (marks m n).length = n
 | _, 0 => rfl
 | m, n + 1 => by simp [marks, marks_length (m + 1) n]

theorem markInt64S_l0 : ∀ (d i k : Nat) (x0 : List Int) (x1 : Int), x0.length ≤ 4611686018427387904 → i + d = x0.length → 0 ≤ x1 → x1 + d ≤ 4611686018427387904 → d < k →
  laws_markInt64S.l0 k x0 x1 (i : Int) = some (x1 + d, x0.take i ++ marks x1 d) := by
 intro d
 induction d with
 | zero =>
  intro i k x0 x1 hl hd h0 h1 hk
  obtain ⟨k, rfl⟩ := succ_k hk
  simp only [laws_markInt64S.l0]
  rw [if_neg (by omega)]
  simp [marks, List.take_of_length_le (show x0.length ≤ i by omega)]
 | succ d ih =>
  intro i k x0 x1 hl hd h0 h1 hk
  obtain ⟨k, rfl⟩ := succ_k hk
  simp only [laws_markInt64S.l0]
  rw [if_pos (by omega), if_pos (by omega), w64 _ (by omega) (by omega), w64 _ (by omega) (by omega), cast_succ, Int.toNat_natCast]
  rw [ih (i + 1) k (x0.set i x1) (x1 + 1) (by simp; omega) (by simp; omega) (by omega) (by omega) (by omega)]
  rw [List.take_succ_eq_append_getElem (by simp; omega), List.take_set_of_le (by omega)]
  simp only [marks, List.getElem_set_self, List.append_assoc, List.singleton_append]
  rw [show x1 + 1 + (d : Int) = x1 + ((d + 1 : Nat) : Int) by omega]
theorem markInt64S_eq (l : List Int) (m : Int) (k : Nat) (hl : l.length ≤ 1048576) (h0 : 0 ≤ m) (h1 : m ≤ 4611686018426339328) (hk : l.length < k) :
  laws_markInt64S.f k l m = some (m + l.length, marks m l.length) := by
 unfold laws_markInt64S.f
 have := markInt64S_l0 l.length 0 k l m (by omega) (by omega) h0 (by omega) hk
 simpa using this

/-- With enough rounds, the answer is r. -/
def Evt {α : Type} (f : Nat → Option α) (r : α) : Prop := ∃ c, ∀ K, c ≤ K → f K = some r
theorem Evt.step {α : Type} {f g : Nat → Option α} {r : α} (h : Evt g r) (e : ∀ K, f (K + 1) = g K) : Evt f r := by
 obtain ⟨c, hc⟩ := h
 refine ⟨c + 1, fun K hK => ?_⟩
 obtain ⟨K, rfl⟩ : ∃ m, K = m + 1 := ⟨K - 1, by omega⟩
 rw [e K]
 exact hc K (by omega)
theorem Evt.same {α : Type} {f g : Nat → Option α} {r : α} (h : Evt g r) (e : ∀ K, f K = g K) : Evt f r := by
 obtain ⟨c, hc⟩ := h
 exact ⟨c, fun K hK => by rw [e K]; exact hc K hK⟩
theorem Evt.now {α : Type} {f : Nat → Option α} {r : α} (e : ∀ K, f (K + 1) = some r) : Evt f r := by
 refine ⟨1, fun K hK => ?_⟩
 obtain ⟨K, rfl⟩ : ∃ m, K = m + 1 := ⟨K - 1, by omega⟩
 exact e K
theorem Evt.bind {α β : Type} {f : Nat → Option β} {g : Nat → Option α} {h : Nat → α → Option β} {x : α} {r : β} (hg : Evt g x) (hh : Evt (fun K => h K x) r) (e : ∀ K, f K = (g K).bind (h K)) : Evt f r := by
 obtain ⟨c, hc⟩ := hg
 obtain ⟨d, hd⟩ := hh
 exact ⟨c + d, fun K hK => by rw [e K, hc K (by omega)]; exact hd K (by omega)⟩
theorem Evt.bind1 {α β : Type} {f : Nat → Option β} {g : Nat → Option α} {h : Nat → α → Option β} {x : α} {r : β} (hg : Evt g x) (hh : Evt (fun K => h K x) r) (e : ∀ K, f (K + 1) = (g K).bind (h K)) : Evt f r :=
 Evt.step (g := fun K => (g K).bind (h K)) (Evt.bind hg hh fun _ => rfl) e
/-- All that stands in the rows. -/
def tot : List (List Int) → Nat
 | [] => 0
 | r :: t => r.length + tot t
theorem tot_cons (r : List Int) (t : List (List Int)) : tot (r :: t) = r.length + tot t := rfl
theorem tot_le (n : Nat) : ∀ (l : List (List Int)), (∀ x ∈ l, x.length ≤ n) → tot l ≤ n * l.length
 | [], _ => Nat.zero_le _
 | r :: t, h => by
  have h1 := h r (by simp)
  have h2 := tot_le n t fun x hx => h x (List.mem_cons_of_mem _ hx)
  rw [List.length_cons, Nat.mul_succ]
  rw [tot_cons]
  omega
def marksSS : Int → List (List Int) → List (List Int)
 | _, [] => []
 | m, r :: t => marks m r.length :: marksSS (m + r.length) t
theorem markSS_l0 : ∀ (d i : Nat) (x : List (List Int)) (m : Int), x.length ≤ 1048576 → i + d = x.length → (∀ r ∈ x.drop i, r.length ≤ 1048576) → 0 ≤ m → m + tot (x.drop i) ≤ 4611686018426339328 →
  Evt (fun K => laws_markInt64SS.l0 K x m (i : Int)) (m + tot (x.drop i), x.take i ++ marksSS m (x.drop i))
 | 0, i, x, m, hl, hd, hr, h0, h1 => by
  refine Evt.now fun K => ?_
  rw [laws_markInt64SS.l0, if_neg (by omega), List.drop_of_length_le (by omega), List.take_of_length_le (by omega)]
  simp [tot, marksSS]
 | d + 1, i, x, m, hl, hd, hr, h0, h1 => by
  have hi : i < x.length := by omega
  have ei : wrap64 ((i : Int) + 1) = ((i + 1 : Nat) : Int) := w64n (i + 1) (by omega)
  have f1 : (i : Int) < (x.length : Int) := Int.ofNat_lt.2 hi
  have hg : x.getD i [] = x[i] := by rw [List.getD_eq_getElem?_getD, List.getElem?_eq_getElem hi]; rfl
  rw [List.drop_eq_getElem_cons hi] at hr h1 ⊢
  have hri := hr x[i] List.mem_cons_self
  rw [tot_cons] at h1
  have hm : Evt (fun K => laws_markInt64S.f K x[i] m) (m + (x[i]).length, marks m (x[i]).length) := ⟨(x[i]).length + 1, fun K hK => markInt64S_eq x[i] m K hri h0 (by omega) (by omega)⟩
  have e1 : (x.set i (marks m (x[i]).length)).drop (i + 1) = x.drop (i + 1) := by rw [List.drop_set_of_lt (by omega)]
  have e2 : (x.set i (marks m (x[i]).length)).take (i + 1) = x.take i ++ [marks m (x[i]).length] := by
   rw [List.take_succ_eq_append_getElem (by rw [List.length_set]; exact hi), List.take_set_of_le (Nat.le_refl _), List.getElem_set_self]
  have ih := markSS_l0 d (i + 1) (x.set i (marks m (x[i]).length)) (m + (x[i]).length) (by rw [List.length_set]; exact hl) (by rw [List.length_set]; omega) (by rw [e1]; exact fun r hr' => hr r (List.mem_cons_of_mem _ hr')) (by omega) (by rw [e1]; omega)
  rw [e1, e2, List.append_assoc, List.singleton_append] at ih
  have e3 : m + (tot (x[i] :: x.drop (i + 1)) : Int) = m + (x[i]).length + tot (x.drop (i + 1)) := by
   rw [tot_cons]
   omega
  rw [e3]
  refine Evt.bind1 (h := fun K t => laws_markInt64SS.l0 K (x.set i t.2) t.1 ((i + 1 : Nat) : Int)) hm ih fun K => by rw [laws_markInt64SS.l0, if_pos f1, if_pos (Int.natCast_nonneg i), Int.toNat_natCast, hg, ei]
theorem tot_small {l : List (List Int)} (hl : l.length ≤ 1048576) (hr : ∀ x ∈ l, x.length ≤ 1048576) : 1 + (tot l : Int) ≤ 4611686018426339328 := by
 have h1 := tot_le 1048576 l hr
 have h2 : 1048576 * l.length ≤ 1048576 * 1048576 := Nat.mul_le_mul_left _ hl
 have h3 : (1048576 * 1048576 : Nat) = 1099511627776 := by decide
 omega
theorem markSS_ev (l : List (List Int)) (hl : l.length ≤ 1048576) (hr : ∀ x ∈ l, x.length ≤ 1048576) : Evt (fun K => laws_markInt64SS.f K l 1) (1 + (tot l : Int), marksSS 1 l) := by
 have h := markSS_l0 l.length 0 l 1 hl (Nat.zero_add _) (by rw [List.drop_zero]; exact hr) (by decide) (by rw [List.drop_zero]; exact tot_small hl hr)
 rw [List.drop_zero, List.take_zero, List.nil_append] at h
 exact h

theorem heldInt64S_l0 : ∀ (d i k : Nat) (x0 : List Int) (x1 : Int), x0.length ≤ 4611686018427387904 → i + d = x0.length → x0.drop i = marks x1 d → 0 ≤ x1 → x1 + d ≤ 4611686018427387904 → d < k →
  laws_heldInt64S.l0 k x0 x1 (i : Int) = some (x1 + d) := by
 intro d
 induction d with
 | zero =>
  intro i k x0 x1 hl hd he h0 h1 hk
  obtain ⟨k, rfl⟩ := succ_k hk
  simp only [laws_heldInt64S.l0]
  rw [if_neg (by omega)]
  simp
 | succ d ih =>
  intro i k x0 x1 hl hd he h0 h1 hk
  obtain ⟨k, rfl⟩ := succ_k hk
  simp only [laws_heldInt64S.l0]
  rw [drop_rd x0 i (by omega)] at he
  simp only [marks, List.cons.injEq] at he
  rw [if_pos (by omega), if_pos (by omega), if_pos he.1, w64 _ (by omega) (by omega), w64 _ (by omega) (by omega), cast_succ, ih (i + 1) k x0 (x1 + 1) hl (by omega) he.2 (by omega) (by omega) (by omega)]
  rw [show x1 + 1 + (d : Int) = x1 + ((d + 1 : Nat) : Int) by omega]
theorem heldInt64S_marks (m : Int) (n k : Nat) (hl : n ≤ 1048576) (h0 : 0 ≤ m) (h1 : m ≤ 4611686018426339328) (hk : n < k) :
  laws_heldInt64S.f k (marks m n) m = some (m + n) := by
 unfold laws_heldInt64S.f
 exact heldInt64S_l0 n 0 k (marks m n) m (by rw [marks_length]; omega) (by rw [marks_length]; omega) (by simp) h0 (by omega) hk

theorem heldSS_l0 : ∀ (d i : Nat) (x : List (List Int)) (t : List (List Int)) (m : Int), x.length ≤ 1048576 → i + d = x.length → x.drop i = marksSS m t → (∀ r ∈ t, r.length ≤ 1048576) → 0 ≤ m → m + tot t ≤ 4611686018426339328 →
  Evt (fun K => laws_heldInt64SS.l0 K x m (i : Int)) (m + tot t)
 | 0, i, x, t, m, hl, hd, he, hr, h0, h1 => by
  refine Evt.now fun K => ?_
  rw [laws_heldInt64SS.l0, if_neg (by omega)]
  rw [List.drop_of_length_le (by omega)] at he
  match t, he with
  | [], _ => simp [tot]
 | d + 1, i, x, t, m, hl, hd, he, hr, h0, h1 => by
  have hi : i < x.length := by omega
  have ei : wrap64 ((i : Int) + 1) = ((i + 1 : Nat) : Int) := w64n (i + 1) (by omega)
  have f1 : (i : Int) < (x.length : Int) := Int.ofNat_lt.2 hi
  rw [List.drop_eq_getElem_cons hi] at he
  match t, he, hr, h1 with
  | q :: t, he, hr, h1 =>
   unfold marksSS at he
   injection he with he1 he2
   have hq := hr q (by simp)
   rw [tot_cons] at h1
   have hm : Evt (fun K => laws_heldInt64S.f K (rd_L1 x (i : Int)) m) (m + q.length) := ⟨q.length + 1, fun K hK => by rw [rdL1_nat x i hi, he1]; exact heldInt64S_marks m q.length K hq h0 (by omega) (by omega)⟩
   have ih := heldSS_l0 d (i + 1) x t (m + q.length) hl (by omega) he2 (fun r hr' => hr r (List.mem_cons_of_mem _ hr')) (by omega) (by omega)
   have e3 : m + (tot (q :: t) : Int) = m + q.length + tot t := by
    rw [tot_cons]
    omega
   rw [e3]
   refine Evt.bind1 (h := fun K z => if z < 0 then some (-1) else laws_heldInt64SS.l0 K x z ((i + 1 : Nat) : Int)) hm (Evt.same ih fun K => if_neg (by omega)) fun K => by rw [laws_heldInt64SS.l0, if_pos f1, if_pos (Int.natCast_nonneg i), ei]
theorem marksSS_len : ∀ (l : List (List Int)) (m : Int), (marksSS m l).length = l.length
 | [], _ => rfl
 | r :: t, m => by rw [marksSS, List.length_cons, List.length_cons, marksSS_len t]
theorem heldSS_ev (l : List (List Int)) (hl : l.length ≤ 1048576) (hr : ∀ x ∈ l, x.length ≤ 1048576) : Evt (fun K => laws_heldInt64SS.f K (marksSS 1 l) 1) (1 + (tot l : Int)) :=
 heldSS_l0 (marksSS 1 l).length 0 (marksSS 1 l) l 1 (by rw [marksSS_len]; exact hl) (Nat.zero_add _) (by rw [List.drop_zero]) hr (by decide) (tot_small hl hr)

/-- One more letter behind a reduced word. -/
def redStep (out : List Int) (x : Int) : List Int :=
 if 0 < out.length ∧ rd out (((out.length - 1 : Nat) : Int)) = wrap64 (-x) then out.take (out.length - 1) else out ++ [x]
def redOf (l : List Int) : List Int := l.foldl redStep []
theorem redStep_length (out : List Int) (x : Int) : (redStep out x).length ≤ out.length + 1 := by
 unfold redStep
 split
 ·simp; omega
 ·simp
theorem foldl_length : ∀ (l out : List Int), (l.foldl redStep out).length ≤ out.length + l.length
 | [], out => by simp
 | x :: r, out => by
  have h1 := foldl_length r (redStep out x)
  have h2 := redStep_length out x
  simp only [List.foldl_cons, List.length_cons]
  omega
theorem redOf_length (l : List Int) : (redOf l).length ≤ l.length := by
 have := foldl_length l []
 simpa [redOf] using this

/-- Is a list a word? -/
def letters (g : Int) (l : List Int) : Bool := l.all fun x => decide (x ≠ 0) && (decide (-g ≤ x) && decide (x ≤ g))
/-- No letter of l cancels the one before it, out being what stands before. -/
def chainB : List Int → List Int → Bool
 | _, [] => true
 | out, x :: r => !(decide (0 < out.length) && decide (rd out ((out.length - 1 : Nat) : Int) = wrap64 (-x))) && chainB (out ++ [x]) r
theorem chain_iff : ∀ (l out : List Int), ((l.foldl redStep out).length = out.length + l.length) ↔ chainB out l = true
 | [], out => by simp [chainB]
 | x :: r, out => by
  simp only [List.foldl_cons, List.length_cons, chainB]
  by_cases h : 0 < out.length ∧ rd out ((out.length - 1 : Nat) : Int) = wrap64 (-x)
  ·have e : redStep out x = out.take (out.length - 1) := if_pos h
   have hb : (decide (0 < out.length) && decide (rd out ((out.length - 1 : Nat) : Int) = wrap64 (-x))) = true := by
    rw [decide_eq_true h.1, decide_eq_true h.2]
    rfl
   rw [hb, e]
   have := foldl_length r (out.take (out.length - 1))
   rw [List.length_take] at this
   simp
   omega
  ·have e : redStep out x = out ++ [x] := if_neg h
   have hb : (decide (0 < out.length) && decide (rd out ((out.length - 1 : Nat) : Int) = wrap64 (-x))) = false := by
    by_cases h0 : 0 < out.length
    ·rw [decide_eq_false fun h1 => h ⟨h0, h1⟩, Bool.and_false]
    ·rw [decide_eq_false h0]
     rfl
   rw [hb, e]
   have ih := chain_iff r (out ++ [x])
   simp only [List.length_append, List.length_singleton] at ih
   simp only [Bool.not_false, Bool.true_and]
   rw [← ih]
   omega
/-- A reduced word with letters up to g. -/
def redB (g : Int) (x : List Int) : Bool := letters g x && decide (x.length ≤ 120) && chainB [] x

/-- The stack of a free reduction, its top first. -/
def psh : List Int → Int → List Int
 | [], x => [x]
 | y :: t, x => if y = -x then t else x :: y :: t
def Rd : List Int → Prop
 | [] => True
 | [_] => True
 | y :: z :: t => y ≠ -z ∧ Rd (z :: t)
def Small (l : List Int) : Prop := ∀ x ∈ l, -24 ≤ x ∧ x ≤ 24
theorem Rd.tail {x : Int} {l : List Int} (h : Rd (x :: l)) : Rd l := by
 cases l with
 | nil => trivial
 | cons y t => exact h.2
theorem Rd.right : ∀ {a b : List Int}, Rd (a ++ b) → Rd b
 | [], _, h => h
 | _ :: a, _, h => Rd.right (a := a) (Rd.tail h)
theorem psh_pos {y x : Int} {t : List Int} (h : y = -x) : psh (y :: t) x = t := if_pos h
theorem psh_neg {y x : Int} {t : List Int} (h : y ≠ -x) : psh (y :: t) x = x :: y :: t := if_neg h
theorem Rd_psh {st : List Int} (h : Rd st) (x : Int) : Rd (psh st x) := by
 cases st with
 | nil => trivial
 | cons y t =>
  by_cases c : y = -x
  ·rw [psh_pos c]
   exact h.tail
  ·rw [psh_neg c]
   exact ⟨fun e => c (by omega), h⟩
theorem Rd_foldl : ∀ (l : List Int) {st : List Int}, Rd st → Rd (l.foldl psh st)
 | [], _, h => h
 | x :: l, _, h => Rd_foldl l (Rd_psh h x)
theorem foldl_reduced : ∀ (l S : List Int), Rd (l.reverse ++ S) → l.foldl psh S = l.reverse ++ S
 | [], _, _ => rfl
 | x :: l, S, h => by
  rw [List.reverse_cons, List.append_assoc] at h
  have h1 : Rd (x :: S) := Rd.right h
  have hp : psh S x = x :: S := by
   cases S with
   | nil => rfl
   | cons y t => exact psh_neg (fun e => h1.1 (by omega))
  rw [List.foldl_cons, hp, foldl_reduced l (x :: S) (by simpa using h)]
  simp
theorem wneg (x : Int) (h : -24 ≤ x ∧ x ≤ 24) : wrap64 (-x) = -x := w64 _ (by omega) (by omega)
theorem redStep_rev (st : List Int) (x : Int) (hx : -24 ≤ x ∧ x ≤ 24) : redStep st.reverse x = (psh st x).reverse := by
 unfold redStep
 rw [wneg x hx]
 cases st with
 | nil => simp [psh]
 | cons y t =>
  have hl : (y :: t).reverse.length = t.length + 1 := by simp
  have hr : rd (y :: t).reverse ((((y :: t).reverse.length - 1 : Nat)) : Int) = y := by
   rw [hl]
   simp [rd, List.getD]
  rw [hr, hl]
  by_cases c : y = -x
  ·rw [if_pos ⟨by omega, c⟩, show psh (y :: t) x = t from psh_pos c]
   simp
  ·rw [if_neg fun h => c h.2, show psh (y :: t) x = x :: y :: t from psh_neg c]
   simp
theorem foldl_rev : ∀ (l st : List Int), Small l → l.foldl redStep st.reverse = (l.foldl psh st).reverse
 | [], _, _ => rfl
 | x :: l, st, h => by
  rw [List.foldl_cons, List.foldl_cons, redStep_rev st x (h x (by simp)), foldl_rev l _ fun y hy => h y (by simp [hy])]
theorem redOf_rev (l : List Int) (h : Small l) : redOf l = (l.foldl psh []).reverse := foldl_rev l [] h
theorem psh_mem (st : List Int) (x z : Int) (h : z ∈ psh st x) : z ∈ st ∨ z = x := by
 cases st with
 | nil => exact Or.inr (by simpa [psh] using h)
 | cons y t =>
  by_cases c : y = -x
  ·rw [psh_pos c] at h
   exact Or.inl (List.mem_cons.2 (Or.inr h))
  ·rw [psh_neg c] at h
   rcases List.mem_cons.1 h with h | h
   ·exact Or.inr h
   ·exact Or.inl h
theorem foldl_mem : ∀ (l st : List Int) (z : Int), z ∈ l.foldl psh st → z ∈ st ∨ z ∈ l
 | [], _, _, h => Or.inl h
 | x :: l, st, z, h => by
  rcases foldl_mem l (psh st x) z h with h | h
  ·rcases psh_mem st x z h with h | h
   ·exact Or.inl h
   ·exact Or.inr (by simp [h])
  ·exact Or.inr (by simp [h])
theorem redOf_mem (l : List Int) (h : Small l) (z : Int) (hz : z ∈ redOf l) : z ∈ l := by
 rw [redOf_rev l h] at hz
 rcases foldl_mem l [] z (List.mem_reverse.1 hz) with h | h
 ·simp at h
 ·exact h
theorem redOf_Rd (l : List Int) (h : Small l) : Rd (redOf l).reverse := by
 rw [redOf_rev l h, List.reverse_reverse]
 exact Rd_foldl l (show Rd [] from trivial)
theorem redOf_again (r : List Int) (h : Small r) (hr : Rd r.reverse) : redOf r = r := by
 rw [redOf_rev r h, foldl_reduced r [] (by simpa using hr)]
 simp
theorem rd_cons (y : Int) (l : List Int) (i : Nat) : rd (y :: l) ((i + 1 : Nat) : Int) = rd l (i : Int) := by simp only [rd, Int.toNat_natCast]; rfl
theorem Rd_at : ∀ (l : List Int) (i : Nat), Rd l → i + 1 < l.length → rd l (i : Int) ≠ -(rd l ((i + 1 : Nat) : Int))
 | [], _, _, h => by simp at h
 | [_], _, _, h => by simp at h
 | y :: z :: t, 0, h, _ => h.1
 | y :: z :: t, i + 1, h, hi => by
  have := Rd_at (z :: t) i h.2 (by simp at hi ⊢; omega)
  rw [← rd_cons y (z :: t) i, ← rd_cons y (z :: t) (i + 1)] at this
  exact this
theorem rd_reverse (l : List Int) (i : Nat) (h : i < l.length) : rd l.reverse (i : Int) = rd l ((l.length - 1 - i : Nat) : Int) := by
 simp [rd, List.getD, List.getElem?_reverse h]
theorem inv_range (g : Int → Int) : ∀ m : Nat, (List.range (m + 1)).map (fun k : Nat => g ((m : Int) - (k : Int))) = g (m : Int) :: (List.range m).map (fun k : Nat => g ((m : Int) - 1 - (k : Int))) := by
 intro m
 rw [List.range_succ_eq_map, List.map_cons, List.map_map]
 rw [show (m : Int) - ((0 : Nat) : Int) = (m : Int) by omega]
 congr 1
 refine List.map_congr_left fun k _ => ?_
 show g ((m : Int) - ((k + 1 : Nat) : Int)) = g ((m : Int) - 1 - (k : Int))
 rw [show (m : Int) - ((k + 1 : Nat) : Int) = (m : Int) - 1 - (k : Int) by omega]
theorem specInverse_l0 (l : List Int) (hl : l.length ≤ 1048576) : ∀ (m k : Nat) (acc : List Int), m ≤ l.length → acc.length + m ≤ 2097152 → m < k →
  spec_l04Inverse.l0 k l acc ((m : Int) - 1) = some (acc ++ (List.range m).map fun i : Nat => wrap64 (-(rd l ((m : Int) - 1 - (i : Int))))) := by
 intro m
 induction m with
 | zero =>
  intro k acc hm ha hk
  obtain ⟨k, rfl⟩ := succ_k hk
  simp only [spec_l04Inverse.l0]
  rw [if_neg (by omega)]
  simp
 | succ m ih =>
  intro k acc hm ha hk
  obtain ⟨k, rfl⟩ := succ_k hk
  have e : ((m + 1 : Nat) : Int) - 1 = (m : Int) := by omega
  rw [e]
  simp only [spec_l04Inverse.l0]
  rw [if_pos (by omega), if_pos (by omega), if_pos (by omega), if_pos (by omega), w64 ((m : Int) - 1) (by omega) (by omega), ih k _ (by omega) (by simp; omega) (by omega), inv_range (fun i => wrap64 (-(rd l i))) m]
  simp
theorem specInverse_eq (l : List Int) (k : Nat) (hl : l.length ≤ 1048576) (hk : l.length < k) : spec_l04Inverse.f k l = some (invWord l) := by
 unfold spec_l04Inverse.f
 rw [w64 ((l.length : Int) - 1) (by omega) (by omega), specInverse_l0 l hl l.length k [] (Nat.le_refl _) (by simp; omega) hk]
 simp [invWord, backUpto, Function.comp_def]
theorem invWord_length (l : List Int) : (invWord l).length = l.length := by simp [invWord, backUpto]
theorem chain_same : ∀ (l out : List Int), chainB out l = true → l.foldl redStep out = out ++ l
 | [], out, _ => by simp
 | x :: r, out, h => by
  simp only [chainB, Bool.and_eq_true, Bool.not_eq_true'] at h
  have e : redStep out x = out ++ [x] := by
   unfold redStep
   rw [if_neg]
   rintro ⟨h1, h2⟩
   have := h.1
   rw [decide_eq_true h1, decide_eq_true h2] at this
   cases this
  rw [List.foldl_cons, e, chain_same r _ h.2, List.append_assoc]
  rfl
theorem redB_facts {g : Int} {x : List Int} (hg : g ≤ 24) (h : redB g x = true) : Small x ∧ x.length ≤ 120 ∧ redOf x = x ∧ Rd x.reverse ∧ ∀ y ∈ x, -g ≤ y ∧ y ≤ g ∧ y ≠ 0 := by
 unfold redB letters at h
 simp only [Bool.and_eq_true, decide_eq_true_eq, List.all_eq_true] at h
 obtain ⟨⟨h1, h2⟩, h3⟩ := h
 have hs : Small x := fun y hy => by have := h1 y hy; omega
 have hr : redOf x = x := by
  unfold redOf
  rw [chain_same x [] h3]
  rfl
 refine ⟨hs, h2, hr, ?_, fun y hy => by have := h1 y hy; omega⟩
 have := redOf_Rd x hs
 rwa [hr] at this
theorem Rd_of : ∀ (l : List Int), (∀ i : Nat, i + 1 < l.length → rd l (i : Int) ≠ -(rd l ((i + 1 : Nat) : Int))) → Rd l
 | [], _ => trivial
 | [_], _ => trivial
 | y :: z :: t, h => by
  refine ⟨?_, Rd_of (z :: t) fun i hi => ?_⟩
  ·have := h 0 (by simp)
   rw [rd_cons y (z :: t) 0] at this
   simpa [rd] using this
  ·have := h (i + 1) (by simp at hi ⊢; omega)
   rw [rd_cons y (z :: t) i, rd_cons y (z :: t) (i + 1)] at this
   exact this
theorem Rd_reverse (l : List Int) (h : Rd l) : Rd l.reverse := by
 refine Rd_of _ fun i hi => ?_
 rw [List.length_reverse] at hi
 rw [rd_reverse l i (by omega), rd_reverse l (i + 1) (by omega)]
 have h1 := Rd_at l (l.length - 1 - (i + 1)) h (by omega)
 rw [show l.length - 1 - (i + 1) + 1 = l.length - 1 - i by omega] at h1
 omega
theorem Rd_neg : ∀ (l : List Int), Rd l → Rd (l.map fun x => -x)
 | [], _ => trivial
 | [_], _ => trivial
 | y :: z :: t, h => ⟨by have := h.1; show -y ≠ - -z; omega, Rd_neg (z :: t) h.2⟩
theorem invWord_at (l : List Int) (i : Nat) (h : i < l.length) : (invWord l)[i]'(by rw [invWord_length]; exact h) = wrap64 (-(l[l.length - 1 - i]'(by omega))) := by
 unfold invWord backUpto
 simp only [List.map_map, List.getElem_map, List.getElem_range, Function.comp]
 rw [show (l.length : Int) - 1 - (i : Int) = ((l.length - 1 - i : Nat) : Int) by omega, rd_nat l _ (by omega)]
theorem mem_invWord {l : List Int} {y : Int} (h : y ∈ invWord l) : ∃ x ∈ l, y = wrap64 (-x) := by
 obtain ⟨i, hi, rfl⟩ := List.mem_iff_getElem.1 h
 rw [invWord_length] at hi
 exact ⟨_, List.getElem_mem _, invWord_at l i hi⟩
theorem invWord_small {l : List Int} (h : Small l) : Small (invWord l) := fun y hy => by
 obtain ⟨x, hx, rfl⟩ := mem_invWord hy
 have := h x hx
 rw [wneg x this]
 omega
theorem invWord_rev {l : List Int} (h : Small l) : (invWord l).reverse = l.map fun x => -x := by
 refine List.ext_getElem (by simp [invWord_length]) fun i h1 h2 => ?_
 rw [List.length_map] at h2
 rw [List.getElem_reverse, invWord_at l _ (by rw [invWord_length]; omega), List.getElem_map]
 have e : l.length - 1 - ((invWord l).length - 1 - i) = i := by rw [invWord_length]; omega
 have e2 : l[l.length - 1 - ((invWord l).length - 1 - i)]'(by omega) = l[i] := by congr 1
 rw [e2, wneg _ (h _ (List.getElem_mem _))]
theorem redOf_inv {l : List Int} (h : Small l) (hr : Rd l.reverse) : redOf (invWord l) = invWord l := by
 refine redOf_again _ (invWord_small h) ?_
 rw [invWord_rev h]
 refine Rd_neg l ?_
 have := Rd_reverse _ hr
 rwa [List.reverse_reverse] at this
theorem chainB_last : ∀ (r : List Int) (a : Int) (o1 o2 : List Int), chainB (o1 ++ [a]) r = chainB (o2 ++ [a]) r
 | [], _, _, _ => rfl
 | x :: r, a, o1, o2 => by
  have e : ∀ o : List Int, rd (o ++ [a]) (((o ++ [a]).length - 1 : Nat) : Int) = a := fun o => by
   rw [List.length_append, List.length_singleton, Nat.add_sub_cancel, rd_nat _ _ (by simp)]
   simp
  have p : ∀ o : List Int, decide (0 < (o ++ [a]).length) = true := fun o => decide_eq_true (by simp)
  simp only [chainB, e, p]
  rw [chainB_last r x (o1 ++ [a]) (o2 ++ [a])]
theorem chain_front {n : Int} : ∀ {l : List Int}, chainB [] l = true → (∀ y ∈ l, n ≠ wrap64 (-y)) → chainB [n] l = true
 | [], _, _ => rfl
 | x :: r, h, hc => by
  simp only [chainB, Bool.and_eq_true] at h ⊢
  have h2 := h.2
  rw [chainB_last r x [] [n]] at h2
  refine ⟨?_, h2⟩
  have : rd [n] ((([n] : List Int).length - 1 : Nat) : Int) = n := rfl
  rw [this, decide_eq_false (hc x List.mem_cons_self), Bool.and_false]
  rfl
theorem redOf_cons {n : Int} {l : List Int} (hx : chainB [n] l = true) : redOf (n :: l) = n :: l := by
 unfold redOf
 rw [List.foldl_cons]
 have e : redStep [] n = [n] := by simp [redStep]
 rw [e, chain_same l [n] hx]
 rfl
theorem redB_chain {g : Int} {x : List Int} (h : redB g x = true) : chainB [] x = true := by
 unfold redB at h
 simp only [Bool.and_eq_true] at h
 exact h.2

theorem redStep_mem {out : List Int} {x y : Int} (h : y ∈ redStep out x) : y ∈ out ∨ y = x := by
 unfold redStep at h
 split at h
 ·exact Or.inl (List.mem_of_mem_take h)
 ·rcases List.mem_append.1 h with h | h
  ·exact Or.inl h
  ·exact Or.inr (List.mem_singleton.1 h)
theorem redStep_map (f : Int → Int) (p : Int → Prop) (hf : ∀ x y, p x → p y → (f y = wrap64 (-(f x)) ↔ y = wrap64 (-x))) (out : List Int) (x : Int) (ho : ∀ y ∈ out, p y) (hx : p x) : redStep (out.map f) (f x) = (redStep out x).map f := by
 unfold redStep
 by_cases h0 : 0 < out.length
 ·have hr : rd (out.map f) ((((out.map f).length - 1 : Nat) : Int)) = f (rd out ((out.length - 1 : Nat) : Int)) := by
   rw [List.length_map, rd_nat _ _ (by rw [List.length_map]; omega), rd_nat _ _ (by omega), List.getElem_map]
  have hm : p (rd out ((out.length - 1 : Nat) : Int)) := by
   rw [rd_nat _ _ (by omega)]
   exact ho _ (List.getElem_mem _)
  rw [hr]
  by_cases h1 : rd out ((out.length - 1 : Nat) : Int) = wrap64 (-x)
  ·rw [if_pos ⟨by rw [List.length_map]; exact h0, (hf x _ hx hm).2 h1⟩, if_pos ⟨h0, h1⟩, List.length_map, List.map_take]
  ·rw [if_neg fun h => h1 ((hf x _ hx hm).1 h.2), if_neg fun h => h1 h.2, List.map_append]
   rfl
 ·rw [if_neg fun h => h0 (by have := h.1; rwa [List.length_map] at this), if_neg fun h => h0 h.1, List.map_append]
  rfl
theorem fold_map (f : Int → Int) (p : Int → Prop) (hf : ∀ x y, p x → p y → (f y = wrap64 (-(f x)) ↔ y = wrap64 (-x))) : ∀ (l out : List Int), (∀ y ∈ l, p y) → (∀ y ∈ out, p y) → (l.map f).foldl redStep (out.map f) = (l.foldl redStep out).map f
 | [], _, _, _ => rfl
 | x :: l, out, hl, ho => by
  rw [List.map_cons, List.foldl_cons, List.foldl_cons, redStep_map f p hf out x ho (hl x List.mem_cons_self)]
  exact fold_map f p hf l _ (fun y hy => hl y (List.mem_cons_of_mem _ hy)) fun y hy => by
   rcases redStep_mem hy with h | h
   ·exact ho y h
   ·rw [h]; exact hl x List.mem_cons_self
theorem redOf_map (f : Int → Int) (p : Int → Prop) (hf : ∀ x y, p x → p y → (f y = wrap64 (-(f x)) ↔ y = wrap64 (-x))) (l : List Int) (hl : ∀ y ∈ l, p y) : redOf (l.map f) = (redOf l).map f := fold_map f p hf l [] hl (by simp)
/-- A letter that the removal leaves. -/
def OffJ (j x : Int) : Prop := (-24 ≤ x ∧ x ≤ 24) ∧ x ≠ j ∧ x ≠ -j
theorem lowOne_eq (j x : Int) (hj : 1 ≤ j ∧ j ≤ 24) (hx : -24 ≤ x ∧ x ≤ 24) : lowOne j x = if j < x then x - 1 else if x < -j then x + 1 else x := by
 unfold lowOne absI sgnI
 by_cases h0 : x < 0
 ·rw [if_pos h0, if_pos h0, wneg x hx]
  by_cases h1 : j < -x
  ·rw [if_pos h1, if_neg (by omega), if_pos (by omega), w64 _ (by omega) (by omega)]
   omega
  ·rw [if_neg h1, if_neg (by omega), if_neg (by omega)]
 ·rw [if_neg h0, if_neg h0]
  by_cases h1 : j < x
  ·rw [if_pos h1, if_pos h1, w64 _ (by omega) (by omega)]
  ·rw [if_neg h1, if_neg h1, if_neg (by omega)]
theorem low_odd (j : Int) (hj : 1 ≤ j ∧ j ≤ 24) (x y : Int) (hx : OffJ j x) (hy : OffJ j y) : lowOne j y = wrap64 (-(lowOne j x)) ↔ y = wrap64 (-x) := by
 obtain ⟨⟨a1, a2⟩, a3, a4⟩ := hx
 obtain ⟨⟨b1, b2⟩, b3, b4⟩ := hy
 have hl : -24 ≤ lowOne j x ∧ lowOne j x ≤ 24 := by
  rw [lowOne_eq j x hj ⟨a1, a2⟩]
  split
  ·omega
  ·split <;> omega
 rw [wneg x ⟨a1, a2⟩, wneg _ hl, lowOne_eq j x hj ⟨a1, a2⟩, lowOne_eq j y hj ⟨b1, b2⟩]
 split
 ·split <;> (try split) <;> omega
 ·split
  ·split
   ·omega
   ·split <;> omega
  ·split
   ·omega
   ·split <;> omega

theorem specReduce_l0 (l : List Int) (hl : l.length ≤ 1099511627776) : ∀ (d i k : Nat) (out : List Int), i + d = l.length → out.length ≤ i → d < k →
  spec_l04Reduce.l0 k l out (i : Int) = some ((l.drop i).foldl redStep out) := by
 intro d
 induction d with
 | zero =>
  intro i k out hd ho hk
  obtain ⟨k, rfl⟩ := succ_k hk
  simp only [spec_l04Reduce.l0]
  rw [if_neg (by omega), List.drop_of_length_le (by omega)]
  rfl
 | succ d ih =>
  intro i k out hd ho hk
  obtain ⟨k, rfl⟩ := succ_k hk
  have hs := redStep_length out (rd l (i : Int))
  simp only [spec_l04Reduce.l0]
  rw [if_pos (by omega), drop_rd l i (by omega), List.foldl_cons, w64 ((i : Int) + 1) (by omega) (by omega), cast_succ]
  by_cases h0 : 0 < out.length
  ·have e1 : wrap64 ((out.length : Int) - 1) = ((out.length - 1 : Nat) : Int) := by rw [w64 _ (by omega) (by omega)]; omega
   rw [if_pos (by omega), e1, if_pos (by omega), if_pos (by omega), if_pos (by omega)]
   by_cases h1 : rd out (((out.length - 1 : Nat) : Int)) = wrap64 (-(rd l (i : Int)))
   ·have e2 : redStep out (rd l (i : Int)) = out.take (out.length - 1) := if_pos ⟨h0, h1⟩
    rw [if_pos h1, if_pos (by omega), Int.toNat_natCast, e2, ih (i + 1) k _ (by omega) (by simp; omega) (by omega)]
   ·have e2 : redStep out (rd l (i : Int)) = out ++ [rd l (i : Int)] := if_neg fun h => h1 h.2
    rw [if_neg h1, if_pos (by omega), e2, ih (i + 1) k _ (by omega) (by simp; omega) (by omega)]
  ·have e2 : redStep out (rd l (i : Int)) = out ++ [rd l (i : Int)] := if_neg fun h => h0 h.1
   rw [if_neg (by omega), if_pos (by omega), if_pos (by omega), e2, ih (i + 1) k _ (by omega) (by simp; omega) (by omega)]
theorem specReduce_eq (l : List Int) (k : Nat) (hl : l.length ≤ 1099511627776) (hk : l.length < k) : spec_l04Reduce.f k l = some (redOf l) := by
 have := specReduce_l0 l hl l.length 0 k [] (by omega) (by simp) hk
 unfold spec_l04Reduce.f redOf
 simpa using this

theorem rplOne_off {j : Int} (hj : 1 ≤ j ∧ j ≤ 24) {b : List Int} (hb : ∀ y ∈ b, OffJ j y) (x : Int) (hx : -24 ≤ x ∧ x ≤ 24) : ∀ y ∈ rplOne j b x, OffJ j y := by
 intro y hy
 unfold rplOne at hy
 rw [wneg j (by omega)] at hy
 split at hy
 ·exact hb y hy
 ·split at hy
  ·obtain ⟨z, hz, rfl⟩ := mem_invWord hy
   have h1 := hb z hz
   obtain ⟨h2, h3, h4⟩ := h1
   rw [wneg z h2]
   exact ⟨by omega, by omega, by omega⟩
  ·rw [List.mem_singleton.1 hy]
   exact ⟨hx, by assumption, by assumption⟩
theorem rplAll_off {j : Int} (hj : 1 ≤ j ∧ j ≤ 24) {b w : List Int} (hb : ∀ y ∈ b, OffJ j y) (hw : Small w) : ∀ y ∈ rplAll j b w, OffJ j y := by
 intro y hy
 obtain ⟨x, hx, h⟩ := List.mem_flatMap.1 hy
 exact rplOne_off hj hb x (hw x hx) y h
theorem rplAll_cons (j : Int) (b : List Int) (x : Int) (t : List Int) : rplAll j b (x :: t) = rplOne j b x ++ rplAll j b t := by simp [rplAll]
theorem rplAll_le (j : Int) (b : List Int) (m : Nat) (hm : 1 ≤ m) (hb : b.length ≤ m) : ∀ l : List Int, (rplAll j b l).length ≤ m * l.length
 | [] => by simp [rplAll]
 | x :: t => by
  have h1 : (rplOne j b x).length ≤ m := by
   unfold rplOne
   split
   ·exact hb
   ·split
    ·rw [invWord_length]; exact hb
    ·exact hm
  have h2 := rplAll_le j b m hm hb t
  rw [rplAll_cons, List.length_append, List.length_cons, Nat.mul_succ]
  omega
theorem specPut_l1 (j : Int) (hj : 1 ≤ j ∧ j ≤ 24) (v : List Int) (hv : Small v) (hl : v.length ≤ 1000000) : ∀ (d i k : Nat), i + d = v.length → d < k → spec_l04Put.l1 k j (lowTo j v i) (i : Int) = some (v.map (lowOne j)) := by
 intro d
 induction d with
 | zero =>
  intro i k hd hk
  obtain ⟨k, rfl⟩ := succ_k hk
  have e : lowTo j v i = v.map (lowOne j) := by
   unfold lowTo
   rw [List.take_of_length_le (by omega), List.drop_of_length_le (by omega), List.append_nil]
  rw [spec_l04Put.l1, e, if_neg (by rw [List.length_map]; omega)]
 | succ d ih =>
  intro i k hd hk
  obtain ⟨k, rfl⟩ := succ_k hk
  have hi : i < v.length := by omega
  have hx := hv _ (List.getElem_mem hi)
  rw [← rd_nat v i hi] at hx
  have hlen := lowTo_len j v i
  rw [spec_l04Put.l1, if_pos (by rw [hlen]; omega), if_pos (Int.natCast_nonneg i), lowTo_rd j v i hi, wneg j (by omega), w64 ((i : Int) + 1) (by omega) (by omega), cast_succ, Int.toNat_natCast]
  have hlow := lowOne_eq j (rd v (i : Int)) hj hx
  by_cases h1 : rd v (i : Int) > j
  ·rw [if_pos (show j < rd v (i : Int) from h1)] at hlow
   rw [if_pos h1, w64 (rd v (i : Int) - 1) (by omega) (by omega), ← hlow, lowTo_set j v i hi]
   exact ih (i + 1) k (by omega) (by omega)
  ·rw [if_neg (show ¬ j < rd v (i : Int) from h1)] at hlow
   rw [if_neg h1]
   by_cases h2 : rd v (i : Int) < -j
   ·rw [if_pos h2] at hlow
    rw [if_pos h2, w64 (rd v (i : Int) + 1) (by omega) (by omega), ← hlow, lowTo_set j v i hi]
    exact ih (i + 1) k (by omega) (by omega)
   ·rw [if_neg h2] at hlow
    rw [if_neg h2, lowTo_keep j v i hi hlow]
    exact ih (i + 1) k (by omega) (by omega)
theorem specPut_l0 (j : Int) (hj : 1 ≤ j ∧ j ≤ 24) (b w : List Int) (hb : ∀ y ∈ b, OffJ j y) (hbl : b.length ≤ 120) (hw : Small w) (hwl : w.length ≤ 120) : ∀ (d i k : Nat) (acc : List Int), i + d = w.length → (∀ y ∈ acc, OffJ j y) → acc.length ≤ 120 * i → d + 50000 < k →
  spec_l04Put.l0 k w j b acc (i : Int) = some ((redOf (acc ++ rplAll j b (w.drop i))).map (lowOne j)) := by
 intro d
 induction d with
 | zero =>
  intro i k acc hd ha hal hk
  obtain ⟨k, rfl⟩ := succ_k hk
  rw [spec_l04Put.l0, if_neg (by omega), List.drop_of_length_le (by omega), show rplAll j b [] = [] from rfl, List.append_nil, specReduce_eq acc k (by omega) (by omega), Option.bind_some]
  have h1 := redOf_length acc
  have hsm : Small acc := fun y hy => (ha y hy).1
  have := specPut_l1 j hj (redOf acc) (fun y hy => hsm y (redOf_mem acc hsm y hy)) (by omega) (redOf acc).length 0 k (by omega) (by omega)
  have e0 : lowTo j (redOf acc) 0 = redOf acc := by simp [lowTo]
  rw [e0] at this
  exact this
 | succ d ih =>
  intro i k acc hd ha hal hk
  obtain ⟨k, rfl⟩ := succ_k hk
  have hi : i < w.length := by omega
  have hx := hw _ (List.getElem_mem hi)
  rw [← rd_nat w i hi] at hx
  have hoff := rplOne_off hj hb (rd w (i : Int)) hx
  have hi120 : 120 * i ≤ 14400 := by omega
  have e3 : (acc ++ rplOne j b (rd w (i : Int))) ++ rplAll j b (w.drop (i + 1)) = acc ++ rplAll j b (w.drop i) := by rw [drop_rd w i hi, rplAll_cons, List.append_assoc]
  have hacc : ∀ y ∈ acc ++ rplOne j b (rd w (i : Int)), OffJ j y := fun y hy => by
   rcases List.mem_append.1 hy with h | h
   ·exact ha y h
   ·exact hoff y h
  have hlen1 : (rplOne j b (rd w (i : Int))).length ≤ 120 := by
   unfold rplOne
   split
   ·exact hbl
   ·split
    ·rw [invWord_length]; exact hbl
    ·show 1 ≤ 120; omega
  have hlen2 : (acc ++ rplOne j b (rd w (i : Int))).length ≤ 120 * (i + 1) := by rw [List.length_append]; omega
  have hih := ih (i + 1) k _ (by omega) hacc hlen2 (by omega)
  rw [e3] at hih
  rw [spec_l04Put.l0, if_pos (by omega), if_pos (Int.natCast_nonneg i), w64 ((i : Int) + 1) (by omega) (by omega), cast_succ, ← hih]
  unfold rplOne at *
  by_cases h1 : rd w (i : Int) = j
  ·rw [if_pos h1, if_pos (by omega), if_pos h1]
  ·rw [if_neg h1, if_neg h1]
   by_cases h2 : rd w (i : Int) = wrap64 (-j)
   ·rw [if_pos h2, if_pos h2, specInverse_eq b k (by omega) (by omega), Option.bind_some, if_pos (by rw [invWord_length]; omega)]
   ·rw [if_neg h2, if_neg h2, if_pos (by omega)]
theorem specPut_eq (j : Int) (hj : 1 ≤ j ∧ j ≤ 24) (b w : List Int) (hb : ∀ y ∈ b, OffJ j y) (hbl : b.length ≤ 120) (hw : Small w) (hwl : w.length ≤ 120) (k : Nat) (hk : 50200 < k) :
  spec_l04Put.f k w j b = some ((redOf (rplAll j b w)).map (lowOne j)) := by
 have := specPut_l0 j hj b w hb hbl hw hwl w.length 0 k [] (by omega) (by simp) (by simp) (by omega)
 unfold spec_l04Put.f
 simpa using this
theorem rmRow_red (j : Int) (hj : 1 ≤ j ∧ j ≤ 24) (b w : List Int) (hb : ∀ y ∈ b, OffJ j y) (hw : Small w) : redOf (rmRow j b w) = (redOf (rplAll j b w)).map (lowOne j) :=
 redOf_map (lowOne j) (OffJ j) (fun x y hx hy => low_odd j hj x y hx hy) _ (rplAll_off hj hb hw)

theorem absI_small (x : Int) (hx : -24 ≤ x ∧ x ≤ 24) (j : Int) (hj : 1 ≤ j ∧ j ≤ 24) : (absI x == j) = (decide (x = j) || decide (x = -j)) := by
 unfold absI
 rw [Bool.eq_iff_iff, Bool.or_eq_true, beq_iff_eq, decide_eq_true_eq, decide_eq_true_eq]
 split
 ·rw [wneg x hx]; omega
 ·omega
/-- Exactly one letter of l passes p: where it stands. -/
theorem idx_split (p : Int → Bool) : ∀ (l : List Int) (i : Int), l.countP p = 1 → ∃ a, a < l.length ∧ idxOf p l i = i + (a : Int) ∧ (∀ y ∈ l.take a, p y = false) ∧ ∀ y ∈ l.drop (a + 1), p y = false
 | [], _, h => by simp at h
 | x :: t, i, h => by
  by_cases hx : p x = true
  ·rw [List.countP_cons_of_pos hx] at h
   have h0 : t.countP p = 0 := by omega
   refine ⟨0, by simp, by simp [idxOf, hx], by simp, fun y hy => ?_⟩
   have := List.countP_eq_zero.1 h0 y (by simpa using hy)
   simpa using this
  ·rw [List.countP_cons_of_neg hx] at h
   obtain ⟨a, h1, h2, h3, h4⟩ := idx_split p t (i + 1) h
   refine ⟨a + 1, by simp; omega, ?_, ?_, ?_⟩
   ·rw [idxOf, if_neg hx, h2]; omega
   ·intro y hy
    rw [List.take_succ_cons] at hy
    rcases List.mem_cons.1 hy with hy | hy
    ·rw [hy]; simpa using hx
    ·exact h3 y hy
   ·intro y hy
    rw [List.drop_succ_cons] at hy
    exact h4 y hy
theorem specSolve_l0 (j : Int) (hj : 1 ≤ j ∧ j ≤ 24) (w : List Int) (hw : Small w) (hwl : w.length ≤ 120) : ∀ (d i k : Nat), i + d = w.length → 0 ≤ idxOf (fun x => absI x == j) (w.drop i) (i : Int) → d + 500 < k →
  spec_l04Solve.l0 k w j (i : Int) = some (rmBy w (idxOf (fun x => absI x == j) (w.drop i) (i : Int)).toNat) := by
 intro d
 induction d with
 | zero =>
  intro i k hd h0 hk
  rw [List.drop_of_length_le (by omega)] at h0
  simp [idxOf] at h0
 | succ d ih =>
  intro i k hd h0 hk
  obtain ⟨k, rfl⟩ := succ_k hk
  have hi : i < w.length := by omega
  have hx := hw _ (List.getElem_mem hi)
  rw [← rd_nat w i hi] at hx
  have hab := absI_small (rd w (i : Int)) hx j hj
  have hdr := drop_rd w i hi
  rw [hdr] at h0 ⊢
  rw [idxOf] at h0 ⊢
  have hw1 : wrap64 ((i : Int) + 1) = ((i + 1 : Nat) : Int) := by rw [w64 _ (by omega) (by omega)]; omega
  have hd1 : (w.drop (i + 1)).length ≤ 120 := by rw [List.length_drop]; omega
  have ht1 : (w.take i).length ≤ 120 := by rw [List.length_take]; omega
  have g1 : (i : Int) < (w.length : Int) := by omega
  have g2 : ((i + 1 : Nat) : Int) ≤ (w.length : Int) := by omega
  have g3 : (0 : Int) ≤ ((i + 1 : Nat) : Int) := by omega
  have g4 : (i : Int) ≤ (w.length : Int) := by omega
  have g5 : ([] : List Int).length + (w.drop (i + 1)).length < 17592186044416 := by simp only [List.length_nil]; omega
  have g6 : (w.drop (i + 1)).length + (w.take i).length < 17592186044416 := by omega
  rw [spec_l04Solve.l0, if_pos (Int.natCast_nonneg i), if_pos g1, hw1, wneg j (by omega)]
  simp only [Option.bind_some, List.nil_append, Int.toNat_natCast]
  by_cases h1 : rd w (i : Int) = j
  ·have hp : (absI (rd w (i : Int)) == j) = true := by rw [hab, decide_eq_true h1]; rfl
   rw [if_pos h1, if_pos g3, if_pos g2, if_pos (by simpa using g5), if_pos g4, if_pos g6, specInverse_eq _ k (by rw [List.length_append]; omega) (by rw [List.length_append]; omega), Option.bind_some, if_pos hp, Int.toNat_natCast]
   unfold rmBy
   rw [if_pos (by omega)]
  ·rw [if_neg h1]
   by_cases h2 : rd w (i : Int) = -j
   ·have hp : (absI (rd w (i : Int)) == j) = true := by rw [hab, decide_eq_true h2, Bool.or_true]
    rw [if_pos h2, if_pos g3, if_pos g2, if_pos (by simpa using g5), if_pos g4, if_pos g6, if_pos hp, Int.toNat_natCast]
    unfold rmBy
    rw [if_neg (by omega)]
   ·have hp : ¬ (absI (rd w (i : Int)) == j) = true := by
     rw [hab, decide_eq_false h1, decide_eq_false h2]
     simp
    rw [if_neg hp] at h0
    rw [if_neg h2, if_neg hp]
    rw [show (i : Int) + 1 = ((i + 1 : Nat) : Int) by omega] at h0 ⊢
    exact ih (i + 1) k (by omega) h0 (by omega)
theorem specSolve_eq (j : Int) (hj : 1 ≤ j ∧ j ≤ 24) (w : List Int) (hw : Small w) (hwl : w.length ≤ 120) (k : Nat) (h0 : 0 ≤ idxOf (fun x => absI x == j) w 0) (hk : 1000 < k) :
  spec_l04Solve.f k w j = some (rmBy w (idxOf (fun x => absI x == j) w 0).toNat) := by
 have := specSolve_l0 j hj w hw hwl w.length 0 k (by omega) (by simpa using h0) (by omega)
 unfold spec_l04Solve.f
 simpa using this
theorem rmBy_off (j : Int) (hj : 1 ≤ j ∧ j ≤ 24) (w : List Int) (hw : Small w) (hwl : w.length ≤ 120) (hc : w.countP (fun x => absI x == j) = 1) :
  0 ≤ idxOf (fun x => absI x == j) w 0 ∧ (rmBy w (idxOf (fun x => absI x == j) w 0).toNat).length ≤ 120 ∧ ∀ y ∈ rmBy w (idxOf (fun x => absI x == j) w 0).toNat, OffJ j y := by
 obtain ⟨a, h1, h2, h3, h4⟩ := idx_split _ w 0 hc
 rw [h2, Int.zero_add, Int.toNat_natCast]
 have hl : (w.drop (a + 1) ++ w.take a).length ≤ 120 := by rw [List.length_append, List.length_drop, List.length_take]; omega
 have ho : ∀ y ∈ w.drop (a + 1) ++ w.take a, OffJ j y := by
  intro y hy
  have hm : y ∈ w := by
   rcases List.mem_append.1 hy with h | h
   ·exact List.mem_of_mem_drop h
   ·exact List.mem_of_mem_take h
  have hp : (absI y == j) = false := by
   rcases List.mem_append.1 hy with h | h
   ·exact h4 y h
   ·exact h3 y h
  rw [absI_small y (hw y hm) j hj] at hp
  simp only [Bool.or_eq_false_iff, decide_eq_false_iff_not] at hp
  exact ⟨hw y hm, hp.1, hp.2⟩
 refine ⟨by omega, ?_, ?_⟩
 ·unfold rmBy
  split
  ·rw [invWord_length]; exact hl
  ·exact hl
 ·unfold rmBy
  split
  ·intro y hy
   obtain ⟨x, hx, rfl⟩ := mem_invWord hy
   obtain ⟨o1, o2, o3⟩ := ho x hx
   rw [wneg x o1]
   exact ⟨by omega, by omega, by omega⟩
  ·exact ho

theorem specCount_l0 (x : Int) (w : List Int) (hl : w.length ≤ 120) : ∀ (d i k : Nat) (c : Nat), i + d = w.length → c ≤ i → d < k → spec_l04Count.l0 k w x (c : Int) (i : Int) = some (((c + (w.drop i).countP (fun y => decide (y = x)) : Nat) : Int)) := by
 intro d
 induction d with
 | zero =>
  intro i k c hd hc hk
  obtain ⟨k, rfl⟩ := succ_k hk
  rw [spec_l04Count.l0, if_neg (by omega), List.drop_of_length_le (by omega)]
  simp
 | succ d ih =>
  intro i k c hd hc hk
  obtain ⟨k, rfl⟩ := succ_k hk
  rw [spec_l04Count.l0, if_pos (by omega), if_pos (by omega), w64 ((i : Int) + 1) (by omega) (by omega), w64 ((c : Int) + 1) (by omega) (by omega), cast_succ, cast_succ, drop_rd w i (by omega)]
  by_cases h : rd w (i : Int) = x
  ·rw [if_pos h, ih (i + 1) k (c + 1) (by omega) (by omega) (by omega), List.countP_cons_of_pos (by simpa using h)]
   congr 2
   omega
  ·rw [if_neg h, ih (i + 1) k c (by omega) (by omega) (by omega), List.countP_cons_of_neg (by simpa using h)]
theorem specCount_eq (x : Int) (w : List Int) (hl : w.length ≤ 120) (k : Nat) (hk : 120 < k) : spec_l04Count.f k w x = some ((w.countP (fun y => decide (y = x)) : Nat) : Int) := by
 have := specCount_l0 x w hl w.length 0 k 0 (by omega) (by omega) (by omega)
 unfold spec_l04Count.f
 simpa using this
theorem occ_l0 (x : Int) (w : List Int) (hl : w.length ≤ 120) : ∀ (d i k : Nat) (c : Nat), i + d = w.length → c ≤ i → d < k → impl_occurrences.l0 k x (c : Int) w (w.length : Int) (i : Int) = some (((c + (w.drop i).countP (fun y => absI y == x) : Nat) : Int)) := by
 intro d
 induction d with
 | zero =>
  intro i k c hd hc hk
  obtain ⟨k, rfl⟩ := succ_k hk
  rw [impl_occurrences.l0, if_neg (by omega), List.drop_of_length_le (by omega)]
  simp
 | succ d ih =>
  intro i k c hd hc hk
  obtain ⟨k, rfl⟩ := succ_k hk
  rw [impl_occurrences.l0, if_pos (by omega), if_pos (by omega), if_pos (by omega), absI_f, Option.bind_some, w64 ((i : Int) + 1) (by omega) (by omega), w64 ((c : Int) + 1) (by omega) (by omega), cast_succ, cast_succ, drop_rd w i (by omega)]
  by_cases h : absI (rd w (i : Int)) = x
  ·rw [if_pos h, ih (i + 1) k (c + 1) (by omega) (by omega) (by omega), List.countP_cons_of_pos (by simpa using h)]
   congr 2
   omega
  ·rw [if_neg h, ih (i + 1) k c (by omega) (by omega) (by omega), List.countP_cons_of_neg (by simpa using h)]
theorem occ_eq (x : Int) (w : List Int) (hl : w.length ≤ 120) (k : Nat) (hk : 120 < k) : impl_occurrences.f k w x = some ((w.countP (fun y => absI y == x) : Nat) : Int) := by
 have := occ_l0 x w hl w.length 0 k 0 (by omega) (by omega) (by omega)
 unfold impl_occurrences.f
 simpa using this
theorem count_two (j : Int) (hj : 1 ≤ j ∧ j ≤ 24) : ∀ (w : List Int), Small w → w.countP (fun y => decide (y = j)) + w.countP (fun y => decide (y = -j)) = w.countP (fun y => absI y == j)
 | [], _ => rfl
 | x :: t, h => by
  have ih := count_two j hj t fun y hy => h y (List.mem_cons_of_mem _ hy)
  have ha := absI_small x (h x List.mem_cons_self) j hj
  simp only [List.countP_cons, ha]
  by_cases h1 : x = j
  ·have h2 : ¬ x = -j := by omega
   simp [h1, h2, show ¬ j = -j by omega]
   omega
  ·by_cases h2 : x = -j
   ·simp [h1, h2, show ¬ -j = j by omega]
    omega
   ·simp [h1, h2]
    omega

theorem specCopy_all (l : List (List Int)) (s : Int) (hl : l.length ≤ 1000) (hr : ∀ x ∈ l, x.length ≤ 1048576) : ∀ (d i k : Nat) (acc : List (List Int)), i + d = l.length → (s < (i : Int) ∨ (l.length : Int) ≤ s) → acc.length ≤ i → d < k →
  spec_l04Copy.l0 k l s acc (i : Int) = some (acc ++ l.drop i) := by
 intro d
 induction d with
 | zero =>
  intro i k acc hd hs ha hk
  obtain ⟨k, rfl⟩ := succ_k hk
  rw [spec_l04Copy.l0, if_neg (by omega), List.drop_of_length_le (by omega), List.append_nil]
 | succ d ih =>
  intro i k acc hd hs ha hk
  obtain ⟨k, rfl⟩ := succ_k hk
  have hm := hr _ (rdL1_mem l i (by omega))
  rw [spec_l04Copy.l0, if_pos (by omega), if_neg (by omega), Option.bind_some, if_pos (by omega), if_pos (by simp; omega), if_pos (by omega), List.nil_append, w64 ((i : Int) + 1) (by omega) (by omega), cast_succ, ih (i + 1) k _ (by omega) (by omega) (by simp; omega) (by omega), drop_rdL1 l i (by omega), List.append_assoc]
  rfl
theorem specCopy_skip (l : List (List Int)) (m : Nat) (hl : l.length ≤ 1000) (hm : m < l.length) (hr : ∀ x ∈ l, x.length ≤ 1048576) : ∀ (d i k : Nat) (acc : List (List Int)), i + d = m → acc.length ≤ i → d + l.length < k →
  spec_l04Copy.l0 k l (m : Int) acc (i : Int) = some (acc ++ (l.drop i).eraseIdx (m - i)) := by
 intro d
 induction d with
 | zero =>
  intro i k acc hd ha hk
  obtain ⟨k, rfl⟩ := succ_k hk
  have e : i = m := by omega
  subst e
  rw [spec_l04Copy.l0, if_pos (by omega), if_pos rfl, w64 ((i : Int) + 1) (by omega) (by omega), cast_succ, specCopy_all l (i : Int) hl hr (l.length - (i + 1)) (i + 1) k acc (by omega) (by omega) (by omega) (by omega), drop_rdL1 l i (by omega), Nat.sub_self]
  rfl
 | succ d ih =>
  intro i k acc hd ha hk
  obtain ⟨k, rfl⟩ := succ_k hk
  have hmm := hr _ (rdL1_mem l i (by omega))
  have e : (l.drop i).eraseIdx (m - i) = rd_L1 l (i : Int) :: (l.drop (i + 1)).eraseIdx (m - (i + 1)) := by
   rw [drop_rdL1 l i (by omega), show m - i = (m - (i + 1)) + 1 by omega]
   rfl
  rw [spec_l04Copy.l0, if_pos (by omega), if_neg (by omega), Option.bind_some, if_pos (by omega), if_pos (by simp; omega), if_pos (by omega), List.nil_append, w64 ((i : Int) + 1) (by omega) (by omega), cast_succ, ih (i + 1) k _ (by omega) (by simp; omega) (by omega), e, List.append_assoc]
  rfl
theorem specCopy_eq (l : List (List Int)) (hl : l.length ≤ 1000) (hr : ∀ x ∈ l, x.length ≤ 1048576) (k : Nat) (hk : 1000 < k) : spec_l04Copy.f k l (-1) = some l := by
 have := specCopy_all l (-1) hl hr l.length 0 k [] (by omega) (by omega) (by simp) (by omega)
 unfold spec_l04Copy.f
 simpa using this
theorem specCopy_erase (l : List (List Int)) (m : Nat) (hl : l.length ≤ 1000) (hm : m < l.length) (hr : ∀ x ∈ l, x.length ≤ 1048576) (k : Nat) (hk : 2000 < k) : spec_l04Copy.f k l (m : Int) = some (l.eraseIdx m) := by
 have := specCopy_skip l m hl hm hr m 0 k [] (by omega) (by simp) (by omega)
 unfold spec_l04Copy.f
 simpa using this
theorem copyL_l0 (l : List (List Int)) (hl : l.length ≤ 1000) (hr : ∀ x ∈ l, x.length ≤ 1048576) : ∀ (d i k : Nat) (acc : List (List Int)), i + d = l.length → acc.length ≤ i → d < k → impl_copyLists.l0 k acc l (l.length : Int) (i : Int) = some (acc ++ l.drop i) := by
 intro d
 induction d with
 | zero =>
  intro i k acc hd ha hk
  obtain ⟨k, rfl⟩ := succ_k hk
  rw [impl_copyLists.l0, if_neg (by omega), List.drop_of_length_le (by omega), List.append_nil]
 | succ d ih =>
  intro i k acc hd ha hk
  obtain ⟨k, rfl⟩ := succ_k hk
  have hm := hr _ (rdL1_mem l i (by omega))
  rw [impl_copyLists.l0, if_pos (by omega), if_pos (by omega), if_pos (by omega), slices_Clone_int64_int64.f, if_pos (by omega), Option.bind_some, if_pos (by omega), w64 ((i : Int) + 1) (by omega) (by omega), cast_succ, ih (i + 1) k _ (by omega) (by simp; omega) (by omega), drop_rdL1 l i (by omega), List.append_assoc]
  rfl
theorem copyL_eq (l : List (List Int)) (hl : l.length ≤ 1000) (hr : ∀ x ∈ l, x.length ≤ 1048576) (k : Nat) (hk : 1000 < k) : impl_copyLists.f k l = some l := by
 have := copyL_l0 l hl hr l.length 0 k [] (by omega) (by simp) (by omega)
 unfold impl_copyLists.f
 simpa using this

theorem implReduced_l0 (l : List Int) (hl : l.length ≤ 1099511627776) : ∀ (d i k : Nat) (out : List Int), i + d = l.length → out.length ≤ i → d < k →
  impl_reduced.l0 k out l (l.length : Int) (i : Int) = some ((l.drop i).foldl redStep out) := by
 intro d
 induction d with
 | zero =>
  intro i k out hd ho hk
  obtain ⟨k, rfl⟩ := succ_k hk
  simp only [impl_reduced.l0]
  rw [if_neg (by omega), List.drop_of_length_le (by omega)]
  rfl
 | succ d ih =>
  intro i k out hd ho hk
  obtain ⟨k, rfl⟩ := succ_k hk
  have hs := redStep_length out (rd l (i : Int))
  simp only [impl_reduced.l0]
  rw [if_pos (by omega), if_pos (by omega), if_pos (by omega), drop_rd l i (by omega), List.foldl_cons, w64 ((i : Int) + 1) (by omega) (by omega), cast_succ]
  by_cases h0 : 0 < out.length
  ·have e1 : wrap64 ((out.length : Int) - 1) = ((out.length - 1 : Nat) : Int) := by rw [w64 _ (by omega) (by omega)]; omega
   rw [if_pos (by omega), e1, if_pos (by omega), if_pos (by omega)]
   by_cases h1 : rd out (((out.length - 1 : Nat) : Int)) = wrap64 (-(rd l (i : Int)))
   ·have e2 : redStep out (rd l (i : Int)) = out.take (out.length - 1) := if_pos ⟨h0, h1⟩
    rw [if_pos h1, if_pos (by omega), Int.toNat_natCast, e2, ih (i + 1) k _ (by omega) (by simp; omega) (by omega)]
   ·have e2 : redStep out (rd l (i : Int)) = out ++ [rd l (i : Int)] := if_neg fun h => h1 h.2
    rw [if_neg h1, if_pos (by omega), e2, ih (i + 1) k _ (by omega) (by simp; omega) (by omega)]
  ·have e2 : redStep out (rd l (i : Int)) = out ++ [rd l (i : Int)] := if_neg fun h => h0 h.1
   rw [if_neg (by omega), if_pos (by omega), e2, ih (i + 1) k _ (by omega) (by simp; omega) (by omega)]
theorem implReduced_eq (l : List Int) (k : Nat) (hl : l.length ≤ 1099511627776) (hk : l.length < k) : impl_reduced.f k l = some (redOf l) := by
 have := implReduced_l0 l hl l.length 0 k [] (by omega) (by simp) hk
 unfold impl_reduced.f redOf
 simpa using this

def presB (g : Int) (l : List (List Int)) : Bool := decide (0 ≤ g) && decide (g ≤ 24) && decide (l.length ≤ 48) && l.all (redB g)

theorem specRemove_l0 (j : Int) (hj : 1 ≤ j ∧ j ≤ 24) (b : List Int) (hb : ∀ y ∈ b, OffJ j y) (hbl : b.length ≤ 120) (g : Int) (rows : List (List Int)) (hl : rows.length ≤ 1000) (hr : ∀ x ∈ rows, Small x ∧ x.length ≤ 120) : ∀ (d i k : Nat) (acc : List (List Int)), i + d = rows.length → acc.length ≤ i → d + 50300 < k →
  spec_l04Remove.l0 k j b rows (i : Int) g acc = some (g, acc ++ (rows.drop i).map fun v => (redOf (rplAll j b v)).map (lowOne j)) := by
 intro d
 induction d with
 | zero =>
  intro i k acc hd ha hk
  obtain ⟨k, rfl⟩ := succ_k hk
  rw [spec_l04Remove.l0, if_neg (by omega), List.drop_of_length_le (by omega), List.map_nil, List.append_nil]
 | succ d ih =>
  intro i k acc hd ha hk
  obtain ⟨k, rfl⟩ := succ_k hk
  have hm := hr _ (rdL1_mem rows i (by omega))
  rw [spec_l04Remove.l0, if_pos (by omega), if_pos (by omega), specPut_eq j hj b _ hb hbl hm.1 hm.2 k (by omega), Option.bind_some, if_pos (by omega), w64 ((i : Int) + 1) (by omega) (by omega), cast_succ, ih (i + 1) k _ (by omega) (by simp; omega) (by omega), drop_rdL1 rows i (by omega), List.map_cons, List.append_assoc]
  rfl
def tzBy (j : Int) (w : List Int) : List Int := rmBy w (idxOf (fun x => absI x == j) w 0).toNat
/-- What a move that may be made comes to. -/
def tzRows (g : Int) (l : List (List Int)) (k i j : Int) (w : List Int) : Int × List (List Int) :=
 if k = 1 then (g, l.set i.toNat (invWord (rd_L1 l i)))
 else if k = 2 then (g, if 0 < (rd_L1 l i).length then l.set i.toNat (redOf ((rd_L1 l i).drop 1 ++ [rd (rd_L1 l i) 0])) else l)
 else if k = 3 then (g, l.set i.toNat (redOf (rd_L1 l i ++ rd_L1 l j)))
 else if k = 4 then (g, l.eraseIdx i.toNat)
 else if k = 5 then (wrap64 (g - 1), (l.eraseIdx i.toNat).map fun v => (redOf (rplAll j (tzBy j (rd_L1 l i)) v)).map (lowOne j))
 else (wrap64 (g + 1), l ++ [wrap64 (-(wrap64 (g + 1))) :: w])
structure TzOk (g : Int) (l : List (List Int)) (k i j : Int) (w : List Int) : Prop where
 hg : 0 ≤ g ∧ g ≤ 24
 hl : l.length ≤ 48
 hr : ∀ x ∈ l, redB g x = true
 hk : 1 ≤ k ∧ k ≤ 6
 hi : k ≠ 6 → 0 ≤ i ∧ i < (l.length : Int)
 j3 : k = 3 → 0 ≤ j ∧ j < (l.length : Int)
 j5 : k = 5 → (1 ≤ j ∧ j ≤ g) ∧ (rd_L1 l i).countP (fun x => absI x == j) = 1
 hw : k = 6 → redB g w = true
 wl : w.length ≤ 2000000
theorem rd_mem_small {row : List Int} (hs : Small row) (h : 0 < row.length) : -24 ≤ rd row 0 ∧ rd row 0 ≤ 24 := by
 have := hs _ (List.getElem_mem h)
 rw [← rd_nat row 0 h] at this
 exact this
theorem specMove_eq {g : Int} {l : List (List Int)} {k i j : Int} {w : List Int} (ok : TzOk g l k i j w) (K : Nat) (hK : 60000 < K) : spec_l04Move.f K g l k i j w = some (tzRows g l k i j w) := by
 have hl := ok.hl
 have hg := ok.hg
 have hrow : ∀ x ∈ l, Small x ∧ x.length ≤ 120 := fun x hx => by
  have := redB_facts ok.hg.2 (ok.hr x hx)
  exact ⟨this.1, this.2.1⟩
 have hr2 : ∀ x ∈ l, x.length ≤ 1048576 := fun x hx => by have := (hrow x hx).2; omega
 unfold spec_l04Move.f tzRows
 rw [specCopy_eq l (by omega) hr2 K (by omega), Option.bind_some]
 have hk := ok.hk
 obtain rfl | rfl | rfl | rfl | rfl | rfl : k = 1 ∨ k = 2 ∨ k = 3 ∨ k = 4 ∨ k = 5 ∨ k = 6 := by omega
 ·have hi := ok.hi (by decide)
  obtain ⟨n, rfl⟩ : ∃ n : Nat, i = n := ⟨i.toNat, by omega⟩
  have hm := (hrow _ (rdL1_mem l n (by omega))).2
  rw [if_pos rfl, if_pos rfl, if_pos hi.1, if_pos hi.2, specInverse_eq _ K (by omega) (by omega), Option.bind_some, if_pos hi.2]
 ·have hi := ok.hi (by decide)
  obtain ⟨n, rfl⟩ : ∃ n : Nat, i = n := ⟨i.toNat, by omega⟩
  have hm := (hrow _ (rdL1_mem l n (by omega))).2
  rw [if_neg (by decide), if_pos rfl, if_pos hi.1, if_pos hi.2, if_neg (show ¬ (2 : Int) = 1 by decide), if_pos (show (2 : Int) = 2 from rfl)]
  by_cases h0 : 0 < (rd_L1 l (n : Int)).length
  ·have q1 : ((rd_L1 l (n : Int)).length : Int) > 0 := by omega
   have q2 : (1 : Int) ≤ ((rd_L1 l (n : Int)).length : Int) := by omega
   have q3 : (0 : Int) < ((rd_L1 l (n : Int)).length : Int) := by omega
   have q4 : ((rd_L1 l (n : Int)).drop 1).length ≤ 120 := by rw [List.length_drop]; omega
   rw [if_pos q1, if_pos h0]
   simp only [Option.bind_some, List.nil_append]
   rw [if_pos q2, if_pos (by simp only [List.length_nil]; omega), if_pos q3, if_pos (by simp only [List.length_singleton]; omega), specReduce_eq _ K (by rw [List.length_append, List.length_singleton]; omega) (by rw [List.length_append, List.length_singleton]; omega), Option.bind_some, if_pos hi.2]
  ·rw [if_neg (by omega), if_neg h0]
 ·have hi := ok.hi (by decide)
  have hj := ok.j3 rfl
  obtain ⟨n, rfl⟩ : ∃ n : Nat, i = n := ⟨i.toNat, by omega⟩
  obtain ⟨m, rfl⟩ : ∃ n : Nat, j = n := ⟨j.toNat, by omega⟩
  have hm := (hrow _ (rdL1_mem l n (by omega))).2
  have hm2 := (hrow _ (rdL1_mem l m (by omega))).2
  rw [if_neg (by decide), if_neg (by decide), if_pos rfl, if_neg (by decide), if_neg (by decide), if_pos rfl]
  simp only [Option.bind_some, List.nil_append]
  rw [if_pos hi.1, if_pos hi.2, if_pos (by simp only [List.length_nil]; omega), if_pos hj.1, if_pos hj.2, if_pos (by omega), specReduce_eq _ K (by rw [List.length_append]; omega) (by rw [List.length_append]; omega), Option.bind_some, if_pos hi.2]
 ·have hi := ok.hi (by decide)
  obtain ⟨n, rfl⟩ : ∃ n : Nat, i = n := ⟨i.toNat, by omega⟩
  rw [if_neg (by decide), if_neg (by decide), if_neg (by decide), if_pos rfl, if_neg (by decide), if_neg (by decide), if_neg (by decide), if_pos rfl, specCopy_erase l n (by omega) (by omega) hr2 K (by omega), Option.bind_some, Int.toNat_natCast]
 ·have hi := ok.hi (by decide)
  obtain ⟨hj, hc⟩ := ok.j5 rfl
  obtain ⟨n, rfl⟩ : ∃ n : Nat, i = n := ⟨i.toNat, by omega⟩
  have hm := hrow _ (rdL1_mem l n (by omega))
  have hj24 : 1 ≤ j ∧ j ≤ 24 := by omega
  obtain ⟨b1, b2, b3⟩ := rmBy_off j hj24 _ hm.1 hm.2 hc
  have hlen := List.length_eraseIdx_le l n
  rw [if_neg (by decide), if_neg (by decide), if_neg (by decide), if_neg (by decide), if_pos rfl, if_neg (by decide), if_neg (by decide), if_neg (by decide), if_neg (by decide), if_pos rfl]
  unfold spec_l04Remove.f
  have h0 := specRemove_l0 j hj24 _ b3 b2 (wrap64 (g - 1)) (l.eraseIdx n) (by omega) (fun x hx => hrow x (List.mem_of_mem_eraseIdx hx)) (l.eraseIdx n).length 0 K [] (by omega) (by simp) (by omega)
  rw [List.drop_zero, List.nil_append] at h0
  rw [if_pos hi.1, if_pos hi.2, specSolve_eq j hj24 _ hm.1 hm.2 K b1 (by omega), Option.bind_some, specCopy_erase l n (by omega) (by omega) hr2 K (by omega), Option.bind_some, Int.toNat_natCast]
  have h0' : spec_l04Remove.l0 K j (rmBy (rd_L1 l (n : Int)) (idxOf (fun x => absI x == j) (rd_L1 l (n : Int)) 0).toNat) (l.eraseIdx n) 0 (wrap64 (g - 1)) [] = _ := h0
  rw [h0', Option.bind_some]
  rfl
 ·have hwl := ok.wl
  rw [if_neg (by decide), if_neg (by decide), if_neg (by decide), if_neg (by decide), if_neg (by decide), if_neg (by decide), if_neg (by decide), if_neg (by decide), if_neg (by decide), if_neg (by decide)]
  simp only [Option.bind_some]
  rw [if_pos (by simp only [List.length_singleton]; omega), if_pos (by simp only [List.length_singleton]; omega)]
  rfl
theorem mapRed_eq (K : Nat) (hK : 100000 < K) : ∀ l : List (List Int), (∀ x ∈ l, x.length ≤ 100000) → mapRed K l = some (l.map redOf)
 | [], _ => rfl
 | x :: t, h => by
  rw [mapRed, implReduced_eq x K (by have := h x List.mem_cons_self; omega) (by have := h x List.mem_cons_self; omega), Option.bind_some, mapRed_eq K hK t fun y hy => h y (List.mem_cons_of_mem _ hy)]
  rfl
theorem map_same {l : List (List Int)} (h : ∀ x ∈ l, redOf x = x) : l.map redOf = l := (List.map_congr_left h).trans (List.map_id _)
theorem implMove_eq {g : Int} {l : List (List Int)} {k i j : Int} {w : List Int} (ok : TzOk g l k i j w) (K : Nat) (hK : 110000 < K) : impl_moved.f K g l k i j w = some (tzRows g l k i j w) := by
 have hl := ok.hl
 have hg := ok.hg
 have hrow : ∀ x ∈ l, Small x ∧ x.length ≤ 120 ∧ redOf x = x ∧ Rd x.reverse := fun x hx => by
  have := redB_facts ok.hg.2 (ok.hr x hx)
  exact ⟨this.1, this.2.1, this.2.2.1, this.2.2.2.1⟩
 have hr2 : ∀ x ∈ l, x.length ≤ 1048576 := fun x hx => by have := (hrow x hx).2.1; omega
 have hset : ∀ (n : Nat) (t : List Int), t.length ≤ 100000 → (mapRed K (l.set n t)) = some (l.set n (redOf t)) := fun n t ht => by
  rw [mapRed_eq K (by omega) _ fun x hx => by
   rcases List.mem_or_eq_of_mem_set hx with h | h
   ·have := (hrow x h).2.1; omega
   ·rw [h]; exact ht]
  rw [List.map_set, map_same fun x hx => (hrow x hx).2.2.1]
 unfold impl_moved.f mvRows tzRows
 rw [if_pos ⟨by omega, fun x hx => by have := (hrow x hx).2.1; omega, ok.wl⟩, copyL_eq l (by omega) hr2 K (by omega), Option.bind_some, if_pos rfl]
 have hk := ok.hk
 obtain rfl | rfl | rfl | rfl | rfl | rfl : k = 1 ∨ k = 2 ∨ k = 3 ∨ k = 4 ∨ k = 5 ∨ k = 6 := by omega
 ·have hi := ok.hi (by decide)
  obtain ⟨n, rfl⟩ : ∃ n : Nat, i = n := ⟨i.toNat, by omega⟩
  have hm := hrow _ (rdL1_mem l n (by omega))
  rw [if_pos rfl, if_pos rfl, if_pos hi, Option.bind_some]
  simp only
  rw [hset _ _ (by rw [invWord_length]; omega), Option.bind_some, redOf_inv hm.1 hm.2.2.2]
 ·have hi := ok.hi (by decide)
  obtain ⟨n, rfl⟩ : ∃ n : Nat, i = n := ⟨i.toNat, by omega⟩
  have hm := hrow _ (rdL1_mem l n (by omega))
  rw [if_neg (by decide), if_pos rfl, if_pos hi, if_neg (show ¬ (2 : Int) = 1 by decide), if_pos (show (2 : Int) = 2 from rfl), Option.bind_some]
  simp only
  unfold rotT
  by_cases h0 : 0 < (rd_L1 l (n : Int)).length
  ·rw [if_pos h0, if_pos h0, hset _ _ (by rw [List.length_append, List.length_drop, List.length_singleton]; omega), Option.bind_some]
  ·rw [if_neg h0, if_neg h0, mapRed_eq K (by omega) l (fun x hx => by have := (hrow x hx).2.1; omega), Option.bind_some, map_same fun x hx => (hrow x hx).2.2.1]
 ·have hi := ok.hi (by decide)
  have hj := ok.j3 rfl
  obtain ⟨n, rfl⟩ : ∃ n : Nat, i = n := ⟨i.toNat, by omega⟩
  obtain ⟨m, rfl⟩ : ∃ n : Nat, j = n := ⟨j.toNat, by omega⟩
  have hm := (hrow _ (rdL1_mem l n (by omega))).2.1
  have hm2 := (hrow _ (rdL1_mem l m (by omega))).2.1
  rw [if_neg (by decide), if_neg (by decide), if_pos rfl, if_pos ⟨hi, hj⟩, if_neg (show ¬ (3 : Int) = 1 by decide), if_neg (show ¬ (3 : Int) = 2 by decide), if_pos (show (3 : Int) = 3 from rfl), Option.bind_some]
  simp only
  rw [hset _ _ (by rw [List.length_append]; omega), Option.bind_some]
 ·have hi := ok.hi (by decide)
  obtain ⟨n, rfl⟩ : ∃ n : Nat, i = n := ⟨i.toNat, by omega⟩
  rw [if_neg (by decide), if_neg (by decide), if_neg (by decide), if_pos rfl, if_pos hi, if_neg (show ¬ (4 : Int) = 1 by decide), if_neg (show ¬ (4 : Int) = 2 by decide), if_neg (show ¬ (4 : Int) = 3 by decide), if_pos (show (4 : Int) = 4 from rfl), Option.bind_some]
  simp only
  rw [mapRed_eq K (by omega) _ (fun x hx => by have := (hrow x (List.mem_of_mem_eraseIdx hx)).2.1; omega), Option.bind_some, map_same fun x hx => (hrow x (List.mem_of_mem_eraseIdx hx)).2.2.1]
 ·have hi := ok.hi (by decide)
  obtain ⟨hj, hc⟩ := ok.j5 rfl
  obtain ⟨n, rfl⟩ : ∃ n : Nat, i = n := ⟨i.toNat, by omega⟩
  have hm := hrow _ (rdL1_mem l n (by omega))
  have hj24 : 1 ≤ j ∧ j ≤ 24 := by omega
  obtain ⟨b1, b2, b3⟩ := rmBy_off j hj24 _ hm.1 hm.2.1 hc
  have hlen := List.length_eraseIdx_le l n
  have hrm : rmOk l (n : Int) j := ⟨hi.1, hi.2, by omega, fun x hx => by have := (hrow x hx).2.1; omega, b1⟩
  rw [if_neg (by decide), if_neg (by decide), if_neg (by decide), if_neg (by decide), if_pos rfl, if_neg (by decide), if_neg (by decide), if_neg (by decide), if_neg (by decide), if_pos rfl]
  unfold impl_removed.f
  rw [if_pos hrm, Option.bind_some, Int.toNat_natCast]
  simp only
  rw [if_pos (by rw [List.length_map]; omega), Option.bind_some]
  simp only
  rw [mapRed_eq K (by omega) _ (fun x hx => by
   obtain ⟨v, hv, rfl⟩ := List.mem_map.1 hx
   have h1 := (hrow v (List.mem_of_mem_eraseIdx hv)).2.1
   have h2 := rplAll_le j _ 120 (by omega) b2 v
   unfold rmRow
   rw [List.length_map]
   omega), Option.bind_some, List.map_map]
  unfold tzBy
  refine congrArg some (congrArg (Prod.mk _) (List.map_congr_left fun v hv => ?_))
  exact rmRow_red j hj24 _ v b3 (hrow v (List.mem_of_mem_eraseIdx hv)).1
 ·have hw := ok.hw rfl
  have hf := redB_facts hg.2 hw
  rw [if_neg (by decide), if_neg (by decide), if_neg (by decide), if_neg (by decide), if_neg (by decide), if_pos rfl, if_neg (by decide), if_neg (by decide), if_neg (by decide), if_neg (by decide), if_neg (by decide), Option.bind_some]
  have e1 : wrap64 (g + 1) = g + 1 := w64 _ (by omega) (by omega)
  have e2 : wrap64 (-(g + 1)) = -(g + 1) := w64 _ (by omega) (by omega)
  simp only
  rw [e1, e2, mapRed_eq K (by omega) _ (fun x hx => by
   rcases List.mem_append.1 hx with h | h
   ·have := (hrow x h).2.1; omega
   ·rw [List.mem_singleton.1 h, List.length_cons]
    have := hf.2.1
    omega), Option.bind_some, List.map_append, map_same fun x hx => (hrow x hx).2.2.1, List.map_singleton, redOf_cons (chain_front (redB_chain hw) fun y hy => by
   have h1 := hf.2.2.2.2 y hy
   have h2 := hf.1 y hy
   rw [wneg y h2]
   omega)]
theorem lowOne_small (j x : Int) (hj : 1 ≤ j ∧ j ≤ 24) (hx : -24 ≤ x ∧ x ≤ 24) : -24 ≤ lowOne j x ∧ lowOne j x ≤ 24 := by
 rw [lowOne_eq j x hj hx]
 split
 ·omega
 ·split <;> omega
theorem tzRows_size {g : Int} {l : List (List Int)} {k i j : Int} {w : List Int} (ok : TzOk g l k i j w) : (tzRows g l k i j w).2.length ≤ 49 ∧ ∀ x ∈ (tzRows g l k i j w).2, x.length ≤ 20000 ∧ ∀ y ∈ x, -25 ≤ y ∧ y ≤ 25 := by
 have hl := ok.hl
 have hg := ok.hg
 have hrow : ∀ x ∈ l, Small x ∧ x.length ≤ 120 := fun x hx => by
  have := redB_facts ok.hg.2 (ok.hr x hx)
  exact ⟨this.1, this.2.1⟩
 have hin : ∀ x ∈ l, x.length ≤ 20000 ∧ ∀ y ∈ x, -25 ≤ y ∧ y ≤ 25 := fun x hx => by
  have := hrow x hx
  exact ⟨by omega, fun y hy => by have := this.1 y hy; omega⟩
 have hsm : ∀ t : List Int, Small t → t.length ≤ 20000 → t.length ≤ 20000 ∧ ∀ y ∈ t, -25 ≤ y ∧ y ≤ 25 := fun t h1 h2 => ⟨h2, fun y hy => by have := h1 y hy; omega⟩
 have hset : ∀ (n : Nat) (t : List Int), Small t → t.length ≤ 20000 → (l.set n t).length ≤ 49 ∧ ∀ x ∈ l.set n t, x.length ≤ 20000 ∧ ∀ y ∈ x, -25 ≤ y ∧ y ≤ 25 := fun n t h1 h2 => ⟨by rw [List.length_set]; omega, fun x hx => by
  rcases List.mem_or_eq_of_mem_set hx with h | h
  ·exact hin x h
  ·rw [h]; exact hsm t h1 h2⟩
 have hk := ok.hk
 unfold tzRows
 obtain rfl | rfl | rfl | rfl | rfl | rfl : k = 1 ∨ k = 2 ∨ k = 3 ∨ k = 4 ∨ k = 5 ∨ k = 6 := by omega
 ·have hi := ok.hi (by decide)
  obtain ⟨n, rfl⟩ : ∃ n : Nat, i = n := ⟨i.toNat, by omega⟩
  have hm := hrow _ (rdL1_mem l n (by omega))
  rw [if_pos rfl]
  exact hset _ _ (invWord_small hm.1) (by rw [invWord_length]; omega)
 ·have hi := ok.hi (by decide)
  obtain ⟨n, rfl⟩ : ∃ n : Nat, i = n := ⟨i.toNat, by omega⟩
  have hm := hrow _ (rdL1_mem l n (by omega))
  rw [if_neg (by decide), if_pos rfl]
  simp only
  split
  ·rename_i h0
   have hs : Small ((rd_L1 l (n : Int)).drop 1 ++ [rd (rd_L1 l (n : Int)) 0]) := fun y hy => by
    rcases List.mem_append.1 hy with h | h
    ·exact hm.1 y (List.mem_of_mem_drop h)
    ·rw [List.mem_singleton.1 h]; exact rd_mem_small hm.1 h0
   have hlen := redOf_length ((rd_L1 l (n : Int)).drop 1 ++ [rd (rd_L1 l (n : Int)) 0])
   rw [List.length_append, List.length_drop, List.length_singleton] at hlen
   exact hset _ _ (fun y hy => hs y (redOf_mem _ hs y hy)) (by omega)
  ·exact ⟨by omega, hin⟩
 ·have hi := ok.hi (by decide)
  have hj := ok.j3 rfl
  obtain ⟨n, rfl⟩ : ∃ n : Nat, i = n := ⟨i.toNat, by omega⟩
  obtain ⟨m, rfl⟩ : ∃ n : Nat, j = n := ⟨j.toNat, by omega⟩
  have hm := hrow _ (rdL1_mem l n (by omega))
  have hm2 := hrow _ (rdL1_mem l m (by omega))
  rw [if_neg (by decide), if_neg (by decide), if_pos rfl]
  have hs : Small (rd_L1 l (n : Int) ++ rd_L1 l (m : Int)) := fun y hy => by
   rcases List.mem_append.1 hy with h | h
   ·exact hm.1 y h
   ·exact hm2.1 y h
  have hlen := redOf_length (rd_L1 l (n : Int) ++ rd_L1 l (m : Int))
  rw [List.length_append] at hlen
  exact hset _ _ (fun y hy => hs y (redOf_mem _ hs y hy)) (by omega)
 ·rw [if_neg (by decide), if_neg (by decide), if_neg (by decide), if_pos rfl]
  have hlen := List.length_eraseIdx_le l i.toNat
  exact ⟨by simp only; omega, fun x hx => hin x (List.mem_of_mem_eraseIdx hx)⟩
 ·have hi := ok.hi (by decide)
  obtain ⟨hj, hc⟩ := ok.j5 rfl
  obtain ⟨n, rfl⟩ : ∃ n : Nat, i = n := ⟨i.toNat, by omega⟩
  have hm := hrow _ (rdL1_mem l n (by omega))
  have hj24 : 1 ≤ j ∧ j ≤ 24 := by omega
  obtain ⟨b1, b2, b3⟩ := rmBy_off j hj24 _ hm.1 hm.2 hc
  have hlen := List.length_eraseIdx_le l n
  rw [if_neg (by decide), if_neg (by decide), if_neg (by decide), if_neg (by decide), if_pos rfl]
  refine ⟨by simp only; rw [List.length_map, Int.toNat_natCast]; omega, fun x hx => ?_⟩
  obtain ⟨v, hv, rfl⟩ := List.mem_map.1 hx
  have hv2 := hrow v (List.mem_of_mem_eraseIdx hv)
  have ho := rplAll_off hj24 b3 hv2.1
  have h1 := redOf_length (rplAll j (tzBy j (rd_L1 l (n : Int))) v)
  have h2 := rplAll_le j (tzBy j (rd_L1 l (n : Int))) 120 (by omega) b2 v
  refine ⟨by rw [List.length_map]; omega, fun y hy => ?_⟩
  obtain ⟨z, hz, rfl⟩ := List.mem_map.1 hy
  have hz2 := (ho z (redOf_mem _ (fun q hq => (ho q hq).1) z hz)).1
  have := lowOne_small j z hj24 hz2
  omega
 ·have hw := redB_facts hg.2 (ok.hw rfl)
  rw [if_neg (by decide), if_neg (by decide), if_neg (by decide), if_neg (by decide), if_neg (by decide)]
  have e1 : wrap64 (g + 1) = g + 1 := w64 _ (by omega) (by omega)
  have e2 : wrap64 (-(g + 1)) = -(g + 1) := w64 _ (by omega) (by omega)
  rw [e1, e2]
  refine ⟨by simp only [List.length_append, List.length_singleton]; omega, fun x hx => ?_⟩
  rcases List.mem_append.1 hx with h | h
  ·exact hin x h
  ·rw [List.mem_singleton.1 h]
   refine ⟨by rw [List.length_cons]; have := hw.2.1; omega, fun y hy => ?_⟩
   rcases List.mem_cons.1 hy with h | h
   ·rw [h]; omega
   ·have := hw.1 y h; omega

theorem neg_swap (a b : Int) (ha : (Lit.int .i64 a).wf = true) (hb : (Lit.int .i64 b).wf = true) : a = wrap64 (-b) ↔ b = wrap64 (-a) := by
 have h1 : -9223372036854775808 ≤ a ∧ a ≤ 9223372036854775807 := by simpa [Lit.wf, IntKind.min, IntKind.max, IntKind.signed, IntKind.bits] using ha
 have h2 : -9223372036854775808 ≤ b ∧ b ≤ 9223372036854775807 := by simpa [Lit.wf, IntKind.min, IntKind.max, IntKind.signed, IntKind.bits] using hb
 unfold wrap64
 omega
theorem rd_wf (l : List Int) (hw : ∀ x ∈ l, (Lit.int .i64 x).wf = true) (i : Nat) (h : i < l.length) : (Lit.int .i64 (rd l (i : Int))).wf = true := by
 rw [rd_nat l i h]
 exact hw _ (List.getElem_mem h)
theorem rd_take (l : List Int) (n i : Nat) (h : i < n) (hn : n ≤ l.length) : rd (l.take n) (i : Int) = rd l (i : Int) := by
 rw [rd_nat _ i (by simp; omega), rd_nat l i (by omega)]
 simp
theorem specLetters_l0 (l : List Int) (hw : ∀ x ∈ l, (Lit.int .i64 x).wf = true) (g : Int) (hg : 0 ≤ g) (hg1 : g ≤ 4611686018427387904) (hl : l.length ≤ 4611686018427387904) : ∀ (d i k : Nat), i + d = l.length → d < k →
  spec_l04Letters.l0 k l g (i : Int) = some (letters g (l.drop i) && decide (l.length ≤ 120) && chainB (l.take i) (l.drop i)) := by
 intro d
 induction d with
 | zero =>
  intro i k hd hk
  obtain ⟨k, rfl⟩ := succ_k hk
  simp only [spec_l04Letters.l0]
  rw [if_neg (by omega), List.drop_of_length_le (by omega)]
  simp [letters, chainB]
  omega
 | succ d ih =>
  intro i k hd hk
  obtain ⟨k, rfl⟩ := succ_k hk
  have hc : (l.take i) ++ [rd l (i : Int)] = l.take (i + 1) := by
   rw [List.take_succ_eq_append_getElem (by omega), rd_nat l i (by omega)]
  have hwi := rd_wf l hw i (by omega)
  simp only [spec_l04Letters.l0]
  rw [if_pos (by omega), if_pos (by omega), w64 (-g) (by omega) (by omega), w64 ((i : Int) + 1) (by omega) (by omega), cast_succ, ih (i + 1) k (by omega) (by omega), drop_rd l i (by omega)]
  simp only [chainB, hc]
  unfold spec_l01In.f
  have hlen : (l.take i).length = i := by simp; omega
  rw [hlen]
  have hl2 : letters g (rd l (i : Int) :: l.drop (i + 1)) = ((decide (rd l (i : Int) ≠ 0) && (decide (-g ≤ rd l (i : Int)) && decide (rd l (i : Int) ≤ g))) && letters g (l.drop (i + 1))) := rfl
  rw [hl2]
  by_cases h0 : rd l (i : Int) = 0
  ·simp [h0]
  ·rw [if_neg h0]
   by_cases h1 : -g ≤ rd l (i : Int) <;> by_cases h2 : rd l (i : Int) ≤ g
   ·by_cases hi : 0 < i
    ·have e1 : wrap64 ((i : Int) - 1) = ((i - 1 : Nat) : Int) := by rw [w64 _ (by omega) (by omega)]; omega
     have hwj := rd_wf l hw (i - 1) (by omega)
     have hn := neg_swap _ _ hwi hwj
     have hi1 : (0 : Int) ≤ ((i - 1 : Nat) : Int) := by omega
     have hi2 : ((i - 1 : Nat) : Int) < (l.length : Int) := by omega
     have hi3 : (i : Int) > 0 := by omega
     rw [e1, rd_take l i (i - 1) (by omega) (by omega)]
     generalize rd l (i : Int) = a at h0 h1 h2 hn
     generalize rd l ((i - 1 : Nat) : Int) = b at hn
     generalize ((i - 1 : Nat) : Int) = m at hi1 hi2
     by_cases h3 : b = wrap64 (-a)
     ·have h4 : (a = wrap64 (-b)) = True := eq_true (hn.mpr h3)
      have h5 : (b = wrap64 (-a)) = True := eq_true h3
      clear h3 hn
      simp [h0, h1, h2, hi, h4, h5, hi1, hi2, hi3]
     ·have h4 : (a = wrap64 (-b)) = False := eq_false fun e => h3 (hn.mp e)
      have h5 : (b = wrap64 (-a)) = False := eq_false h3
      clear h3 hn
      simp [h0, h1, h2, hi, h4, h5, hi1, hi2, hi3]
    ·have hi0 : i = 0 := by omega
     subst hi0
     simp at h0 h1 h2
     simp [h0, h1, h2]
   ·simp [h0, h1, h2]
   ·simp [h0, h1, h2]
   ·simp [h0, h1, h2]
theorem specLetters_eq (l : List Int) (hw : ∀ x ∈ l, (Lit.int .i64 x).wf = true) (g : Int) (hg : 0 ≤ g) (hg1 : g ≤ 4611686018427387904) (k : Nat) (hl : l.length ≤ 4611686018427387904) (hk : l.length < k) : spec_l04Letters.f k l g = some (redB g l) := by
 have := specLetters_l0 l hw g hg hg1 hl l.length 0 k (by omega) hk
 unfold spec_l04Letters.f redB
 simpa using this

theorem specPres_l0 (g : Int) (hg : 0 ≤ g) (hg1 : g ≤ 24) (l : List (List Int)) (n : Nat) (hn : n ≤ 1048576) (hl : l.length ≤ 1048576) (hr : ∀ x ∈ l, x.length ≤ n) (hw : ∀ x ∈ l, ∀ y ∈ x, (Lit.int .i64 y).wf = true) : ∀ (d i k : Nat), i + d = l.length → d + n < k →
  spec_IsPresentation.l0 k (i : Int) g l = some ((l.drop i).all (redB g)) := by
 intro d
 induction d with
 | zero =>
  intro i k hd hk
  obtain ⟨k, rfl⟩ := succ_k hk
  simp only [spec_IsPresentation.l0]
  rw [if_neg (by omega), List.drop_of_length_le (by omega)]
  rfl
 | succ d ih =>
  intro i k hd hk
  obtain ⟨k, rfl⟩ := succ_k hk
  simp only [spec_IsPresentation.l0]
  have hm := rdL1_mem l i (by omega)
  have hlen := hr _ hm
  rw [if_pos (by omega), if_pos (by omega), specLetters_eq _ (hw _ hm) g hg (by omega) k (by omega) (by omega), w64 _ (by omega) (by omega), cast_succ, ih (i + 1) k (by omega) (by omega), drop_rdL1 l i (by omega), List.all_cons]
  simp only [Option.bind_some]
  by_cases h : redB g (rd_L1 l (i : Int)) = true
  ·simp [h]
  ·simp [h]
theorem specPres_eq (g : Int) (l : List (List Int)) (n k : Nat) (hn : n ≤ 1048576) (hl : l.length ≤ 1048576) (hr : ∀ x ∈ l, x.length ≤ n) (hw : ∀ x ∈ l, ∀ y ∈ x, (Lit.int .i64 y).wf = true) (hk : 2097200 < k) :
  spec_IsPresentation.f k g l = some (presB g l) := by
 obtain ⟨k, rfl⟩ := succ_k hk
 unfold spec_IsPresentation.f spec_l01In.f presB
 simp only [spec_IsPresentation.j0]
 by_cases h1 : 0 ≤ g
 ·by_cases h2 : g ≤ 24
  ·by_cases h3 : l.length ≤ 48
   ·have := specPres_l0 g h1 h2 l n hn hl hr hw l.length 0 k (by omega) (by omega)
    have h3' : ¬ (l.length : Int) > 48 := by omega
    simp only [List.drop_zero] at this
    simp [h1, h2, h3, h3']
    exact this
   ·have h3' : (l.length : Int) > 48 := by omega
    simp [h1, h2, h3, h3']
  ·simp [h1, h2]
 ·simp [h1]

theorem wf64 {x : Int} (h : (Lit.int .i64 x).wf = true) : -9223372036854775808 ≤ x ∧ x ≤ 9223372036854775807 := by
 simpa [Lit.wf, IntKind.min, IntKind.max, IntKind.signed, IntKind.bits] using h
theorem bad_iff (g x : Int) (hg : 0 ≤ g) (hg1 : g ≤ 4611686018427387904) (h : (Lit.int .i64 x).wf = true) : isWord_bad g x = !(decide (x ≠ 0) && (decide (-g ≤ x) && decide (x ≤ g))) := by
 have hx := wf64 h
 have e : (!(decide (x ≠ 0) && (decide (-g ≤ x) && decide (x ≤ g)))) = decide (x = 0 ∨ ¬ (-g ≤ x ∧ x ≤ g)) := by
  by_cases h0 : x = 0 <;> by_cases h1 : -g ≤ x <;> by_cases h2 : x ≤ g <;> simp [h0, h1, h2]
 rw [e]
 unfold isWord_bad abs64
 rw [w64 (-g) (by omega) (by omega)]
 have e2 : (x == 0 || (decide (g < if x < 0 then wrap64 (-x) else x) || decide (x < -g))) = decide (x = 0 ∨ (g < (if x < 0 then wrap64 (-x) else x) ∨ x < -g)) := by
  show (decide (x = 0) || _) = _
  simp [Bool.decide_or]
 rw [e2]
 apply decide_eq_decide.mpr
 by_cases hn : x < 0
 ·rw [if_pos hn]
  by_cases hm : x = -9223372036854775808
  ·subst hm
   have : wrap64 (-(-9223372036854775808)) = -9223372036854775808 := by unfold wrap64; omega
   rw [this]
   omega
  ·rw [w64 (-x) (by omega) (by omega)]
   omega
 ·rw [if_neg hn]
  omega
theorem any_bad (g : Int) (hg : 0 ≤ g) (hg1 : g ≤ 4611686018427387904) (l : List Int) (h : ∀ x ∈ l, (Lit.int .i64 x).wf = true) : (!(l.any (isWord_bad g))) = letters g l := by
 unfold letters
 induction l with
 | nil => rfl
 | cons x r ih =>
  rw [List.any_cons, List.all_cons, Bool.not_or, ih fun y hy => h y (List.mem_cons_of_mem _ hy), bad_iff g x hg hg1 (h x List.mem_cons_self)]
  simp
theorem implisWord_eq (g : Int) (hg : 0 ≤ g) (hg1 : g ≤ 4611686018427387904) (l : List Int) (h : ∀ x ∈ l, (Lit.int .i64 x).wf = true) : impl_isWord.f l g = some (letters g l && decide (l.length ≤ 120)) := by
 unfold impl_isWord.f
 rw [any_bad g hg hg1 l h, Bool.and_comm]

theorem implisReduced_eq (g : Int) (hg : 0 ≤ g) (hg1 : g ≤ 4611686018427387904) (x : List Int) (k : Nat) (h : ∀ y ∈ x, (Lit.int .i64 y).wf = true) (hx : x.length ≤ 1099511627776) (hk : x.length < k) :
  impl_isReduced.f k x g = some (redB g x) := by
 unfold impl_isReduced.f redB
 rw [implisWord_eq g hg hg1 x h]
 simp only [Option.bind_some]
 by_cases hw : (letters g x && decide (x.length ≤ 120)) = true
 ·rw [if_pos hw, hw, implReduced_eq x k hx hk]
  simp only [Option.bind_some, Bool.true_and]
  have := chain_iff x []
  simp only [List.length_nil, Nat.zero_add] at this
  congr 1
  rw [Bool.eq_iff_iff, ← this]
  simp [redOf]
  omega
 ·rw [if_neg hw]
  have : (letters g x && decide (x.length ≤ 120)) = false := by simpa using hw
  rw [this]
  rfl

theorem anyO_all (g : Int) (hg : 0 ≤ g) (hg1 : g ≤ 24) (n k : Nat) (hn : n ≤ 1048576) (hk : n < k) : ∀ (l : List (List Int)), (∀ x ∈ l, x.length ≤ n) → (∀ x ∈ l, ∀ y ∈ x, (Lit.int .i64 y).wf = true) → anyO (impl_isPresentation.q k g) l = some (!(l.all (redB g)))
 | [], _, _ => rfl
 | x :: t, hr, hw => by
  simp only [anyO, impl_isPresentation.q]
  have hx := hr x List.mem_cons_self
  rw [implisReduced_eq g hg (by omega) x k (hw x List.mem_cons_self) (by omega) (by omega)]
  simp only [Option.bind_some]
  rw [anyO_all g hg hg1 n k hn hk t (fun y hy => hr y (List.mem_cons_of_mem _ hy)) (fun y hy => hw y (List.mem_cons_of_mem _ hy))]
  by_cases h : redB g x = true
  ·simp [h]
  ·simp [h]
theorem implisPres_eq (g : Int) (l : List (List Int)) (n k : Nat) (hn : n ≤ 1048576) (hr : ∀ x ∈ l, x.length ≤ n) (hw : ∀ x ∈ l, ∀ y ∈ x, (Lit.int .i64 y).wf = true) (hk : n < k) :
  impl_isPresentation.f k g l = some (presB g l) := by
 unfold impl_isPresentation.f presB
 by_cases h1 : 0 ≤ g ∧ g ≤ 24
 ·rw [if_pos h1]
  by_cases h3 : l.length ≤ 48
  ·rw [if_pos h3, anyO_all g h1.1 h1.2 n k hn hk l hr hw]
   simp [h1.1, h1.2, h3]
  ·rw [if_neg h3]
   simp [h3]
 ·rw [if_neg h1]
  by_cases h0 : 0 ≤ g <;> by_cases h4 : g ≤ 24 <;> simp [h0, h4]
  exact absurd ⟨h0, h4⟩ h1

theorem specIn_eq (a b c : Int) : spec_l01In.f a b c = some (decide (b ≤ a ∧ a ≤ c)) := by
 unfold spec_l01In.f
 by_cases h : b ≤ a
 ·rw [if_pos h]; simp [h]
 ·rw [if_neg h]; simp [h]
/-- What a move names is there. -/
def TzUses (g : Int) (n : Nat) (k i j : Int) : Prop := k ≠ 6 → (0 ≤ i ∧ i ≤ (n : Int) - 1) ∧ (k = 3 → 0 ≤ j ∧ j ≤ (n : Int) - 1) ∧ (k = 5 → 1 ≤ j ∧ j ≤ g)
theorem specMissing_eq (g : Int) (l : List (List Int)) (hl : l.length ≤ 1000) (k i j : Int) (w : List Int) (K : Nat) (hK : 0 < K) [d : Decidable (TzUses g l.length k i j)] : spec_l04Missing.f K g l k i j w = some (!(decide (TzUses g l.length k i j))) := by
 obtain ⟨K, rfl⟩ := succ_k hK
 have e : wrap64 ((l.length : Int) - 1) = (l.length : Int) - 1 := w64 _ (by omega) (by omega)
 unfold spec_l04Missing.f
 rw [e]
 by_cases h6 : k = 6
 ·have hu : TzUses g l.length k i j := fun h => absurd h6 h
  rw [if_pos h6, spec_l04Missing.j0, if_neg (by decide), if_neg (by omega), if_neg (by omega), decide_eq_true hu]
  rfl
 ·rw [if_neg h6, specIn_eq, Option.bind_some, spec_l04Missing.j0]
  by_cases hi : 0 ≤ i ∧ i ≤ (l.length : Int) - 1
  ·rw [decide_eq_true hi, if_neg (by decide)]
   by_cases h3 : k = 3
   ·rw [if_pos h3, specIn_eq, Option.bind_some]
    by_cases hj : 0 ≤ j ∧ j ≤ (l.length : Int) - 1
    ·have hu : TzUses g l.length k i j := fun _ => ⟨hi, fun _ => hj, fun h => by omega⟩
     rw [decide_eq_true hj, if_pos rfl, if_neg (by omega), decide_eq_true hu]
     rfl
    ·have hu : ¬ TzUses g l.length k i j := fun h => hj ((h h6).2.1 h3)
     rw [decide_eq_false hj, if_neg (by decide), decide_eq_false hu]
     rfl
   ·rw [if_neg h3]
    by_cases h5 : k = 5
    ·rw [if_pos h5, specIn_eq, Option.bind_some]
     by_cases hj : 1 ≤ j ∧ j ≤ g
     ·have hu : TzUses g l.length k i j := fun _ => ⟨hi, fun h => absurd h h3, fun _ => hj⟩
      rw [decide_eq_true hj, decide_eq_true hu]
     ·have hu : ¬ TzUses g l.length k i j := fun h => hj ((h h6).2.2 h5)
      rw [decide_eq_false hj, decide_eq_false hu]
    ·have hu : TzUses g l.length k i j := fun _ => ⟨hi, fun h => absurd h h3, fun h => absurd h h5⟩
     rw [if_neg h5, decide_eq_true hu]
     rfl
  ·have hu : ¬ TzUses g l.length k i j := fun h => hi (h h6).1
   rw [decide_eq_false hi, if_pos (by decide), decide_eq_false hu]
   rfl
/-- The move may be made. -/
def tzCan (l : List (List Int)) (k i j : Int) : Bool :=
 if k = 3 then i != j else if k = 4 then ((rd_L1 l i).length : Int) == 0 else if k = 5 then (((rd_L1 l i).countP (fun x => absI x == j) : Nat) : Int) == 1 else true
theorem specPossible_eq {g : Int} {l : List (List Int)} {k i j : Int} (w : List Int) (hg : 0 ≤ g ∧ g ≤ 24) (hl : l.length ≤ 48) (hr : ∀ x ∈ l, redB g x = true) (hu : TzUses g l.length k i j) (K : Nat) (hK : 1000 < K) : spec_l04Possible.f K g l k i j w = some (tzCan l k i j) := by
 unfold spec_l04Possible.f tzCan
 by_cases h3 : k = 3
 ·rw [if_pos h3, if_pos h3]
 ·rw [if_neg h3, if_neg h3]
  by_cases h4 : k = 4
  ·obtain ⟨⟨i1, i2⟩, _⟩ := hu (by omega)
   rw [if_pos h4, if_pos h4, if_pos i1, if_pos (by omega)]
  ·rw [if_neg h4, if_neg h4]
   by_cases h5 : k = 5
   ·obtain ⟨⟨i1, i2⟩, _, hj⟩ := hu (by omega)
    have hj := hj h5
    obtain ⟨n, rfl⟩ : ∃ n : Nat, i = n := ⟨i.toNat, by omega⟩
    have hm := redB_facts hg.2 (hr _ (rdL1_mem l n (by omega)))
    have hc := count_two j (by omega) _ hm.1
    have hle := List.countP_le_length (p := fun x => absI x == j) (l := rd_L1 l (n : Int))
    have hm2 := hm.2.1
    rw [if_pos h5, if_pos h5, if_pos i1, if_pos (by omega), specCount_eq _ _ hm2 K (by omega), Option.bind_some, wneg j (by omega), specCount_eq _ _ hm2 K (by omega), Option.bind_some, ← hc]
    rw [← hc] at hle
    rw [w64 _ (by omega) (by omega)]
    congr 2
   ·rw [if_neg h5, if_neg h5]
theorem implPossible_eq {g : Int} {l : List (List Int)} {k i j : Int} (w : List Int) (hg : 0 ≤ g ∧ g ≤ 24) (hl : l.length ≤ 48) (hr : ∀ x ∈ l, redB g x = true) (hu : TzUses g l.length k i j) (K : Nat) (hK : 1000 < K) : impl_isPossible.f K g l k i j w = some (tzCan l k i j) := by
 unfold impl_isPossible.f tzCan
 by_cases h3 : k = 3
 ·rw [if_pos h3, if_pos h3]
 ·rw [if_neg h3, if_neg h3]
  by_cases h4 : k = 4
  ·obtain ⟨⟨i1, i2⟩, _⟩ := hu (by omega)
   rw [if_pos h4, if_pos h4, if_pos i1, if_pos (by omega)]
  ·rw [if_neg h4, if_neg h4]
   by_cases h5 : k = 5
   ·obtain ⟨⟨i1, i2⟩, _, hj⟩ := hu (by omega)
    obtain ⟨n, rfl⟩ : ∃ n : Nat, i = n := ⟨i.toNat, by omega⟩
    have hm := redB_facts hg.2 (hr _ (rdL1_mem l n (by omega)))
    rw [if_pos h5, if_pos h5, if_pos i1, if_pos (by omega), occ_eq _ _ hm.2.1 K (by omega), Option.bind_some]
   ·rw [if_neg h5, if_neg h5]
theorem presB_facts {g : Int} {l : List (List Int)} (h : presB g l = true) : (0 ≤ g ∧ g ≤ 24) ∧ l.length ≤ 48 ∧ ∀ x ∈ l, redB g x = true := by
 unfold presB at h
 simp only [Bool.and_eq_true, decide_eq_true_eq, List.all_eq_true] at h
 exact ⟨⟨h.1.1.1, h.1.1.2⟩, h.1.2, h.2⟩
theorem wf_small {y : Int} (h : -25 ≤ y ∧ y ≤ 25) : (Lit.int .i64 y).wf = true := by
 simp [Lit.wf, IntKind.min, IntKind.max, IntKind.signed, IntKind.bits]
 omega

theorem specApply_yes {g : Int} {l : List (List Int)} {k i j : Int} (hp : presB g l = true) (hk : k = 4 ∨ k = 5) (hu : TzUses g l.length k i j) (hc : tzCan l k i j = true) (hp2 : presB (tzRows g l k i j []).1 (tzRows g l k i j []).2 = true) (K : Nat) (hK : 3000000 < K) :
  spec_ApplyTietze.f K g l k i j [] = some ((tzRows g l k i j []).1, (tzRows g l k i j []).2, 0) := by
 obtain ⟨hg, hl, hr⟩ := presB_facts hp
 have hsz : ∀ x ∈ l, x.length ≤ 1048576 := fun x hx => by have := (redB_facts hg.2 (hr x hx)).2.1; omega
 have hwf : ∀ x ∈ l, ∀ y ∈ x, (Lit.int .i64 y).wf = true := fun x hx y hy => wf_small (by have := (redB_facts hg.2 (hr x hx)).1 y hy; omega)
 have ok : TzOk g l k i j [] := by
  refine ⟨hg, hl, hr, by omega, fun h => by have := (hu h).1; omega, fun h => by omega, fun h => ⟨(hu (by omega)).2.2 h, ?_⟩, fun h => by omega, by simp⟩
  unfold tzCan at hc
  rw [if_neg (by omega), if_neg (by omega), if_pos h] at hc
  have := beq_iff_eq.1 hc
  omega
 obtain ⟨z1, z2⟩ := tzRows_size ok
 have hk6 : 1 ≤ k ∧ k ≤ 6 := by omega
 have h6 : ¬ k = 6 := by omega
 haveI : Decidable (TzUses g l.length k i j) := Classical.propDecidable _
 unfold spec_ApplyTietze.f
 rw [specPres_eq g l 1048576 K (Nat.le_refl _) (by omega) hsz hwf (by omega), Option.bind_some, if_pos hp, specIn_eq, Option.bind_some, if_pos (decide_eq_true hk6), specMissing_eq g l (by omega) k i j [] K (by omega), Option.bind_some, decide_eq_true hu, if_neg (by decide), if_neg h6]
 obtain ⟨K, rfl⟩ := succ_k hK
 rw [spec_ApplyTietze.j0, if_neg (by decide), specPossible_eq [] hg hl hr hu K (by omega), Option.bind_some, if_pos hc, specMove_eq ok K (by omega), Option.bind_some, specPres_eq _ _ 1048576 K (Nat.le_refl _) (by omega) (fun x hx => by have := (z2 x hx).1; omega) (fun x hx y hy => wf_small ((z2 x hx).2 y hy)) (by omega), Option.bind_some, if_pos hp2]
theorem specApply_no {g : Int} {l : List (List Int)} {i j : Int} (hp : presB g l = true) (hu : TzUses g l.length 5 i j) (hn : ¬ (tzCan l 5 i j = true ∧ presB (tzRows g l 5 i j []).1 (tzRows g l 5 i j []).2 = true)) (K : Nat) (hK : 3000000 < K) :
  ∃ e, e ≠ 0 ∧ spec_ApplyTietze.f K g l 5 i j [] = some (0, [], e) := by
 obtain ⟨hg, hl, hr⟩ := presB_facts hp
 have hsz : ∀ x ∈ l, x.length ≤ 1048576 := fun x hx => by have := (redB_facts hg.2 (hr x hx)).2.1; omega
 have hwf : ∀ x ∈ l, ∀ y ∈ x, (Lit.int .i64 y).wf = true := fun x hx y hy => wf_small (by have := (redB_facts hg.2 (hr x hx)).1 y hy; omega)
 haveI : Decidable (TzUses g l.length 5 i j) := Classical.propDecidable _
 unfold spec_ApplyTietze.f
 rw [specPres_eq g l 1048576 K (Nat.le_refl _) (by omega) hsz hwf (by omega), Option.bind_some, if_pos hp, specIn_eq, Option.bind_some, if_pos (by decide), specMissing_eq g l (by omega) 5 i j [] K (by omega), Option.bind_some, decide_eq_true hu, if_neg (by decide), if_neg (by decide)]
 obtain ⟨K, rfl⟩ := succ_k hK
 rw [spec_ApplyTietze.j0, if_neg (by decide), specPossible_eq [] hg hl hr hu K (by omega), Option.bind_some]
 by_cases hc : tzCan l 5 i j = true
 ·have ok : TzOk g l 5 i j [] := by
   refine ⟨hg, hl, hr, by decide, fun h => by have := (hu h).1; omega, fun h => absurd h (by decide), fun h => ⟨(hu (by decide)).2.2 h, ?_⟩, fun h => absurd h (by decide), by simp⟩
   unfold tzCan at hc
   rw [if_neg (by decide), if_neg (by decide), if_pos h] at hc
   have := beq_iff_eq.1 hc
   omega
  obtain ⟨z1, z2⟩ := tzRows_size ok
  refine ⟨3, by decide, ?_⟩
  rw [if_pos hc, specMove_eq ok K (by omega), Option.bind_some, specPres_eq _ _ 1048576 K (Nat.le_refl _) (by omega) (fun x hx => by have := (z2 x hx).1; omega) (fun x hx y hy => wf_small ((z2 x hx).2 y hy)) (by omega), Option.bind_some, if_neg fun h => hn ⟨hc, h⟩]
 ·exact ⟨5, by decide, by rw [if_neg hc]⟩

def SApp (g : Int) (l : List (List Int)) (m : S44) (g1 : Int) (l1 : List (List Int)) : Prop := ∀ K, 3000000 < K → spec_ApplyTietze.f K g l m.f0 m.f1 m.f2 m.f3 = some (g1, l1, 0)
/-- Move 5 may not be made there. -/
def SNo (g : Int) (l : List (List Int)) (i j : Int) : Prop := ∀ K, 3000000 < K → ∃ e, e ≠ 0 ∧ spec_ApplyTietze.f K g l 5 i j [] = some (0, [], e)
abbrev STy := Int × Int × Int × List Int × Int × List (List Int) × Bool
def SYes (g : Int) (l : List (List Int)) (F : Nat → Option STy) : Prop := ∃ k i j g1 l1, Evt F (k, i, j, [], g1, l1, true) ∧ SApp g l ⟨k, i, j, []⟩ g1 l1 ∧ presB g1 l1 = true ∧ g1 ≤ g
theorem SYes.step {g : Int} {l : List (List Int)} {F G : Nat → Option STy} (h : SYes g l G) (e : ∀ K, F (K + 1) = G K) : SYes g l F := by
 obtain ⟨k, i, j, g1, l1, h1, h2⟩ := h
 exact ⟨k, i, j, g1, l1, Evt.step h1 e, h2⟩
theorem uses5 {g : Int} {n : Nat} {i j : Int} (hi : 0 ≤ i ∧ i < (n : Int)) (hj : 1 ≤ j ∧ j ≤ g) : TzUses g n 5 i j := fun _ => ⟨by omega, fun h => absurd h (by decide), fun _ => hj⟩
theorem specApply_no4 {g : Int} {l : List (List Int)} {i : Int} (hp : presB g l = true) (hu : TzUses g l.length 4 i 0) (hn : tzCan l 4 i 0 = false) (K : Nat) (hK : 3000000 < K) :
  ∃ e, e ≠ 0 ∧ spec_ApplyTietze.f K g l 4 i 0 [] = some (0, [], e) := by
 obtain ⟨hg, hl, hr⟩ := presB_facts hp
 have hsz : ∀ x ∈ l, x.length ≤ 1048576 := fun x hx => by have := (redB_facts hg.2 (hr x hx)).2.1; omega
 have hwf : ∀ x ∈ l, ∀ y ∈ x, (Lit.int .i64 y).wf = true := fun x hx y hy => wf_small (by have := (redB_facts hg.2 (hr x hx)).1 y hy; omega)
 haveI : Decidable (TzUses g l.length 4 i 0) := Classical.propDecidable _
 unfold spec_ApplyTietze.f
 rw [specPres_eq g l 1048576 K (Nat.le_refl _) (by omega) hsz hwf (by omega), Option.bind_some, if_pos hp, specIn_eq, Option.bind_some, if_pos (by decide), specMissing_eq g l (by omega) 4 i 0 [] K (by omega), Option.bind_some, decide_eq_true hu, if_neg (by decide), if_neg (by decide)]
 obtain ⟨K, rfl⟩ := succ_k hK
 rw [spec_ApplyTietze.j0, if_neg (by decide), specPossible_eq [] hg hl hr hu K (by omega), Option.bind_some]
 exact ⟨5, by decide, by rw [if_neg (by rw [hn]; decide)]⟩
theorem scan_first : ∀ (l : List (List Int)) (i : Nat), (∃ n, n < l.length ∧ scanI (fun x : List Int => some (decide (x.length = 0))) l (i : Int) = some (((i + n : Nat) : Int)) ∧ (rd_L1 l (n : Int)).length = 0 ∧ ∀ m : Nat, m < n → (rd_L1 l (m : Int)).length ≠ 0) ∨ (scanI (fun x : List Int => some (decide (x.length = 0))) l (i : Int) = some (-1) ∧ ∀ m : Nat, m < l.length → (rd_L1 l (m : Int)).length ≠ 0)
 | [], i => .inr ⟨rfl, by simp⟩
 | x :: t, i => by
  have e0 : rd_L1 (x :: t) ((0 : Nat) : Int) = x := by simp [rd_L1]
  have es : ∀ m : Nat, rd_L1 (x :: t) ((m + 1 : Nat) : Int) = rd_L1 t (m : Int) := fun m => by simp [rd_L1]
  simp only [scanI, Option.bind_some]
  by_cases h : x.length = 0
  ·refine .inl ⟨0, by simp, ?_, by rw [e0]; exact h, fun m hm => absurd hm (by omega)⟩
   rw [if_pos (decide_eq_true h)]
   rfl
  ·rw [if_neg (by simpa using h), cast_succ]
   rcases scan_first t (i + 1) with ⟨n, h1, h2, h3, h4⟩ | ⟨h1, h2⟩
   ·refine .inl ⟨n + 1, by simp; omega, ?_, ?_, fun m hm => ?_⟩
    ·rw [h2]; congr 2; omega
    ·rw [es]; exact h3
    ·match m, hm with
     | 0, _ => rw [e0]; exact h
     | m + 1, hm => rw [es]; exact h4 m (by omega)
   ·refine .inr ⟨h1, fun m hm => ?_⟩
    match m, hm with
    | 0, _ => rw [e0]; exact h
    | m + 1, hm => rw [es]; exact h2 m (by simpa using hm)
def SYes2 (g : Int) (l : List (List Int)) (F G : Nat → Option STy) : Prop := ∃ k i j g1 l1, Evt F (k, i, j, [], g1, l1, true) ∧ Evt G (k, i, j, [], g1, l1, true) ∧ presB g1 l1 = true
def SBoth (g : Int) (l : List (List Int)) (F G : Nat → Option STy) : Prop := SYes2 g l F G ∨ (Evt F (0, 0, 0, [], g, l, false) ∧ Evt G (0, 0, 0, [], g, l, false))
theorem SBoth.step2 {g : Int} {l : List (List Int)} {F G F' G' : Nat → Option STy} (h : SBoth g l F G) (e : ∀ r, Evt F r → Evt F' r) (e2 : ∀ r, Evt G r → Evt G' r) : SBoth g l F' G' := by
 rcases h with ⟨k, i, j, g1, l1, h1, h2, h3⟩ | ⟨h1, h2⟩
 ·exact .inl ⟨k, i, j, g1, l1, e _ h1, e2 _ h2, h3⟩
 ·exact .inr ⟨e _ h1, e2 _ h2⟩
theorem spec2_yes {g g1 : Int} {l l1 : List (List Int)} {i x : Int} (hx : x ≤ g) (h : SApp g l ⟨5, i, x, []⟩ g1 l1) : Evt (fun K => spec_l04Step.l2 K i x g l) (5, i, x, [], g1, l1, true) := by
 refine ⟨3000002, fun K hK => ?_⟩
 obtain ⟨K, rfl⟩ : ∃ m, K = m + 1 := ⟨K - 1, by omega⟩
 have h1 := h K (by omega)
 simp only at h1
 show spec_l04Step.l2 (K + 1) i x g l = _
 rw [spec_l04Step.l2, if_pos hx, h1, Option.bind_some, if_pos rfl]
theorem spec2_next {g : Int} {l : List (List Int)} {i x x2 : Int} (hx : x ≤ g) (hx2 : wrap64 (x + 1) = x2) (h : SNo g l i x) {r : STy} (hr : Evt (fun K => spec_l04Step.l2 K i x2 g l) r) : Evt (fun K => spec_l04Step.l2 K i x g l) r := by
 obtain ⟨c, hc⟩ := hr
 refine ⟨c + 3000002, fun K hK => ?_⟩
 obtain ⟨K, rfl⟩ : ∃ m, K = m + 1 := ⟨K - 1, by omega⟩
 obtain ⟨e, he, h1⟩ := h K (by omega)
 have hc1 : spec_l04Step.l2 K i x2 g l = some r := hc K (by omega)
 show spec_l04Step.l2 (K + 1) i x g l = _
 rw [spec_l04Step.l2, if_pos hx, h1, Option.bind_some, if_neg he, hx2, hc1]
theorem simp2_l1 {g : Int} {l : List (List Int)} (hp : presB g l = true) (i : Nat) (hi : i < l.length)
  (hB : SBoth g l (fun K => impl_simplifying.l0 K (l.length : Int) ((i + 1 : Nat) : Int) g l) (fun K => spec_l04Step.l1 K ((i + 1 : Nat) : Int) g l)) :
  ∀ (d x : Nat), (x : Int) + d = g + 1 → 1 ≤ x → SBoth g l (fun K => impl_simplifying.l1 K (i : Int) (x : Int) (l.length : Int) (i : Int) g l) (fun K => spec_l04Step.l2 K (i : Int) (x : Int) g l) := by
 obtain ⟨hg, hl, hr⟩ := presB_facts hp
 intro d
 induction d with
 | zero =>
  intro x hx h1
  refine hB.step2 (fun r h => Evt.step h fun K => ?_) (fun r h => Evt.step h fun K => ?_)
  ·rw [impl_simplifying.l1, if_neg (by omega), w64 ((i : Int) + 1) (by omega) (by omega), cast_succ]
  ·rw [spec_l04Step.l2, if_neg (by omega), w64 ((i : Int) + 1) (by omega) (by omega), cast_succ]
 | succ d ih =>
  intro x hx h1
  have hxg : (x : Int) ≤ g := by omega
  have hu := uses5 (g := g) (n := l.length) (i := (i : Int)) (j := (x : Int)) (by omega) (by omega)
  have hw : wrap64 ((x : Int) + 1) = ((x + 1 : Nat) : Int) := by rw [w64 ((x : Int) + 1) (by omega) (by omega), cast_succ]
  have next : (∀ K, 2000000 < K → impl_simplifying.l1 (K + 1) (i : Int) (x : Int) (l.length : Int) (i : Int) g l = impl_simplifying.l1 K (i : Int) ((x + 1 : Nat) : Int) (l.length : Int) (i : Int) g l) → SNo g l (i : Int) (x : Int) →
    SBoth g l (fun K => impl_simplifying.l1 K (i : Int) (x : Int) (l.length : Int) (i : Int) g l) (fun K => spec_l04Step.l2 K (i : Int) (x : Int) g l) := fun e no => by
   refine (ih (x + 1) (by omega) (by omega)).step2 (fun r ⟨c, hc⟩ => ⟨c + 2000002, fun K hK => ?_⟩) (fun r h => spec2_next hxg hw no h)
   obtain ⟨m, rfl⟩ : ∃ m, K = m + 1 := ⟨K - 1, by omega⟩
   show impl_simplifying.l1 (m + 1) (i : Int) (x : Int) (l.length : Int) (i : Int) g l = some r
   rw [e m (by omega)]
   exact hc m (by omega)
  by_cases hc : tzCan l 5 (i : Int) (x : Int) = true
  ·have ok : TzOk g l 5 (i : Int) (x : Int) [] := by
    refine ⟨hg, hl, hr, by decide, fun h => by omega, fun h => absurd h (by decide), fun h => ⟨by omega, ?_⟩, fun h => absurd h (by decide), by simp⟩
    unfold tzCan at hc
    rw [if_neg (by decide), if_neg (by decide), if_pos h] at hc
    have := beq_iff_eq.1 hc
    omega
   obtain ⟨z1, z2⟩ := tzRows_size ok
   have hpe : ∀ K, 2000000 < K → impl_isPresentation.f K (tzRows g l 5 (i : Int) (x : Int) []).1 (tzRows g l 5 (i : Int) (x : Int) []).2 = some (presB (tzRows g l 5 (i : Int) (x : Int) []).1 (tzRows g l 5 (i : Int) (x : Int) []).2) := fun K hK => implisPres_eq _ _ 1048576 K (Nat.le_refl _) (fun x hx => by have := (z2 x hx).1; omega) (fun x hx y hy => wf_small ((z2 x hx).2 y hy)) (by omega)
   by_cases hp2 : presB (tzRows g l 5 (i : Int) (x : Int) []).1 (tzRows g l 5 (i : Int) (x : Int) []).2 = true
   ·refine .inl ⟨5, (i : Int), (x : Int), _, _, ⟨2000002, fun K hK => ?_⟩, spec2_yes hxg fun K hK => specApply_yes hp (.inr rfl) hu hc hp2 K hK, hp2⟩
    obtain ⟨K, rfl⟩ : ∃ m, K = m + 1 := ⟨K - 1, by omega⟩
    show impl_simplifying.l1 (K + 1) (i : Int) (x : Int) (l.length : Int) (i : Int) g l = _
    rw [impl_simplifying.l1, if_pos hxg, implPossible_eq [] hg hl hr hu K (by omega), Option.bind_some, if_pos hc, implMove_eq ok K (by omega), Option.bind_some, hpe K (by omega), Option.bind_some, if_pos hp2]
   ·refine next (fun K hK => ?_) fun K hK => specApply_no hp hu (fun h => hp2 h.2) K hK
    rw [impl_simplifying.l1, if_pos hxg, implPossible_eq [] hg hl hr hu K (by omega), Option.bind_some, if_pos hc, implMove_eq ok K (by omega), Option.bind_some, hpe K (by omega), Option.bind_some, if_neg hp2, w64 ((x : Int) + 1) (by omega) (by omega), cast_succ]
  ·refine next (fun K hK => ?_) fun K hK => specApply_no hp hu (fun h => hc h.1) K hK
   rw [impl_simplifying.l1, if_pos hxg, implPossible_eq [] hg hl hr hu K (by omega), Option.bind_some, if_neg hc, w64 ((x : Int) + 1) (by omega) (by omega), cast_succ]
theorem simp2_l0 {g : Int} {l : List (List Int)} (hp : presB g l = true) : ∀ (d i : Nat), i + d = l.length →
  SBoth g l (fun K => impl_simplifying.l0 K (l.length : Int) (i : Int) g l) (fun K => spec_l04Step.l1 K (i : Int) g l) := by
 obtain ⟨hg, hl, hr⟩ := presB_facts hp
 intro d
 induction d with
 | zero =>
  intro i hi
  exact .inr ⟨Evt.now fun K => by rw [impl_simplifying.l0, if_neg (by omega)], Evt.now fun K => by rw [spec_l04Step.l1, if_neg (by omega)]⟩
 | succ d ih =>
  intro i hi
  obtain ⟨n, hn⟩ : ∃ n : Nat, g = n := ⟨g.toNat, by omega⟩
  refine (simp2_l1 hp i (by omega) (ih (i + 1) (by omega)) n 1 (by omega) (Nat.le_refl 1)).step2 (fun r h => Evt.step h fun K => ?_) (fun r h => Evt.step h fun K => ?_)
  ·rw [impl_simplifying.l0, if_pos (by omega)]
   rfl
  ·rw [spec_l04Step.l1, if_pos (by omega)]
   rfl
theorem spec0_next {g : Int} {l : List (List Int)} (hp : presB g l = true) (m : Nat) (hm : m < l.length) (hne : (rd_L1 l (m : Int)).length ≠ 0) {r : STy} (hr : Evt (fun K => spec_l04Step.l0 K ((m + 1 : Nat) : Int) g l) r) : Evt (fun K => spec_l04Step.l0 K (m : Int) g l) r := by
 obtain ⟨hg, hl, _⟩ := presB_facts hp
 have hu : TzUses g l.length 4 (m : Int) 0 := fun _ => ⟨by omega, fun h => absurd h (by decide), fun h => absurd h (by decide)⟩
 have hc : tzCan l 4 (m : Int) 0 = false := by
  unfold tzCan
  rw [if_neg (by decide), if_pos rfl]
  exact beq_eq_false_iff_ne.2 (by omega)
 obtain ⟨c, hc2⟩ := hr
 refine ⟨c + 3000002, fun K hK => ?_⟩
 obtain ⟨K, rfl⟩ : ∃ q, K = q + 1 := ⟨K - 1, by omega⟩
 obtain ⟨e, he, h1⟩ := specApply_no4 hp hu hc K (by omega)
 have h3 : spec_l04Step.l0 K ((m + 1 : Nat) : Int) g l = some r := hc2 K (by omega)
 show spec_l04Step.l0 (K + 1) (m : Int) g l = _
 rw [spec_l04Step.l0, if_pos (by omega), h1, Option.bind_some, if_neg he, w64 ((m : Int) + 1) (by omega) (by omega), cast_succ, h3]
theorem spec0_upto {g : Int} {l : List (List Int)} (hp : presB g l = true) {r : STy} (n : Nat) (hn : n ≤ l.length) (hne : ∀ m : Nat, m < n → (rd_L1 l (m : Int)).length ≠ 0) (hr : Evt (fun K => spec_l04Step.l0 K (n : Int) g l) r) : ∀ (d m : Nat), m + d = n → Evt (fun K => spec_l04Step.l0 K (m : Int) g l) r
 | 0, m, h => by
  have e : m = n := by omega
  rw [e]; exact hr
 | d + 1, m, h => spec0_next hp m (by omega) (hne m (by omega)) (spec0_upto hp n hn hne hr d (m + 1) (by omega))
theorem step_both {g : Int} {l : List (List Int)} (hp : presB g l = true) : SBoth g l (fun K => impl_simplifying.f K g l) (fun K => spec_l04Step.f K g l) := by
 obtain ⟨hg, hl, hr⟩ := presB_facts hp
 rcases scan_first l 0 with ⟨n, h1, h2, h3, h4⟩ | ⟨h1, h2⟩
 ·have hu : TzUses g l.length 4 (n : Int) 0 := fun _ => ⟨by omega, fun h => absurd h (by decide), fun h => absurd h (by decide)⟩
  have hc : tzCan l 4 (n : Int) 0 = true := by
   unfold tzCan
   rw [if_neg (by decide), if_pos rfl, h3]
   rfl
  have ok : TzOk g l 4 (n : Int) 0 [] := ⟨hg, hl, hr, by decide, fun _ => by omega, fun h => absurd h (by decide), fun h => absurd h (by decide), fun h => absurd h (by decide), by simp⟩
  have er : tzRows g l 4 (n : Int) 0 [] = (g, l.eraseIdx n) := by
   unfold tzRows
   rw [if_neg (by decide), if_neg (by decide), if_neg (by decide), if_pos rfl, Int.toNat_natCast]
  have hp2 : presB (tzRows g l 4 (n : Int) 0 []).1 (tzRows g l 4 (n : Int) 0 []).2 = true := by
   rw [er]
   have hle := List.length_eraseIdx_le l n
   unfold presB
   simp only [Bool.and_eq_true, decide_eq_true_eq, List.all_eq_true]
   exact ⟨⟨⟨hg.1, hg.2⟩, by omega⟩, fun x hx => hr x (List.mem_of_mem_eraseIdx hx)⟩
  refine .inl ⟨4, (n : Int), 0, _, _, ⟨200000, fun K hK => ?_⟩, ?_, hp2⟩
  ·show impl_simplifying.f K g l = _
   unfold impl_simplifying.f indexEmpty.f
   have h2' : scanI (fun x : List Int => some (decide (x.length = 0))) l 0 = some (n : Int) := by
    have := h2
    rw [Nat.zero_add] at this
    exact this
   rw [h2', Option.bind_some, if_pos (by omega), implMove_eq ok K (by omega), Option.bind_some]
  ·have e0 : Evt (fun K => spec_l04Step.l0 K (n : Int) g l) (4, (n : Int), 0, [], (tzRows g l 4 (n : Int) 0 []).1, (tzRows g l 4 (n : Int) 0 []).2, true) := ⟨3000002, fun K hK => by
    obtain ⟨K, rfl⟩ : ∃ q, K = q + 1 := ⟨K - 1, by omega⟩
    show spec_l04Step.l0 (K + 1) (n : Int) g l = _
    rw [spec_l04Step.l0, if_pos (by omega), specApply_yes hp (.inl rfl) hu hc hp2 K (by omega), Option.bind_some, if_pos rfl]⟩
   exact spec0_upto hp n (by omega) h4 e0 n 0 (by omega)
 ·have h1' : scanI (fun x : List Int => some (decide (x.length = 0))) l 0 = some (-1) := h1
  refine (simp2_l0 hp l.length 0 (by omega)).step2 (fun r h => Evt.same h fun K => ?_) (fun r h => ?_)
  ·unfold impl_simplifying.f indexEmpty.f
   rw [h1', Option.bind_some, if_neg (by decide)]
   rfl
  ·refine spec0_upto hp l.length (Nat.le_refl _) h2 (Evt.step h fun K => ?_) l.length 0 (by omega)
   rw [spec_l04Step.l0, if_neg (by omega)]
   rfl
theorem simplified2_succ (K : Nat) (M : List S44) (g : Int) (l : List (List Int)) : impl_simplified.l0 (K + 1) M g l = if (M.length : Int) < 200 then ((impl_simplifying.f K g l).bind fun bt442 => (if bt442.2.2.2.2.2.2 = true then (if M.length < 2932031007402 then (impl_simplified.l0 K (M ++ [(⟨bt442.1, bt442.2.1, bt442.2.2.1, bt442.2.2.2.1⟩ : S44)]) bt442.2.2.2.2.1 bt442.2.2.2.2.2.1) else (none)) else (some (g, l, M)))) else (some (g, l, M)) := rfl
theorem specsimp_succ (K : Nat) (M : List S44) (g : Int) (l : List (List Int)) : spec_SimplifyPresentation.l0 (K + 1) M g l = if (M.length : Int) < 200 then ((spec_l04Step.f K g l).bind fun bt375 => (if bt375.2.2.2.2.2.2 = true then (if M.length < 2932031007402 then (spec_SimplifyPresentation.l0 K (M ++ [(⟨bt375.1, bt375.2.1, bt375.2.2.1, bt375.2.2.2.1⟩ : S44)]) bt375.2.2.2.2.1 bt375.2.2.2.2.2.1) else (none)) else (some (g, l, M, 0)))) else (some (g, l, M, 0)) := rfl
theorem simplified2_l0 : ∀ (d : Nat) (M : List S44) (g : Int) (l : List (List Int)), M.length + d = 200 → presB g l = true → (∀ m ∈ M, m.f3 = []) →
  ∃ g2 l2 M2, Evt (fun K => impl_simplified.l0 K M g l) (g2, l2, M2) ∧ Evt (fun K => spec_SimplifyPresentation.l0 K M g l) (g2, l2, M2, 0) ∧ presB g2 l2 = true ∧ M2.length ≤ 200 ∧ ∀ m ∈ M2, m.f3 = [] := by
 intro d
 induction d with
 | zero =>
  intro M g l hd hp hm
  exact ⟨g, l, M, Evt.now fun K => by rw [simplified2_succ, if_neg (by omega)], Evt.now fun K => by rw [specsimp_succ, if_neg (by omega)], hp, by omega, hm⟩
 | succ d ih =>
  intro M g l hd hp hm
  rcases step_both hp with ⟨k, i, j, g1, l1, h1, h2, h3⟩ | ⟨h1, h2⟩
  ·obtain ⟨g2, l2, M2, k1, k2, k3⟩ := ih (M ++ [⟨k, i, j, []⟩]) g1 l1 (by simp; omega) h3 (fun m hx => by
    rcases List.mem_append.1 hx with hx | hx
    ·exact hm m hx
    ·rw [List.mem_singleton.1 hx])
   refine ⟨g2, l2, M2, ?_, ?_, k3⟩
   ·obtain ⟨c1, e1⟩ := h1
    obtain ⟨c2, e2⟩ := k1
    refine ⟨c1 + c2 + 1, fun K hK => ?_⟩
    obtain ⟨K, rfl⟩ : ∃ q, K = q + 1 := ⟨K - 1, by omega⟩
    have f1 : impl_simplifying.f K g l = _ := e1 K (by omega)
    have f2 : impl_simplified.l0 K (M ++ [⟨k, i, j, []⟩]) g1 l1 = _ := e2 K (by omega)
    show impl_simplified.l0 (K + 1) M g l = _
    rw [simplified2_succ, if_pos (by omega), f1, Option.bind_some]
    simp only
    rw [if_pos trivial, if_pos (by omega), f2]
   ·obtain ⟨c1, e1⟩ := h2
    obtain ⟨c2, e2⟩ := k2
    refine ⟨c1 + c2 + 1, fun K hK => ?_⟩
    obtain ⟨K, rfl⟩ : ∃ q, K = q + 1 := ⟨K - 1, by omega⟩
    have f1 : spec_l04Step.f K g l = _ := e1 K (by omega)
    have f2 : spec_SimplifyPresentation.l0 K (M ++ [⟨k, i, j, []⟩]) g1 l1 = _ := e2 K (by omega)
    show spec_SimplifyPresentation.l0 (K + 1) M g l = _
    rw [specsimp_succ, if_pos (by omega), f1, Option.bind_some]
    simp only
    rw [if_pos trivial, if_pos (by omega), f2]
  ·refine ⟨g, l, M, ?_, ?_, hp, by omega, hm⟩
   ·obtain ⟨c1, e1⟩ := h1
    refine ⟨c1 + 1, fun K hK => ?_⟩
    obtain ⟨K, rfl⟩ : ∃ q, K = q + 1 := ⟨K - 1, by omega⟩
    have f1 : impl_simplifying.f K g l = _ := e1 K (by omega)
    show impl_simplified.l0 (K + 1) M g l = _
    rw [simplified2_succ, if_pos (by omega), f1, Option.bind_some]
    rfl
   ·obtain ⟨c1, e1⟩ := h2
    refine ⟨c1 + 1, fun K hK => ?_⟩
    obtain ⟨K, rfl⟩ : ∃ q, K = q + 1 := ⟨K - 1, by omega⟩
    have f1 : spec_l04Step.f K g l = _ := e1 K (by omega)
    show spec_SimplifyPresentation.l0 (K + 1) M g l = _
    rw [specsimp_succ, if_pos (by omega), f1, Option.bind_some]
    rfl
theorem simplify_both (g : Int) (l : List (List Int)) (hl : l.length ≤ 1048576) (hr : ∀ x ∈ l, x.length ≤ 1048576) (hw : ∀ x ∈ l, ∀ y ∈ x, (Lit.int .i64 y).wf = true) :
  ∃ s : Int × List (List Int) × List S44 × Int, Evt (fun K => impl_SimplifyPresentation.f K g l) s ∧ Evt (fun K => spec_SimplifyPresentation.f K g l) s ∧ s.2.1.length ≤ 48 ∧ (∀ x ∈ s.2.1, x.length ≤ 1048576) ∧ s.2.2.1.length ≤ 200 ∧ ∀ m ∈ s.2.2.1, m.f3 = [] := by
 by_cases hp : presB g l = true
 ·obtain ⟨hg, hl2, hr2⟩ := presB_facts hp
  obtain ⟨g2, l2, M2, ⟨c1, e1⟩, ⟨c2, e2⟩, k3, k4, k5⟩ := simplified2_l0 200 [] g l (by simp) hp (by simp)
  obtain ⟨hg3, hl3, hr3⟩ := presB_facts k3
  refine ⟨(g2, l2, M2, 0), ⟨c1 + 2100000, fun K hK => ?_⟩, ⟨c2 + 2100000, fun K hK => ?_⟩, hl3, fun x hx => by have := (redB_facts hg3.2 (hr3 x hx)).2.1; omega, k4, k5⟩
  ·show impl_SimplifyPresentation.f K g l = _
   unfold impl_SimplifyPresentation.f impl_simplified.f
   have f1 : impl_simplified.l0 K [] g l = _ := e1 K (by omega)
   rw [implisPres_eq g l 1048576 K (Nat.le_refl _) hr hw (by omega), Option.bind_some, if_pos hp, copyL_eq l (by omega) hr K (by omega), Option.bind_some, f1, Option.bind_some]
  ·show spec_SimplifyPresentation.f K g l = _
   have f1 : spec_SimplifyPresentation.l0 K [] g l = _ := e2 K (by omega)
   unfold spec_SimplifyPresentation.f
   rw [Option.bind_some, specPres_eq g l 1048576 K (Nat.le_refl _) hl hr hw (by omega), Option.bind_some, if_pos hp, specCopy_eq l (by omega) hr K (by omega), Option.bind_some, f1]
 ·refine ⟨(0, [], [], 1), ⟨2100000, fun K hK => ?_⟩, ⟨2100000, fun K hK => ?_⟩, by simp, by simp, by simp, by simp⟩
  ·show impl_SimplifyPresentation.f K g l = _
   unfold impl_SimplifyPresentation.f
   rw [implisPres_eq g l 1048576 K (Nat.le_refl _) hr hw (by omega), Option.bind_some, if_neg hp]
  ·show spec_SimplifyPresentation.f K g l = _
   unfold spec_SimplifyPresentation.f
   rw [Option.bind_some, specPres_eq g l 1048576 K (Nat.le_refl _) hl hr hw (by omega), Option.bind_some, if_neg hp]

theorem rdT_at (Q : List S44) (i : Nat) (h : i < Q.length) : rd_T44 Q (i : Int) = Q[i] := by
 unfold rd_T44
 rw [Int.toNat_natCast]
 simp [h]
theorem eqMove_self (m : S44) (hm : m.f3 = []) (K : Nat) (hK : 0 < K) : laws_eqTietzeMove.f K m.f0 m.f1 m.f2 m.f3 m.f0 m.f1 m.f2 m.f3 = some true := by
 unfold laws_eqTietzeMove.f
 rw [if_pos rfl, if_pos rfl, if_pos rfl, hm, eqInt64S_self [] K (by simp) (by simpa using hK), Option.bind_some, if_pos rfl]
theorem eqMoves_l0 (M : List S44) (hl : M.length ≤ 200) (hm : ∀ m ∈ M, m.f3 = []) : ∀ (d i K : Nat), i + d = M.length → d + 2 ≤ K → laws_eqTietzeMoveS.l0 K M M (i : Int) = some true
 | 0, i, K, h, hK => by
  obtain ⟨K, rfl⟩ : ∃ q, K = q + 1 := ⟨K - 1, by omega⟩
  rw [laws_eqTietzeMoveS.l0, if_neg (by omega)]
 | d + 1, i, K, h, hK => by
  obtain ⟨K, rfl⟩ : ∃ q, K = q + 1 := ⟨K - 1, by omega⟩
  have hi : i < M.length := by omega
  rw [laws_eqTietzeMoveS.l0, if_pos (by omega), if_pos (by omega), if_pos (by omega), rdT_at M i hi, eqMove_self M[i] (hm _ (List.getElem_mem hi)) K (by omega), Option.bind_some, if_pos rfl, w64 ((i : Int) + 1) (by omega) (by omega), cast_succ]
  exact eqMoves_l0 M hl hm d (i + 1) K (by omega) (by omega)
theorem eqMoves_self (M : List S44) (hl : M.length ≤ 200) (hm : ∀ m ∈ M, m.f3 = []) (K : Nat) (hK : 300 < K) : laws_eqTietzeMoveS.f K M M = some true := by
 unfold laws_eqTietzeMoveS.f
 rw [if_pos rfl]
 exact eqMoves_l0 M hl hm M.length 0 K (by omega) (by omega)
theorem heldNil (a : Int) (K : Nat) (hK : 0 < K) : laws_heldInt64S.f K [] a = some a := by
 obtain ⟨K, rfl⟩ : ∃ q, K = q + 1 := ⟨K - 1, by omega⟩
 unfold laws_heldInt64S.f
 rw [laws_heldInt64S.l0]
 simp
theorem heldMoves_l0 (Q : List S44) (hQ : Q.length ≤ 100000) : ∀ (R : List S44) (i : Nat) (x : Int) (K : Nat), Q.drop i = mvMark R x → 0 ≤ x → x + 3 * (R.length : Int) ≤ 10000000000000 → R.length + 2 ≤ K → laws_heldTietzeMoveS.l0 K Q x (i : Int) = some (x + 3 * (R.length : Int))
 | [], i, x, K, h, h0, h1, hK => by
  obtain ⟨K, rfl⟩ : ∃ q, K = q + 1 := ⟨K - 1, by omega⟩
  have hi : Q.length ≤ i := by
   have e : Q.drop i = [] := h
   exact List.drop_eq_nil_iff.1 e
  rw [laws_heldTietzeMoveS.l0, if_neg (by omega)]
  simp
 | r :: t, i, x, K, h, h0, h1, hK => by
  obtain ⟨K, rfl⟩ : ∃ q, K = q + 1 := ⟨K - 1, by omega⟩
  have h' : Q.drop i = ⟨x, x + 1, x + 2, []⟩ :: mvMark t (x + 3) := h
  have hi : i < Q.length := by
   apply Classical.byContradiction
   intro hn
   rw [List.drop_eq_nil_iff.2 (by omega)] at h'
   cases h'
  have hd := List.drop_eq_getElem_cons hi
  rw [hd] at h'
  have e1 := (List.cons.inj h').1
  have e2 := (List.cons.inj h').2
  have hlen : ((r :: t).length : Int) = (t.length : Int) + 1 := by simp
  have hk2 : t.length + 2 ≤ K := by simpa using hK
  rw [hlen] at h1 ⊢
  have hx1 : wrap64 (x + 1) = x + 1 := w64 (x + 1) (by omega) (by omega)
  have hx2 : wrap64 (x + 1 + 1) = x + 2 := by rw [w64 (x + 1 + 1) (by omega) (by omega)]; omega
  have hx3 : wrap64 (x + 2 + 1) = x + 3 := by rw [w64 (x + 2 + 1) (by omega) (by omega)]; omega
  rw [laws_heldTietzeMoveS.l0, if_pos (by omega), if_pos (by omega), rdT_at Q i hi, e1]
  simp only
  rw [if_pos trivial, hx1, if_pos rfl, hx2, if_pos rfl, hx3, heldNil (x + 3) K (by omega), Option.bind_some, if_neg (by omega), w64 ((i : Int) + 1) (by omega) (by omega), cast_succ, heldMoves_l0 Q hQ t (i + 1) (x + 3) K e2 (by omega) (by omega) hk2]
  congr 1
  omega
theorem heldMoves (M : List S44) (hl : M.length ≤ 200) (a : Int) (h0 : 0 ≤ a) (h1 : a ≤ 1000000000000) (K : Nat) (hK : 300 < K) : laws_heldTietzeMoveS.f K (mvMark M a) a = some (a + 3 * (M.length : Int)) := by
 unfold laws_heldTietzeMoveS.f
 exact heldMoves_l0 (mvMark M a) (by rw [mvMark_len]; omega) M 0 a K (by rw [List.drop_zero]) h0 (by omega) (by omega)
theorem FnExactSimplifyPresentation : laws_FnExactSimplifyPresentation.Pure := by
 intro a0 l _ hl hr
 by_cases hb : l.length ≤ 1048576 ∧ ∀ x ∈ l, x.length ≤ 1048576
 ·obtain ⟨s, ⟨k1, h1⟩, ⟨k2, h2⟩, b1, b2, b3, b4⟩ := simplify_both a0 l hb.1 hb.2 (fun x hx => (hr x hx).2)
  have b1' : s.2.1.length ≤ 1048576 := Nat.le_trans b1 (by decide)
  obtain ⟨k3, h3⟩ := markSS_ev l hb.1 hb.2
  obtain ⟨k4, h4⟩ := markSS_ev s.2.1 b1' b2
  obtain ⟨k5, h5⟩ := heldSS_ev s.2.1 b1' b2
  have t1 := tot_le 1048576 s.2.1 b2
  have t2 : 1048576 * s.2.1.length ≤ 1048576 * 48 := Nat.mul_le_mul_left _ b1
  have t3 : (1048576 * 48 : Nat) = 50331648 := by decide
  obtain ⟨K, hK⟩ : ∃ K : Nat, K = k1 + k2 + k3 + k4 + k5 + 3000001 := ⟨_, rfl⟩
  refine ⟨K, ?_⟩
  obtain ⟨r, e, hz⟩ := szPresentation_eq a0 l 1048576 K (by omega) (by omega) hl (fun x hx => (hr x hx).1) (by omega)
  unfold laws_FnExactSimplifyPresentation.f
  rw [e, Option.bind_some]
  by_cases h0 : r < 0
  ·rw [if_pos h0]
  ·have g1 := h1 K (by omega)
   have g2 := h2 K (by omega)
   have g3 := h3 K (by omega)
   have g4 := h4 K (by omega)
   have g5 := h5 K (by omega)
   simp only at g1 g2 g3 g4 g5
   have n1 : 0 ≤ 1 + (tot l : Int) := by omega
   have n2 : 0 ≤ 1 + (tot s.2.1 : Int) := by omega
   have n3 : ¬ 1 + (tot s.2.1 : Int) < 0 := by omega
   have hM : s.2.2.1.length ≤ 100000 ∧ 0 ≤ 1 + (tot s.2.1 : Int) ∧ 1 + (tot s.2.1 : Int) ≤ 1000000000000 := ⟨by omega, n2, by omega⟩
   have q1 := eqMoves_self s.2.2.1 b3 b4 K (by omega)
   have q2 := heldMoves s.2.2.1 b3 (1 + (tot s.2.1 : Int)) n2 (by omega) K (by omega)
   rw [if_neg h0, toPresentation_eq a0 l K hb.1 hb.2 (by omega), Option.bind_some]
   simp only
   rw [g2, Option.bind_some, g1, Option.bind_some, eqPresentation_self s.1 s.2.1 1048576 K b1' (by omega) b2 (by omega), Option.bind_some, if_pos rfl, q1, Option.bind_some, if_pos rfl, if_pos rfl, eqPresentation_self a0 l 1048576 K hb.1 (by omega) hb.2 (by omega), Option.bind_some, if_pos rfl]
   unfold laws_markPresentation.f
   rw [g3, Option.bind_some]
   simp only
   rw [if_pos n1, g4, Option.bind_some]
   unfold laws_markTietzeMoveS.f
   simp only
   rw [if_pos hM, Option.bind_some]
   unfold laws_heldPresentation.f
   simp only
   rw [g5, Option.bind_some, if_neg n3, Option.bind_some, if_pos n2, q2, Option.bind_some, if_pos (by omega), if_pos rfl]
 ·obtain ⟨K, hK⟩ : ∃ K : Nat, K = 2097300 := ⟨_, rfl⟩
  refine ⟨K, ?_⟩
  obtain ⟨r, e, h⟩ := szPresentation_eq a0 l 1048576 K (by omega) (by omega) hl (fun x hx => (hr x hx).1) (by omega)
  have h0 : r < 0 := by
   rcases h with h | ⟨_, _, h1, h2⟩
   ·exact h
   ·exact absurd ⟨by omega, fun x hx => by have := h2 x hx; omega⟩ hb
  unfold laws_FnExactSimplifyPresentation.f
  rw [e, Option.bind_some, if_pos h0]

end Go.Proofs.Ytbcdngjajjgmkaa.Pure
