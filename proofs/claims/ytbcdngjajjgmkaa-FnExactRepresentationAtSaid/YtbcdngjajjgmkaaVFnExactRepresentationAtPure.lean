/- Program and reference find the same representation by its number, in new memory, and leave the arguments. No condition: for every input that the statement lets in. -/
import Derived.Test.YtbcdngjajjgmkaaVFnExactRepresentationAtStmt
namespace Go.Proofs.Ytbcdngjajjgmkaa.Pure
open Go.RowKit Go.Proofs.Ytbcdngjajjgmkaa.PFnExactRepresentationAt Go.Proofs.YtbcdngjajjgmkaaW.PrintWords Go.Proofs.YtbcdngjajjgmkaaW.PrintLast

set_option linter.unusedSimpArgs false
set_option linter.unusedVariables false
set_option linter.unusedSectionVars false
theorem w64 (x : Int) (h0 : -9223372036854775808 ≤ x) (h1 : x ≤ 9223372036854775807) : wrap64 x = x := by
  unfold wrap64
  omega
theorem w64n (n : Nat) (h : n ≤ 9223372036854775807) : wrap64 (n : Int) = (n : Int) := w64 _ (by omega) (by omega)
theorem rd_nat (l : List Int) (i : Nat) (h : i < l.length) : rd l (i : Int) = l[i] := by
  simp [rd, List.getD, List.getElem?_eq_getElem h]
theorem succ_k {k n : Nat} (h : n < k) : ∃ m, k = m + 1 := ⟨k - 1, by omega⟩
theorem cast_succ (i : Nat) : ((i : Int) + 1) = ((i + 1 : Nat) : Int) := by omega
theorem drop_rd (l : List Int) (k : Nat) (h : k < l.length) : l.drop k = rd l (k : Int) :: l.drop (k + 1) := by
  rw [List.drop_eq_getElem_cons h, rd_nat l k h]

theorem szInt64S_eq (l : List Int) (a : Int) (h0 : 0 ≤ a) (h1 : a ≤ 1048576) (hl : l.length ≤ maxLen) : laws_szInt64S.f l a = some (if a < l.length then -1 else a - l.length) := by
  unfold maxLen at hl
  unfold laws_szInt64S.f
  rw [w64 _ (by omega) (by omega)]
  by_cases h : a < l.length
  · rw [if_pos (by omega), if_pos h]
  · rw [if_neg (by omega), if_neg h]

theorem rdL1_nat (l : List (List Int)) (i : Nat) (h : i < l.length) : rd_L1 l (i : Int) = l[i] := by
  simp [rd_L1, List.getD, List.getElem?_eq_getElem h]
theorem drop_rdL1 (l : List (List Int)) (k : Nat) (h : k < l.length) : l.drop k = rd_L1 l (k : Int) :: l.drop (k + 1) := by
  rw [List.drop_eq_getElem_cons h, rdL1_nat l k h]
theorem rdL1_mem (l : List (List Int)) (i : Nat) (h : i < l.length) : rd_L1 l (i : Int) ∈ l := by
  rw [rdL1_nat l i h]
  exact List.getElem_mem h

theorem szInt64SS_l0 (l : List (List Int)) (hl : l.length ≤ 1048576) (hr : ∀ x ∈ l, x.length ≤ maxLen) : ∀ (d i k : Nat) (a : Int), i + d = l.length → d < k → 0 ≤ a → a ≤ 1048576 →
    ∃ r, laws_szInt64SS.l0 k l a (i : Int) = some r ∧ (r < 0 ∨ (0 ≤ r ∧ r ≤ a ∧ ∀ x ∈ l.drop i, (x.length : Int) ≤ a)) := by
  intro d
  induction d with
  | zero =>
    intro i k a hd hk h0 h1
    obtain ⟨k, rfl⟩ := succ_k hk
    simp only [laws_szInt64SS.l0]
    rw [if_neg (by omega), List.drop_of_length_le (by omega)]
    exact ⟨a, rfl, .inr ⟨h0, Int.le_refl _, by simp⟩⟩
  | succ d ih =>
    intro i k a hd hk h0 h1
    obtain ⟨k, rfl⟩ := succ_k hk
    simp only [laws_szInt64SS.l0]
    rw [if_pos (by omega), if_pos (by omega), szInt64S_eq _ a h0 h1 (hr _ (rdL1_mem l i (by omega)))]
    simp only [Option.bind_some]
    by_cases h : a < (rd_L1 l (i : Int)).length
    · rw [if_pos h, if_pos (by omega)]
      exact ⟨-1, rfl, .inl (by omega)⟩
    · rw [if_neg h, if_neg (by omega), w64 _ (by omega) (by omega), cast_succ, drop_rdL1 l i (by omega)]
      obtain ⟨r, e, hr'⟩ := ih (i + 1) k (a - (rd_L1 l (i : Int)).length) (by omega) (by omega) (by omega) (by omega)
      refine ⟨r, e, ?_⟩
      rcases hr' with hr' | ⟨h2, h3, h4⟩
      · exact .inl hr'
      · refine .inr ⟨h2, by omega, fun x hx => ?_⟩
        rcases List.mem_cons.1 hx with e | hx
        · subst e
          omega
        · have := h4 x hx
          omega
theorem szInt64SS_eq (l : List (List Int)) (a : Int) (k : Nat) (h0 : 0 ≤ a) (h1 : a ≤ 1048576) (hl : l.length ≤ maxLen) (hr : ∀ x ∈ l, x.length ≤ maxLen) (hk : 1048576 < k) :
    ∃ r, laws_szInt64SS.f k l a = some r ∧ (r < 0 ∨ (0 ≤ r ∧ r ≤ a ∧ (l.length : Int) ≤ a ∧ ∀ x ∈ l, (x.length : Int) ≤ a)) := by
  unfold maxLen at hl
  unfold laws_szInt64SS.f
  rw [w64 _ (by omega) (by omega)]
  by_cases h : a - (l.length : Int) < 0
  · rw [if_pos h]
    exact ⟨-1, rfl, .inl (by omega)⟩
  · rw [if_neg h]
    obtain ⟨r, e, hr'⟩ := szInt64SS_l0 l (by omega) hr l.length 0 k (a - l.length) (by omega) (by omega) (by omega) (by omega)
    refine ⟨r, e, ?_⟩
    rcases hr' with hr' | ⟨h2, h3, h4⟩
    · exact .inl hr'
    · refine .inr ⟨h2, by omega, by omega, fun x hx => ?_⟩
      have := h4 x (by simpa using hx)
      omega

theorem szPresentation_eq (g : Int) (l : List (List Int)) (a : Int) (k : Nat) (h0 : 0 ≤ a) (h1 : a ≤ 1048576) (hl : l.length ≤ maxLen) (hr : ∀ x ∈ l, x.length ≤ maxLen) (hk : 1048576 < k) :
    ∃ r, laws_szPresentation.f k g l a = some r ∧ (r < 0 ∨ (0 ≤ r ∧ r ≤ a ∧ (l.length : Int) ≤ a ∧ ∀ x ∈ l, (x.length : Int) ≤ a)) := by
  obtain ⟨r, e, h⟩ := szInt64SS_eq l a k h0 h1 hl hr hk
  unfold laws_szPresentation.f
  rw [e]
  simp only [Option.bind_some]
  by_cases hr : r < 0
  · rw [if_pos hr]
    exact ⟨-1, rfl, .inl (by omega)⟩
  · rw [if_neg hr]
    exact ⟨r, rfl, h⟩

theorem toInt64S_l0 (l : List Int) (hl : l.length ≤ 4611686018427387904) : ∀ (d i : Nat) (x3 : List Int) (k : Nat), x3.length = l.length → i + d = l.length → x3.take i = l.take i → d < k → laws_toInt64S.l0 k l x3 (i : Int) = some l := by
  intro d
  induction d with
  | zero =>
    intro i x3 k h3 hd ht hk
    obtain ⟨k, rfl⟩ := succ_k hk
    simp only [laws_toInt64S.l0]
    rw [if_neg (by omega)]
    have e : i = l.length := by omega
    subst e
    rw [List.take_length, List.take_of_length_le (by omega)] at ht
    rw [ht]
  | succ d ih =>
    intro i x3 k h3 hd ht hk
    obtain ⟨k, rfl⟩ := succ_k hk
    simp only [laws_toInt64S.l0]
    rw [if_pos (by omega), if_pos (by omega), if_pos (by omega), w64 _ (by omega) (by omega), cast_succ]
    refine ih (i + 1) _ k (by simp [h3]) (by omega) ?_ (by omega)
    rw [Int.toNat_natCast, rd_nat l i (by omega)]
    rw [List.take_succ_eq_append_getElem (by simp; omega), List.take_succ_eq_append_getElem (by omega), List.take_set_of_le (by omega), ht]
    simp
theorem toInt64S_eq (l : List Int) (k : Nat) (hl : l.length ≤ 1048576) (hk : l.length < k) : laws_toInt64S.f k l = some l := by
  unfold laws_toInt64S.f
  rw [if_pos (by omega), if_pos (by omega)]
  exact toInt64S_l0 l (by omega) l.length 0 _ k (by simp) (by omega) (by simp) hk

theorem toInt64SS_l0 (l : List (List Int)) (hl : l.length ≤ 1048576) (hr : ∀ x ∈ l, x.length ≤ 1048576) : ∀ (d i : Nat) (x3 : List (List Int)) (k : Nat), x3.length = l.length → i + d = l.length → x3.take i = l.take i → d + 1048576 < k → laws_toInt64SS.l0 k l x3 (i : Int) = some l := by
  intro d
  induction d with
  | zero =>
    intro i x3 k h3 hd ht hk
    obtain ⟨k, rfl⟩ := succ_k hk
    simp only [laws_toInt64SS.l0]
    rw [if_neg (by omega)]
    have e : i = l.length := by omega
    subst e
    rw [List.take_length, List.take_of_length_le (by omega)] at ht
    rw [ht]
  | succ d ih =>
    intro i x3 k h3 hd ht hk
    obtain ⟨k, rfl⟩ := succ_k hk
    simp only [laws_toInt64SS.l0]
    have hm := hr _ (rdL1_mem l i (by omega))
    rw [if_pos (by omega), if_pos (by omega), toInt64S_eq _ k hm (by omega)]
    simp only [Option.bind_some]
    rw [if_pos (by omega), w64 _ (by omega) (by omega), cast_succ]
    refine ih (i + 1) _ k (by simp [h3]) (by omega) ?_ (by omega)
    rw [Int.toNat_natCast, rdL1_nat l i (by omega)]
    rw [List.take_succ_eq_append_getElem (by simp; omega), List.take_succ_eq_append_getElem (by omega), List.take_set_of_le (by omega), ht]
    simp
theorem toInt64SS_eq (l : List (List Int)) (k : Nat) (hl : l.length ≤ 1048576) (hr : ∀ x ∈ l, x.length ≤ 1048576) (hk : 2097152 < k) : laws_toInt64SS.f k l = some l := by
  unfold laws_toInt64SS.f
  rw [if_pos (by omega), if_pos (by omega)]
  exact toInt64SS_l0 l (by omega) hr l.length 0 _ k (by simp) (by omega) (by simp) (by omega)

theorem toPresentation_eq (g : Int) (l : List (List Int)) (k : Nat) (hl : l.length ≤ 1048576) (hr : ∀ x ∈ l, x.length ≤ 1048576) (hk : 2097152 < k) : laws_toPresentation.f k g l = some (g, l) := by
  unfold laws_toPresentation.f
  rw [toInt64SS_eq l k hl hr hk]
  rfl

theorem eqInt64S_l0 (l r : List Int) (hr : r.length = l.length) (hl : l.length ≤ 4611686018427387904) : ∀ (d i k : Nat), i + d = l.length → d < k → laws_eqInt64S.l0 k l r (i : Int) = some (decide (l.drop i = r.drop i)) := by
  intro d
  induction d with
  | zero =>
    intro i k hd hk
    obtain ⟨k, rfl⟩ := succ_k hk
    simp only [laws_eqInt64S.l0]
    rw [if_neg (by omega), List.drop_of_length_le (by omega), List.drop_of_length_le (by omega)]
    simp
  | succ d ih =>
    intro i k hd hk
    obtain ⟨k, rfl⟩ := succ_k hk
    simp only [laws_eqInt64S.l0]
    rw [if_pos (by omega), if_pos (by omega), if_pos (by omega), w64 _ (by omega) (by omega), cast_succ, ih (i + 1) k (by omega) (by omega), drop_rd l i (by omega), drop_rd r i (by omega)]
    by_cases h : rd l (i : Int) = rd r (i : Int)
    · simp [h]
    · simp [h]
theorem eqInt64S_eq (l r : List Int) (k : Nat) (hl : l.length ≤ 4611686018427387904) (hk : l.length < k) : laws_eqInt64S.f k l r = some (decide (l = r)) := by
  unfold laws_eqInt64S.f
  by_cases h : l.length = r.length
  · rw [if_pos (by omega)]
    have := eqInt64S_l0 l r h.symm hl l.length 0 k (by omega) hk
    simpa using this
  · rw [if_neg (by omega)]
    have : ¬ l = r := fun e => h (by rw [e])
    simp [this]
theorem eqInt64S_self (l : List Int) (k : Nat) (hl : l.length ≤ 4611686018427387904) (hk : l.length < k) : laws_eqInt64S.f k l l = some true := by
  rw [eqInt64S_eq l l k hl hk]
  simp

theorem eqInt64SS_l0 (l : List (List Int)) (hl : l.length ≤ 4611686018427387904) (n : Nat) (hn : n ≤ 4611686018427387904) (hr : ∀ x ∈ l, x.length ≤ n) : ∀ (d i k : Nat), i + d = l.length → d + n < k → laws_eqInt64SS.l0 k l l (i : Int) = some true := by
  intro d
  induction d with
  | zero =>
    intro i k hd hk
    obtain ⟨k, rfl⟩ := succ_k hk
    simp only [laws_eqInt64SS.l0]
    rw [if_neg (by omega)]
  | succ d ih =>
    intro i k hd hk
    obtain ⟨k, rfl⟩ := succ_k hk
    simp only [laws_eqInt64SS.l0]
    have hm := hr _ (rdL1_mem l i (by omega))
    rw [if_pos (by omega), if_pos (by omega), if_pos (by omega), eqInt64S_self _ k (by omega) (by omega)]
    simp only [Option.bind_some, if_true]
    rw [w64 _ (by omega) (by omega), cast_succ, ih (i + 1) k (by omega) (by omega)]
theorem eqInt64SS_self (l : List (List Int)) (n k : Nat) (hl : l.length ≤ 1048576) (hn : n ≤ 1048576) (hr : ∀ x ∈ l, x.length ≤ n) (hk : 2097152 < k) : laws_eqInt64SS.f k l l = some true := by
  unfold laws_eqInt64SS.f
  rw [if_pos rfl]
  exact eqInt64SS_l0 l (by omega) n (by omega) hr l.length 0 k (by omega) (by omega)

theorem eqPresentation_self (g : Int) (l : List (List Int)) (n k : Nat) (hl : l.length ≤ 1048576) (hn : n ≤ 1048576) (hr : ∀ x ∈ l, x.length ≤ n) (hk : 2097152 < k) : laws_eqPresentation.f k g l g l = some true := by
  unfold laws_eqPresentation.f
  rw [if_pos rfl, eqInt64SS_self l n k hl hn hr hk]
  rfl

/-- The numbers from m on. -/
def marks : Int → Nat → List Int
  | _, 0 => []
  | m, n + 1 => m :: marks (m + 1) n
theorem marks_length : ∀ (m : Int) (n : Nat), (marks m n).length = n
  | _, 0 => rfl
  | m, n + 1 => by simp [marks, marks_length (m + 1) n]

theorem markInt64S_l0 : ∀ (d i k : Nat) (x0 : List Int) (x1 : Int), x0.length ≤ 4611686018427387904 → i + d = x0.length → 0 ≤ x1 → x1 + d ≤ 4611686018427387904 → d < k →
    laws_markInt64S.l0 k x0 x1 (i : Int) = some (x1 + d, x0.take i ++ marks x1 d) := by
  intro d
  induction d with
  | zero =>
    intro i k x0 x1 hl hd h0 h1 hk
    obtain ⟨k, rfl⟩ := succ_k hk
    simp only [laws_markInt64S.l0]
    rw [if_neg (by omega)]
    simp [marks, List.take_of_length_le (show x0.length ≤ i by omega)]
  | succ d ih =>
    intro i k x0 x1 hl hd h0 h1 hk
    obtain ⟨k, rfl⟩ := succ_k hk
    simp only [laws_markInt64S.l0]
    rw [if_pos (by omega), if_pos (by omega), w64 _ (by omega) (by omega), w64 _ (by omega) (by omega), cast_succ, Int.toNat_natCast]
    rw [ih (i + 1) k (x0.set i x1) (x1 + 1) (by simp; omega) (by simp; omega) (by omega) (by omega) (by omega)]
    rw [List.take_succ_eq_append_getElem (by simp; omega), List.take_set_of_le (by omega)]
    simp only [marks, List.getElem_set_self, List.append_assoc, List.singleton_append]
    rw [show x1 + 1 + (d : Int) = x1 + ((d + 1 : Nat) : Int) by omega]
theorem markInt64S_eq (l : List Int) (m : Int) (k : Nat) (hl : l.length ≤ 1048576) (h0 : 0 ≤ m) (h1 : m ≤ 4611686018426339328) (hk : l.length < k) :
    laws_markInt64S.f k l m = some (m + l.length, marks m l.length) := by
  unfold laws_markInt64S.f
  have := markInt64S_l0 l.length 0 k l m (by omega) (by omega) h0 (by omega) hk
  simpa using this

/-- With enough rounds, the answer is r. -/
def Evt {α : Type} (f : Nat → Option α) (r : α) : Prop := ∃ c, ∀ K, c ≤ K → f K = some r
theorem Evt.step {α : Type} {f g : Nat → Option α} {r : α} (h : Evt g r) (e : ∀ K, f (K + 1) = g K) : Evt f r := by
  obtain ⟨c, hc⟩ := h
  refine ⟨c + 1, fun K hK => ?_⟩
  obtain ⟨K, rfl⟩ : ∃ m, K = m + 1 := ⟨K - 1, by omega⟩
  rw [e K]
  exact hc K (by omega)
theorem Evt.same {α : Type} {f g : Nat → Option α} {r : α} (h : Evt g r) (e : ∀ K, f K = g K) : Evt f r := by
  obtain ⟨c, hc⟩ := h
  exact ⟨c, fun K hK => by rw [e K]; exact hc K hK⟩
theorem Evt.now {α : Type} {f : Nat → Option α} {r : α} (e : ∀ K, f (K + 1) = some r) : Evt f r := by
  refine ⟨1, fun K hK => ?_⟩
  obtain ⟨K, rfl⟩ : ∃ m, K = m + 1 := ⟨K - 1, by omega⟩
  exact e K
theorem Evt.const {α : Type} {f : Nat → Option α} {r : α} (e : ∀ K, f K = some r) : Evt f r := ⟨0, fun K _ => e K⟩
theorem Evt.bind {α β : Type} {f : Nat → Option β} {g : Nat → Option α} {h : Nat → α → Option β} {x : α} {r : β} (hg : Evt g x) (hh : Evt (fun K => h K x) r) (e : ∀ K, f K = (g K).bind (h K)) : Evt f r := by
  obtain ⟨c, hc⟩ := hg
  obtain ⟨d, hd⟩ := hh
  exact ⟨c + d, fun K hK => by rw [e K, hc K (by omega)]; exact hd K (by omega)⟩
theorem Evt.bind1 {α β : Type} {f : Nat → Option β} {g : Nat → Option α} {h : Nat → α → Option β} {x : α} {r : β} (hg : Evt g x) (hh : Evt (fun K => h K x) r) (e : ∀ K, f (K + 1) = (g K).bind (h K)) : Evt f r :=
  Evt.step (g := fun K => (g K).bind (h K)) (Evt.bind hg hh fun _ => rfl) e
/-- All that stands in the rows. -/
def tot : List (List Int) → Nat
  | [] => 0
  | r :: t => r.length + tot t
theorem tot_cons (r : List Int) (t : List (List Int)) : tot (r :: t) = r.length + tot t := rfl
theorem tot_le (n : Nat) : ∀ (l : List (List Int)), (∀ x ∈ l, x.length ≤ n) → tot l ≤ n * l.length
  | [], _ => Nat.zero_le _
  | r :: t, h => by
    have h1 := h r (by simp)
    have h2 := tot_le n t fun x hx => h x (List.mem_cons_of_mem _ hx)
    rw [List.length_cons, Nat.mul_succ]
    rw [tot_cons]
    omega
def marksSS : Int → List (List Int) → List (List Int)
  | _, [] => []
  | m, r :: t => marks m r.length :: marksSS (m + r.length) t
theorem markSS_l0 : ∀ (d i : Nat) (x : List (List Int)) (m : Int), x.length ≤ 1048576 → i + d = x.length → (∀ r ∈ x.drop i, r.length ≤ 1048576) → 0 ≤ m → m + tot (x.drop i) ≤ 4611686018426339328 →
    Evt (fun K => laws_markInt64SS.l0 K x m (i : Int)) (m + tot (x.drop i), x.take i ++ marksSS m (x.drop i))
  | 0, i, x, m, hl, hd, hr, h0, h1 => by
    refine Evt.now fun K => ?_
    rw [laws_markInt64SS.l0, if_neg (by omega), List.drop_of_length_le (by omega), List.take_of_length_le (by omega)]
    simp [tot, marksSS]
  | d + 1, i, x, m, hl, hd, hr, h0, h1 => by
    have hi : i < x.length := by omega
    have ei : wrap64 ((i : Int) + 1) = ((i + 1 : Nat) : Int) := w64n (i + 1) (by omega)
    have f1 : (i : Int) < (x.length : Int) := Int.ofNat_lt.2 hi
    have hg : x.getD i [] = x[i] := by rw [List.getD_eq_getElem?_getD, List.getElem?_eq_getElem hi]; rfl
    rw [List.drop_eq_getElem_cons hi] at hr h1 ⊢
    have hri := hr x[i] List.mem_cons_self
    rw [tot_cons] at h1
    have hm : Evt (fun K => laws_markInt64S.f K x[i] m) (m + (x[i]).length, marks m (x[i]).length) := ⟨(x[i]).length + 1, fun K hK => markInt64S_eq x[i] m K hri h0 (by omega) (by omega)⟩
    have e1 : (x.set i (marks m (x[i]).length)).drop (i + 1) = x.drop (i + 1) := by rw [List.drop_set_of_lt (by omega)]
    have e2 : (x.set i (marks m (x[i]).length)).take (i + 1) = x.take i ++ [marks m (x[i]).length] := by
      rw [List.take_succ_eq_append_getElem (by rw [List.length_set]; exact hi), List.take_set_of_le (Nat.le_refl _), List.getElem_set_self]
    have ih := markSS_l0 d (i + 1) (x.set i (marks m (x[i]).length)) (m + (x[i]).length) (by rw [List.length_set]; exact hl) (by rw [List.length_set]; omega) (by rw [e1]; exact fun r hr' => hr r (List.mem_cons_of_mem _ hr')) (by omega) (by rw [e1]; omega)
    rw [e1, e2, List.append_assoc, List.singleton_append] at ih
    have e3 : m + (tot (x[i] :: x.drop (i + 1)) : Int) = m + (x[i]).length + tot (x.drop (i + 1)) := by
      rw [tot_cons]
      omega
    rw [e3]
    refine Evt.bind1 (h := fun K t => laws_markInt64SS.l0 K (x.set i t.2) t.1 ((i + 1 : Nat) : Int)) hm ih fun K => by rw [laws_markInt64SS.l0, if_pos f1, if_pos (Int.natCast_nonneg i), Int.toNat_natCast, hg, ei]
theorem tot_small {l : List (List Int)} (hl : l.length ≤ 1048576) (hr : ∀ x ∈ l, x.length ≤ 1048576) : 1 + (tot l : Int) ≤ 4611686018426339328 := by
  have h1 := tot_le 1048576 l hr
  have h2 : 1048576 * l.length ≤ 1048576 * 1048576 := Nat.mul_le_mul_left _ hl
  have h3 : (1048576 * 1048576 : Nat) = 1099511627776 := by decide
  omega
theorem markSS_ev (l : List (List Int)) (hl : l.length ≤ 1048576) (hr : ∀ x ∈ l, x.length ≤ 1048576) : Evt (fun K => laws_markInt64SS.f K l 1) (1 + (tot l : Int), marksSS 1 l) := by
  have h := markSS_l0 l.length 0 l 1 hl (Nat.zero_add _) (by rw [List.drop_zero]; exact hr) (by decide) (by rw [List.drop_zero]; exact tot_small hl hr)
  rw [List.drop_zero, List.take_zero, List.nil_append] at h
  exact h

theorem heldInt64S_l0 : ∀ (d i k : Nat) (x0 : List Int) (x1 : Int), x0.length ≤ 4611686018427387904 → i + d = x0.length → x0.drop i = marks x1 d → 0 ≤ x1 → x1 + d ≤ 4611686018427387904 → d < k →
    laws_heldInt64S.l0 k x0 x1 (i : Int) = some (x1 + d) := by
  intro d
  induction d with
  | zero =>
    intro i k x0 x1 hl hd he h0 h1 hk
    obtain ⟨k, rfl⟩ := succ_k hk
    simp only [laws_heldInt64S.l0]
    rw [if_neg (by omega)]
    simp
  | succ d ih =>
    intro i k x0 x1 hl hd he h0 h1 hk
    obtain ⟨k, rfl⟩ := succ_k hk
    simp only [laws_heldInt64S.l0]
    rw [drop_rd x0 i (by omega)] at he
    simp only [marks, List.cons.injEq] at he
    rw [if_pos (by omega), if_pos (by omega), if_pos he.1, w64 _ (by omega) (by omega), w64 _ (by omega) (by omega), cast_succ, ih (i + 1) k x0 (x1 + 1) hl (by omega) he.2 (by omega) (by omega) (by omega)]
    rw [show x1 + 1 + (d : Int) = x1 + ((d + 1 : Nat) : Int) by omega]
theorem heldInt64S_marks (m : Int) (n k : Nat) (hl : n ≤ 1048576) (h0 : 0 ≤ m) (h1 : m ≤ 4611686018426339328) (hk : n < k) :
    laws_heldInt64S.f k (marks m n) m = some (m + n) := by
  unfold laws_heldInt64S.f
  exact heldInt64S_l0 n 0 k (marks m n) m (by rw [marks_length]; omega) (by rw [marks_length]; omega) (by simp) h0 (by omega) hk

theorem heldSS_l0 : ∀ (d i : Nat) (x : List (List Int)) (t : List (List Int)) (m : Int), x.length ≤ 1048576 → i + d = x.length → x.drop i = marksSS m t → (∀ r ∈ t, r.length ≤ 1048576) → 0 ≤ m → m + tot t ≤ 4611686018426339328 →
    Evt (fun K => laws_heldInt64SS.l0 K x m (i : Int)) (m + tot t)
  | 0, i, x, t, m, hl, hd, he, hr, h0, h1 => by
    refine Evt.now fun K => ?_
    rw [laws_heldInt64SS.l0, if_neg (by omega)]
    rw [List.drop_of_length_le (by omega)] at he
    match t, he with
    | [], _ => simp [tot]
  | d + 1, i, x, t, m, hl, hd, he, hr, h0, h1 => by
    have hi : i < x.length := by omega
    have ei : wrap64 ((i : Int) + 1) = ((i + 1 : Nat) : Int) := w64n (i + 1) (by omega)
    have f1 : (i : Int) < (x.length : Int) := Int.ofNat_lt.2 hi
    rw [List.drop_eq_getElem_cons hi] at he
    match t, he, hr, h1 with
    | q :: t, he, hr, h1 =>
      unfold marksSS at he
      injection he with he1 he2
      have hq := hr q (by simp)
      rw [tot_cons] at h1
      have hm : Evt (fun K => laws_heldInt64S.f K (rd_L1 x (i : Int)) m) (m + q.length) := ⟨q.length + 1, fun K hK => by rw [rdL1_nat x i hi, he1]; exact heldInt64S_marks m q.length K hq h0 (by omega) (by omega)⟩
      have ih := heldSS_l0 d (i + 1) x t (m + q.length) hl (by omega) he2 (fun r hr' => hr r (List.mem_cons_of_mem _ hr')) (by omega) (by omega)
      have e3 : m + (tot (q :: t) : Int) = m + q.length + tot t := by
        rw [tot_cons]
        omega
      rw [e3]
      refine Evt.bind1 (h := fun K z => if z < 0 then some (-1) else laws_heldInt64SS.l0 K x z ((i + 1 : Nat) : Int)) hm (Evt.same ih fun K => if_neg (by omega)) fun K => by rw [laws_heldInt64SS.l0, if_pos f1, if_pos (Int.natCast_nonneg i), ei]
theorem marksSS_len : ∀ (l : List (List Int)) (m : Int), (marksSS m l).length = l.length
  | [], _ => rfl
  | r :: t, m => by rw [marksSS, List.length_cons, List.length_cons, marksSS_len t]
theorem heldSS_ev (l : List (List Int)) (hl : l.length ≤ 1048576) (hr : ∀ x ∈ l, x.length ≤ 1048576) : Evt (fun K => laws_heldInt64SS.f K (marksSS 1 l) 1) (1 + (tot l : Int)) :=
  heldSS_l0 (marksSS 1 l).length 0 (marksSS 1 l) l 1 (by rw [marksSS_len]; exact hl) (Nat.zero_add _) (by rw [List.drop_zero]) hr (by decide) (tot_small hl hr)

theorem len_le_of_sub : ∀ (l m : List Int), l.Nodup → (∀ x ∈ l, x ∈ m) → l.length ≤ m.length
  | [], m, _, _ => Nat.zero_le _
  | a :: l, m, h, hs => by
    obtain ⟨h1, h2⟩ := List.nodup_cons.1 h
    have ha : a ∈ m := hs a (by simp)
    have := len_le_of_sub l (m.erase a) h2 (fun x hx => (List.mem_erase_of_ne (fun (e : x = a) => h1 (e ▸ hx))).2 (hs x (List.mem_cons_of_mem _ hx)))
    rw [List.length_erase_of_mem ha] at this
    have hp : 0 < m.length := List.length_pos_of_mem ha
    rw [List.length_cons]
    omega
/-- The numbers below n. -/
def rangeI (n : Nat) : List Int := (List.range n).map fun (i : Nat) => (i : Int)
theorem rangeI_len (n : Nat) : (rangeI n).length = n := by simp [rangeI]
theorem rangeI_mem (n : Nat) (x : Int) : x ∈ rangeI n ↔ 0 ≤ x ∧ x < n := by
  unfold rangeI
  rw [List.mem_map]
  constructor
  · rintro ⟨i, hi, rfl⟩
    rw [List.mem_range] at hi
    omega
  · rintro ⟨h0, h1⟩
    exact ⟨x.toNat, by rw [List.mem_range]; omega, by omega⟩
def InN (n : Nat) (q : List Int) : Prop := ∀ x ∈ q, 0 ≤ x ∧ x < n
theorem short_of {n : Nat} {q : List Int} (h : q.Nodup) (hr : InN n q) : q.length ≤ n := by
  have := len_le_of_sub q (rangeI n) h (fun x hx => (rangeI_mem n x).2 (hr x hx))
  rwa [rangeI_len] at this
theorem full_of {n : Nat} {q : List Int} (h : q.Nodup) (hr : InN n q) (hl : n ≤ q.length) (y : Int) (h0 : 0 ≤ y) (h1 : y < n) : y ∈ q := by
  by_cases c : y ∈ q
  · exact c
  · have := short_of (q := y :: q) (List.nodup_cons.2 ⟨c, h⟩) (fun x hx => by
      rcases List.mem_cons.1 hx with rfl | hx
      · exact ⟨h0, h1⟩
      · exact hr x hx)
    rw [List.length_cons] at this
    omega
/-- A permutation of the numbers below n. -/
def PermN (n : Nat) (g : List Int) : Prop := g.length = n ∧ g.Nodup ∧ InN n g
theorem rd_in (l : List Int) (y : Int) (h0 : 0 ≤ y) (h1 : y < l.length) : rd l y ∈ l := by
  obtain ⟨m, rfl⟩ : ∃ m : Nat, y = m := ⟨y.toNat, by omega⟩
  rw [rd_nat l m (by omega)]
  exact List.getElem_mem _
theorem PermN.at {n : Nat} {g : List Int} (h : PermN n g) {y : Int} (h0 : 0 ≤ y) (h1 : y < n) : 0 ≤ rd g y ∧ rd g y < n := h.2.2 _ (rd_in g y h0 (by have := h.1; omega))
theorem PermN.inj {n : Nat} {g : List Int} (h : PermN n g) {a b : Int} (a0 : 0 ≤ a) (a1 : a < n) (b0 : 0 ≤ b) (b1 : b < n) (e : rd g a = rd g b) : a = b := by
  obtain ⟨i, rfl⟩ : ∃ m : Nat, a = m := ⟨a.toNat, by omega⟩
  obtain ⟨j, rfl⟩ : ∃ m : Nat, b = m := ⟨b.toNat, by omega⟩
  have hl := h.1
  rw [rd_nat g i (by omega), rd_nat g j (by omega)] at e
  have hp := List.pairwise_iff_getElem.1 h.2.1
  rcases Nat.lt_trichotomy i j with c | c | c
  · exact absurd e (hp i j (by omega) (by omega) c)
  · rw [c]
  · exact absurd e.symm (hp j i (by omega) (by omega) c)
/-- What a permutation sends into a closed set came out of it. -/
theorem PermN.back {n : Nat} {g : List Int} (h : PermN n g) {S : List Int} (hS : S.Nodup) (hr : InN n S) (hc : ∀ y ∈ S, rd g y ∈ S) {y : Int} (h0 : 0 ≤ y) (h1 : y < n) (hy : rd g y ∈ S) : y ∈ S := by
  by_cases c : y ∈ S
  · exact c
  · have hn : ((y :: S).map fun z => rd g z).Nodup := by
      unfold List.Nodup
      rw [List.pairwise_map]
      refine List.Pairwise.imp_of_mem (fun {a b} ha hb hab e => ?_) (List.nodup_cons.2 ⟨c, hS⟩)
      have ia : 0 ≤ a ∧ a < n := by rcases List.mem_cons.1 ha with rfl | ha; exact ⟨h0, h1⟩; exact hr a ha
      have ib : 0 ≤ b ∧ b < n := by rcases List.mem_cons.1 hb with rfl | hb; exact ⟨h0, h1⟩; exact hr b hb
      exact hab (h.inj ia.1 ia.2 ib.1 ib.2 e)
    have := len_le_of_sub _ S hn (fun x hx => by
      obtain ⟨z, hz, rfl⟩ := List.mem_map.1 hx
      rcases List.mem_cons.1 hz with rfl | hz
      · exact hy
      · exact hc z hz)
    rw [List.length_map, List.length_cons] at this
    omega
def Good (n : Nat) (o q : List Int) : Prop := (o ++ q).Nodup ∧ InN n (o ++ q)
theorem Good.len {n : Nat} {o q : List Int} (h : Good n o q) : q.length ≤ n := by
  have := short_of h.1 h.2
  rw [List.length_append] at this
  omega
/-- The place of a number in a list; -1, if it is not there. -/
def idxF : List Int → Int → Nat → Int
  | [], _, _ => -1
  | x :: t, y, i => if x = y then (i : Int) else idxF t y (i + 1)
theorem idxF_at : ∀ (t : List Int) (y : Int) (i : Nat), y ∈ t → ∃ m : Nat, m < t.length ∧ idxF t y i = ((i + m : Nat) : Int) ∧ rd t (m : Int) = y
  | [], y, i, h => absurd h (by simp)
  | x :: t, y, i, h => by
    unfold idxF
    by_cases c : x = y
    · rw [if_pos c]
      exact ⟨0, by simp, rfl, c⟩
    · rw [if_neg c]
      obtain ⟨m, h1, h2, h3⟩ := idxF_at t y (i + 1) (by
        rcases List.mem_cons.1 h with e | e
        · exact absurd e.symm c
        · exact e)
      refine ⟨m + 1, by rw [List.length_cons]; omega, by rw [h2]; congr 1; omega, ?_⟩
      rw [← h3]
      simp only [rd, Int.toNat_natCast]
      rfl
/-- Where a permutation comes from. -/
def invI (g : List Int) (y : Int) : Int := idxF g y 0
theorem invI_at {n : Nat} {g : List Int} (h : PermN n g) {y : Int} (h0 : 0 ≤ y) (h1 : y < n) : (0 ≤ invI g y ∧ invI g y < n) ∧ rd g (invI g y) = y := by
  obtain ⟨m, h2, h3, h4⟩ := idxF_at g y 0 (full_of h.2.1 h.2.2 (by rw [h.1]; exact Nat.le_refl _) y h0 h1)
  rw [h.1] at h2
  rw [Nat.zero_add] at h3
  unfold invI
  rw [h3]
  exact ⟨⟨by omega, by omega⟩, h4⟩

/-- Where a letter maps a point. -/
def actL (G : List (List Int)) (a x : Int) : Int := if 0 < a then rd (rd_L1 G (a - 1)) x else invI (rd_L1 G (-a - 1)) x
def actW (G : List (List Int)) (w : List Int) (x : Int) : Int := w.foldl (fun x a => actL G a x) x
/-- A letter for which there is a permutation. -/
def LetterIn (G : List (List Int)) (a : Int) : Prop := a ≠ 0 ∧ -(G.length : Int) ≤ a ∧ a ≤ (G.length : Int)
theorem LetterIn.cases {G : List (List Int)} {a : Int} (h : LetterIn G a) : ∃ j : Nat, j < G.length ∧ (a = ((j + 1 : Nat) : Int) ∨ a = -((j + 1 : Nat) : Int)) := by
  obtain ⟨h0, h1, h2⟩ := h
  by_cases c : 0 < a
  · exact ⟨(a - 1).toNat, by omega, .inl (by omega)⟩
  · exact ⟨(-a - 1).toNat, by omega, .inr (by omega)⟩
theorem actL_pos (G : List (List Int)) (j : Nat) (x : Int) : actL G ((j + 1 : Nat) : Int) x = rd (rd_L1 G (j : Int)) x := by
  unfold actL
  rw [if_pos (by omega), show ((j + 1 : Nat) : Int) - 1 = (j : Int) by omega]
theorem actL_neg (G : List (List Int)) (j : Nat) (x : Int) : actL G (-((j + 1 : Nat) : Int)) x = invI (rd_L1 G (j : Int)) x := by
  unfold actL
  rw [if_neg (by omega), show -(-((j + 1 : Nat) : Int)) - 1 = (j : Int) by omega]
theorem actL_in {n : Nat} {G : List (List Int)} (hG : ∀ g ∈ G, PermN n g) {a x : Int} (ha : LetterIn G a) (h0 : 0 ≤ x) (h1 : x < n) : 0 ≤ actL G a x ∧ actL G a x < n := by
  obtain ⟨j, hj, rfl | rfl⟩ := ha.cases
  · rw [actL_pos]
    exact (hG _ (rdL1_mem G j hj)).at h0 h1
  · rw [actL_neg]
    exact (invI_at (hG _ (rdL1_mem G j hj)) h0 h1).1
/-- Does a word map each point to itself? -/
def trivB (G : List (List Int)) (w : List Int) : Nat → Nat → Bool
  | 0, _ => true
  | d + 1, x => decide (actW G w (x : Int) = (x : Int)) && trivB G w d (x + 1)
theorem neg_letter (j : Nat) (hj : j ≤ 1048576) : wrap64 (wrap64 (-(-((j + 1 : Nat) : Int))) - 1) = (j : Int) := by
  rw [Int.neg_neg, w64n (j + 1) (by omega), show ((j + 1 : Nat) : Int) - 1 = (j : Int) by omega]
  exact w64n j (by omega)
theorem pos_letter (j : Nat) (hj : j ≤ 1048576) : wrap64 (((j + 1 : Nat) : Int) - 1) = (j : Int) := by
  rw [show ((j + 1 : Nat) : Int) - 1 = (j : Int) by omega]
  exact w64n j (by omega)

/-- All tuples of d lists, in their order. -/
def tup (all : List (List Int)) : Nat → List (List (List Int))
  | 0 => [[]]
  | d + 1 => all.flatMap fun l => (tup all d).map (l :: ·)
/-- A visitor is shown one thing after the other, until it has enough. -/
def visP {σ : Type} (vp : List (List Int) → σ → Bool × σ) : List (List (List Int)) → σ → Bool × σ
  | [], s => (true, s)
  | G :: t, s => if (vp G s).1 = true then visP vp t (vp G s).2 else (false, (vp G s).2)
theorem visP_one {σ : Type} (vp : List (List Int) → σ → Bool × σ) (G : List (List Int)) (s : σ) : visP vp [G] s = vp G s := by
  rw [visP, visP]
  rcases vp G s with ⟨b, s'⟩
  cases b <;> rfl
theorem visP_append {σ : Type} (vp : List (List Int) → σ → Bool × σ) : ∀ (a b : List (List (List Int))) (s : σ), visP vp (a ++ b) s = if (visP vp a s).1 = true then visP vp b (visP vp a s).2 else (false, (visP vp a s).2)
  | [], b, s => by simp [visP]
  | G :: a, b, s => by
    rw [List.cons_append, visP, visP]
    by_cases c : (vp G s).1 = true
    · rw [if_pos c, if_pos c, visP_append vp a b]
    · rw [if_neg c, if_neg c]
      simp
theorem tup_len (all : List (List Int)) : ∀ d, (tup all d).length = all.length ^ d
  | 0 => rfl
  | d + 1 => by
    rw [tup, List.length_flatMap]
    simp only [List.length_map, tup_len all d]
    rw [List.map_const', List.sum_replicate_nat, Nat.pow_succ, Nat.mul_comm]
theorem tup_mem (all : List (List Int)) : ∀ (d : Nat) (G : List (List Int)), G ∈ tup all d → G.length = d ∧ ∀ x ∈ G, x ∈ all
  | 0, G, h => by
    rw [tup, List.mem_singleton] at h
    subst h
    simp
  | d + 1, G, h => by
    rw [tup, List.mem_flatMap] at h
    obtain ⟨l, hl, h⟩ := h
    obtain ⟨t, ht, rfl⟩ := List.mem_map.1 h
    obtain ⟨h1, h2⟩ := tup_mem all d t ht
    refine ⟨by simp [h1], fun x hx => ?_⟩
    rcases List.mem_cons.1 hx with rfl | hx
    · exact hl
    · exact h2 x hx

theorem index_l0 (y : Int) (g : List Int) (hl : g.length ≤ 1048576) : ∀ (d i : Nat), i + d = g.length → Evt (fun K => slices_Index_int64_int64.l0 K g y (g.length : Int) (i : Int)) (idxF (g.drop i) y i)
  | 0, i, hd => by
    refine Evt.now fun K => ?_
    rw [slices_Index_int64_int64.l0, if_neg (by omega), List.drop_of_length_le (by omega)]
    rfl
  | d + 1, i, hd => by
    have hi : i < g.length := by omega
    have hd2 : i + 1 + d = g.length := by omega
    have ei : wrap64 ((i : Int) + 1) = ((i + 1 : Nat) : Int) := w64n (i + 1) (by omega)
    have f1 : (i : Int) < (g.length : Int) := Int.ofNat_lt.2 hi
    rw [drop_rd g i hi]
    unfold idxF
    by_cases c : rd g (i : Int) = y
    · rw [if_pos c]
      exact Evt.now fun K => by rw [slices_Index_int64_int64.l0, if_pos f1, if_pos (Int.natCast_nonneg i), if_pos f1, if_pos c.symm]
    · rw [if_neg c]
      exact Evt.step (index_l0 y g hl d (i + 1) hd2) fun K => by rw [slices_Index_int64_int64.l0, if_pos f1, if_pos (Int.natCast_nonneg i), if_pos f1, if_neg (Ne.symm c), ei]
theorem back_ev (y : Int) (g : List Int) (hl : g.length ≤ 1048576) : Evt (fun K => impl_back.f K g y) (invI g y) := by
  have h := index_l0 y g hl g.length 0 (Nat.zero_add _)
  rw [List.drop_zero] at h
  exact Evt.bind h (h := fun _ t => some t) (Evt.const fun _ => rfl) fun _ => rfl
theorem act_ev {n : Nat} (hn : n ≤ 8) {G : List (List Int)} (hG : ∀ g ∈ G, PermN n g) (hl : G.length ≤ 1048576) {a x : Int} (ha : LetterIn G a) (h0 : 0 ≤ x) (h1 : x < n) : Evt (fun K => impl_act.f K G a x) (actL G a x) := by
  obtain ⟨j, hj, rfl | rfl⟩ := ha.cases
  · have hp := hG _ (rdL1_mem G j hj)
    have e1 := pos_letter j (by omega)
    rw [actL_pos]
    refine Evt.const fun K => ?_
    unfold impl_act.f
    rw [if_pos (by clear e1; omega), e1, if_pos (Int.natCast_nonneg j), if_pos (Int.ofNat_lt.2 hj), if_pos h0, if_pos (by rw [hp.1]; exact h1)]
  · have hp := hG _ (rdL1_mem G j hj)
    have e1 := neg_letter j (by omega)
    rw [actL_neg]
    refine Evt.bind (back_ev x (rd_L1 G (j : Int)) (by rw [hp.1]; exact Nat.le_trans hn (by decide))) (h := fun _ t => some t) (Evt.const fun _ => rfl) fun K => ?_
    unfold impl_act.f
    rw [w64 (-(-((j + 1 : Nat) : Int))) (by clear e1; omega) (by clear e1; omega)] at e1
    rw [if_neg (by clear e1; omega), w64 (-(-((j + 1 : Nat) : Int))) (by clear e1; omega) (by clear e1; omega), e1, if_pos (Int.natCast_nonneg j), if_pos (Int.ofNat_lt.2 hj)]
theorem actWord_l0 {n : Nat} (hn : n ≤ 8) {G : List (List Int)} (hG : ∀ g ∈ G, PermN n g) (hl : G.length ≤ 1048576) (w : List Int) (hw : ∀ a ∈ w, LetterIn G a) (hwl : w.length ≤ 1048576) : ∀ (d i : Nat) (x : Int), i + d = w.length → 0 ≤ x → x < n →
    Evt (fun K => impl_actWord.l0 K G x w (w.length : Int) (i : Int)) (actW G (w.drop i) x)
  | 0, i, x, hd, h0, h1 => by
    refine Evt.now fun K => ?_
    rw [impl_actWord.l0, if_neg (by omega), List.drop_of_length_le (by omega)]
    rfl
  | d + 1, i, x, hd, h0, h1 => by
    have hi : i < w.length := by omega
    have hd2 : i + 1 + d = w.length := by omega
    have ei : wrap64 ((i : Int) + 1) = ((i + 1 : Nat) : Int) := w64n (i + 1) (by omega)
    have f1 : (i : Int) < (w.length : Int) := Int.ofNat_lt.2 hi
    have ha := hw _ (rd_in w (i : Int) (Int.natCast_nonneg i) f1)
    have hx := actL_in hG ha h0 h1
    rw [drop_rd w i hi]
    refine Evt.bind1 (act_ev hn hG hl ha h0 h1) (h := fun K t => impl_actWord.l0 K G t w (w.length : Int) ((i + 1 : Nat) : Int)) (actWord_l0 hn hG hl w hw hwl d (i + 1) _ hd2 hx.1 hx.2) fun K => ?_
    rw [impl_actWord.l0, if_pos f1, if_pos (Int.natCast_nonneg i), if_pos f1, ei]
theorem actWord_ev {n : Nat} (hn : n ≤ 8) {G : List (List Int)} (hG : ∀ g ∈ G, PermN n g) (hl : G.length ≤ 1048576) (w : List Int) (hw : ∀ a ∈ w, LetterIn G a) (hwl : w.length ≤ 1048576) (x : Int) (h0 : 0 ≤ x) (h1 : x < n) :
    Evt (fun K => impl_actWord.f K G w x) (actW G w x) := by
  have h := actWord_l0 hn hG hl w hw hwl w.length 0 x (Nat.zero_add _) h0 h1
  rw [List.drop_zero] at h
  exact h

theorem isTrivial_l0 {n : Nat} (hn : n ≤ 8) {G : List (List Int)} (hG : ∀ g ∈ G, PermN n g) (hl : G.length ≤ 1048576) (w : List Int) (hw : ∀ a ∈ w, LetterIn G a) (hwl : w.length ≤ 1048576) : ∀ (d x : Nat), x + d = n →
    Evt (fun K => impl_isTrivial.l0 K G w (n : Int) (x : Int)) (trivB G w d x)
  | 0, x, hd => by
    refine Evt.now fun K => ?_
    rw [impl_isTrivial.l0, if_neg (by omega)]
    rfl
  | d + 1, x, hd => by
    have hx : x < n := by omega
    have hd2 : x + 1 + d = n := by omega
    have ei : wrap64 ((x : Int) + 1) = ((x + 1 : Nat) : Int) := w64n (x + 1) (by omega)
    have f1 : (x : Int) < (n : Int) := Int.ofNat_lt.2 hx
    unfold trivB
    refine Evt.bind1 (actWord_ev hn hG hl w hw hwl (x : Int) (Int.natCast_nonneg x) f1) (h := fun K t => if t = (x : Int) then impl_isTrivial.l0 K G w (n : Int) ((x + 1 : Nat) : Int) else some false) ?_ fun K => ?_
    · by_cases c : actW G w (x : Int) = (x : Int)
      · rw [decide_eq_true c, Bool.true_and]
        exact Evt.same (isTrivial_l0 hn hG hl w hw hwl d (x + 1) hd2) fun K => if_pos c
      · rw [decide_eq_false c, Bool.false_and]
        exact Evt.const fun K => if_neg c
    · rw [impl_isTrivial.l0, if_pos f1, ei]
theorem isTrivial_ev {n : Nat} (hn : n ≤ 8) {G : List (List Int)} (hG : ∀ g ∈ G, PermN n g) (hl : G.length ≤ 1048576) (w : List Int) (hw : ∀ a ∈ w, LetterIn G a) (hwl : w.length ≤ 1048576) :
    Evt (fun K => impl_isTrivial.f K (n : Int) G w) (trivB G w n 0) := isTrivial_l0 hn hG hl w hw hwl n 0 (Nat.zero_add _)

/-- The tests of the places from m on hold. -/
def okT (n : Nat) (T : List (List (List Int))) : Nat → Nat → List (List Int) → Bool
  | m, 0, G => (T.getD m []).all fun w => trivB G w n 0
  | m, d + 1, G => ((T.getD m []).all fun w => trivB G w n 0) && okT n T (m + 1) d G
theorem anyO_trivQ {n : Nat} (hn : n ≤ 8) {G : List (List Int)} (hG : ∀ g ∈ G, PermN n g) (hl : G.length ≤ 1048576) : ∀ (R : List (List Int)), (∀ w ∈ R, ∀ b ∈ w, LetterIn G b) → (∀ w ∈ R, w.length ≤ 1048576) → Evt (fun K => anyO (trivQ K (n : Int) G) R) (!(R.all fun w => trivB G w n 0))
  | [], _, _ => Evt.const fun _ => rfl
  | w :: R, hw, hwl => by
    have h := isTrivial_ev hn hG hl w (hw w List.mem_cons_self) (hwl w List.mem_cons_self)
    have hq : Evt (fun K => trivQ K (n : Int) G w) (!(trivB G w n 0)) := Evt.bind h (h := fun _ b => some (!b)) (Evt.const fun _ => rfl) fun _ => rfl
    rw [List.all_cons]
    refine Evt.bind hq (h := fun K b => if b = true then some true else anyO (trivQ K (n : Int) G) R) ?_ fun _ => rfl
    by_cases c : trivB G w n 0 = true
    · rw [c, Bool.true_and]
      exact Evt.same (anyO_trivQ hn hG hl R (fun x hx => hw x (List.mem_cons_of_mem _ hx)) fun x hx => hwl x (List.mem_cons_of_mem _ hx)) fun K => if_neg (by simp)
    · rw [Bool.not_eq_true] at c
      rw [c, Bool.false_and]
      exact Evt.const fun K => if_pos rfl
theorem rdL1_app (G t : List (List Int)) (j : Nat) (h : j < G.length) : rd_L1 (G ++ t) (j : Int) = rd_L1 G (j : Int) := by
  simp only [rd_L1, Int.toNat_natCast]
  rw [List.getD_eq_getElem?_getD, List.getD_eq_getElem?_getD, List.getElem?_append_left h]
theorem actL_app (G t : List (List Int)) (a x : Int) (h : LetterIn G a) : actL (G ++ t) a x = actL G a x := by
  obtain ⟨j, hj, rfl | rfl⟩ := h.cases
  · rw [actL_pos, actL_pos, rdL1_app G t j hj]
  · rw [actL_neg, actL_neg, rdL1_app G t j hj]
theorem actW_app (G t : List (List Int)) : ∀ (w : List Int) (x : Int), (∀ a ∈ w, LetterIn G a) → actW (G ++ t) w x = actW G w x
  | [], x, _ => rfl
  | a :: w, x, h => by
    show actW (G ++ t) w (actL (G ++ t) a x) = actW G w (actL G a x)
    rw [actL_app G t a x (h a List.mem_cons_self)]
    exact actW_app G t w _ fun b hb => h b (List.mem_cons_of_mem _ hb)
theorem trivB_app (G t : List (List Int)) (w : List Int) (h : ∀ a ∈ w, LetterIn G a) : ∀ d x, trivB (G ++ t) w d x = trivB G w d x
  | 0, _ => rfl
  | d + 1, x => by rw [trivB, trivB, actW_app G t w _ h, trivB_app G t w h d]
theorem all_app (G t : List (List Int)) (n : Nat) : ∀ (R : List (List Int)), (∀ w ∈ R, ∀ a ∈ w, LetterIn G a) → (R.all fun w => trivB (G ++ t) w n 0) = R.all fun w => trivB G w n 0
  | [], _ => rfl
  | w :: R, h => by rw [List.all_cons, List.all_cons, trivB_app G t w (h w List.mem_cons_self), all_app G t n R fun x hx => h x (List.mem_cons_of_mem _ hx)]
theorem filter_none {α : Type} {p : α → Bool} : ∀ (l : List α), (∀ x ∈ l, p x = false) → l.filter p = []
  | [], _ => rfl
  | x :: l, h => by rw [List.filter_cons, if_neg (by rw [h x List.mem_cons_self]; simp), filter_none l fun y hy => h y (List.mem_cons_of_mem _ hy)]
/-- The search shows the visitor those tuples for which all tests hold. -/
theorem growEv {σ : Type} {n g : Nat} (hn : n ≤ 8) (hg : g ≤ 24) (T : List (List (List Int))) (hT : ∀ m w, w ∈ T.getD m [] → (∀ a ∈ w, a ≠ 0 ∧ -(m : Int) ≤ a ∧ a ≤ m) ∧ w.length ≤ 1048576) (all : List (List Int)) (hall : ∀ l ∈ all, PermN n l)
    (vis : Nat → List (List Int) → σ → Option (Bool × σ)) (vp : List (List Int) → σ → Bool × σ) (hv : ∀ G, G.length = g → (∀ l ∈ G, PermN n l) → ∀ s, Evt (fun K => vis K G s) (vp G s)) :
    ∀ (d : Nat) (images : List (List Int)) (s : σ), images.length + d = g → (∀ l ∈ images, PermN n l) → Evt (fun K => growG K (n : Int) T all (vis K) d images s) (visP vp (((tup all d).map (images ++ ·)).filter (okT n T images.length d)) s)
  | 0, images, s, hd, hi => by
    have hw : ∀ w ∈ T.getD images.length [], ∀ b ∈ w, LetterIn images b := fun w hw b hb => (hT _ w hw).1 b hb
    have ha := anyO_trivQ hn hi (by omega) (T.getD images.length []) hw (fun w hw => (hT _ w hw).2)
    refine Evt.bind ha (h := fun K b => if b = true then some (true, s) else vis K images s) ?_ fun _ => rfl
    rw [tup, List.map_singleton, List.append_nil, List.filter_cons, List.filter_nil, okT]
    by_cases c : ((T.getD images.length []).all fun w => trivB images w n 0) = true
    · rw [c, if_pos rfl, visP_one]
      refine Evt.same (hv images (by omega) hi s) fun K => ?_
      rw [if_neg (by simp)]
    · rw [Bool.not_eq_true] at c
      rw [c]
      exact Evt.const fun K => rfl
  | d + 1, images, s, hd, hi => by
    have hw : ∀ w ∈ T.getD images.length [], ∀ b ∈ w, LetterIn images b := fun w hw b hb => (hT _ w hw).1 b hb
    have ha := anyO_trivQ hn hi (by omega) (T.getD images.length []) hw (fun w hw => (hT _ w hw).2)
    refine Evt.bind ha (h := fun K b => if b = true then some (true, s) else foldG (fun l s => growG K (n : Int) T all (vis K) d (images ++ [l]) s) all s) ?_ fun _ => rfl
    by_cases c : ((T.getD images.length []).all fun w => trivB images w n 0) = true
    · rw [c]
      have e : ∀ (l : List (List Int)), (∀ x ∈ l, PermN n x) → ∀ s, Evt (fun K => foldG (fun l s => growG K (n : Int) T all (vis K) d (images ++ [l]) s) l s) (visP vp (((l.flatMap fun x => (tup all d).map (x :: ·)).map (images ++ ·)).filter (okT n T images.length (d + 1))) s) := by
        intro l
        induction l with
        | nil => exact fun _ s => Evt.const fun _ => rfl
        | cons x l ih =>
          intro hx s
          have h1 := growEv hn hg T hT all hall vis vp hv d (images ++ [x]) s (by rw [List.length_append, List.length_singleton]; omega) (fun y hy => by
            rcases List.mem_append.1 hy with h | h
            · exact hi y h
            · rw [List.mem_singleton.1 h]
              exact hx x List.mem_cons_self)
          have e1 : (((tup all d).map (x :: ·)).map (images ++ ·)).filter (okT n T images.length (d + 1)) = ((tup all d).map ((images ++ [x]) ++ ·)).filter (okT n T (images ++ [x]).length d) := by
            rw [List.map_map, show ((images ++ ·) ∘ (x :: ·) : List (List Int) → List (List Int)) = fun t => (images ++ [x]) ++ t from funext fun t => by simp]
            refine List.filter_congr fun G hG => ?_
            obtain ⟨t, _, rfl⟩ := List.mem_map.1 hG
            rw [okT, List.append_assoc, all_app images ([x] ++ t) n _ hw, c, Bool.true_and, List.length_append, List.length_singleton]
          rw [List.flatMap_cons, List.map_append, List.filter_append, visP_append, e1]
          refine Evt.bind h1 (h := fun K r => if r.1 = true then foldG (fun l s => growG K (n : Int) T all (vis K) d (images ++ [l]) s) l r.2 else some (false, r.2)) ?_ fun _ => rfl
          by_cases c2 : (visP vp (((tup all d).map ((images ++ [x]) ++ ·)).filter (okT n T (images ++ [x]).length d)) s).1 = true
          · rw [if_pos c2]
            exact Evt.same (ih (fun y hy => hx y (List.mem_cons_of_mem _ hy)) _) fun K => if_pos c2
          · rw [if_neg c2]
            exact Evt.const fun K => if_neg c2
      refine Evt.same (e all hall s) fun K => ?_
      rw [if_neg (by simp)]
    · rw [Bool.not_eq_true] at c
      rw [c, filter_none]
      · exact Evt.const fun K => rfl
      · intro G hG
        obtain ⟨t, _, rfl⟩ := List.mem_map.1 hG
        rw [okT, all_app images t n _ hw, c, Bool.false_and]
/-! the tests -/
theorem lastN_mono : ∀ (x : List Int) (m : Nat), m ≤ lastN x m
  | [], m => Nat.le_refl _
  | a :: t, m => Nat.le_trans (Nat.le_max_left _ _) (lastN_mono t _)
theorem lastN_mem : ∀ (x : List Int) (m : Nat) (a : Int), a ∈ x → a.natAbs ≤ lastN x m
  | b :: t, m, a, h => by
    rcases List.mem_cons.1 h with rfl | h
    · exact Nat.le_trans (Nat.le_max_right _ _) (lastN_mono t _)
    · exact lastN_mem t _ a h
theorem testsN_mem : ∀ (R : List (List Int)) (T : List (List (List Int))), (∀ x ∈ R, lastN x 0 < T.length) → ∀ m w, w ∈ (testsN R T).getD m [] ↔ w ∈ T.getD m [] ∨ w ∈ R ∧ lastN w 0 = m
  | [], T, _, m, w => by simp [testsN]
  | x :: R, T, h, m, w => by
    have hx := h x List.mem_cons_self
    rw [testsN, testsN_mem R _ (fun y hy => by rw [List.length_set]; exact h y (List.mem_cons_of_mem _ hy)) m w, List.mem_cons, List.getD_eq_getElem?_getD, List.getElem?_set]
    by_cases c : lastN x 0 = m
    · rw [if_pos c, if_pos hx, Option.getD_some, List.mem_append, List.mem_singleton, c]
      constructor
      · rintro ((h | rfl) | h)
        · exact .inl h
        · exact .inr ⟨.inl rfl, c⟩
        · exact .inr ⟨.inr h.1, h.2⟩
      · rintro (h | ⟨rfl | h, h2⟩)
        · exact .inl (.inl h)
        · exact .inl (.inr rfl)
        · exact .inr ⟨h, h2⟩
    · rw [if_neg c, ← List.getD_eq_getElem?_getD]
      constructor
      · rintro (h | h)
        · exact .inl h
        · exact .inr ⟨.inr h.1, h.2⟩
      · rintro (h | ⟨rfl | h, h2⟩)
        · exact .inl h
        · exact absurd h2 c
        · exact .inr ⟨h, h2⟩
theorem okT_iff (n : Nat) (T : List (List (List Int))) (G : List (List Int)) : ∀ (d m : Nat), okT n T m d G = true ↔ ∀ j, m ≤ j → j ≤ m + d → ∀ w ∈ T.getD j [], trivB G w n 0 = true
  | 0, m => by
    rw [okT, List.all_eq_true]
    constructor
    · intro h j h1 h2
      obtain rfl : j = m := by omega
      exact h
    · exact fun h => h m (Nat.le_refl _) (Nat.le_refl _)
  | d + 1, m => by
    rw [okT, Bool.and_eq_true, List.all_eq_true, okT_iff n T G d (m + 1)]
    constructor
    · rintro ⟨h1, h2⟩ j h3 h4
      by_cases c : j = m
      · subst c
        exact h1
      · exact h2 j (by omega) (by omega)
    · exact fun h => ⟨h m (Nat.le_refl _) (by omega), fun j h1 h2 => h j (by omega) (by omega)⟩
/-- All representations, shown to a visitor. -/
theorem runEv {σ : Type} {n g : Nat} (h1 : 1 ≤ n) (h4 : n ≤ 4) (hg : g ≤ 24) (R : List (List Int)) (hR : R.length ≤ 48) (hRw : ∀ x ∈ R, ∀ a ∈ x, a ≠ 0 ∧ -(g : Int) ≤ a ∧ a ≤ g) (hRl : ∀ x ∈ R, x.length ≤ 1048576) (hall : ∀ l ∈ permsF n n [] [], PermN n l)
    (vis : Nat → List (List Int) → σ → Option (Bool × σ)) (vp : List (List Int) → σ → Bool × σ) (hv : ∀ G, G.length = g → (∀ l ∈ G, PermN n l) → ∀ s, Evt (fun K => vis K G s) (vp G s)) (s : σ) :
    Evt (fun K => repsRun K (g : Int) R (n : Int) (vis K) s) (visP vp ((tup (permsF n n [] []) g).filter fun G => R.all fun w => trivB G w n 0) s) := by
  have hok : okReps (g : Int) R (n : Int) := ⟨by omega, by omega, by omega, by omega, hR, fun x hx a ha => by have := hRw x hx a ha; omega⟩
  have hle : ∀ x ∈ R, lastN x 0 ≤ g := fun x hx => lastN_le g x 0 (Nat.zero_le _) fun a ha => by have := hRw x hx a ha; omega
  obtain ⟨T, hTd⟩ : ∃ T, T = testsN R (List.replicate (g + 1) []) := ⟨_, rfl⟩
  have hTm : ∀ m w, w ∈ T.getD m [] ↔ w ∈ R ∧ lastN w 0 = m := fun m w => by
    rw [hTd, testsN_mem R _ (fun x hx => by rw [List.length_replicate]; exact Nat.lt_succ_of_le (hle x hx)) m w]
    have : ¬ w ∈ (List.replicate (g + 1) ([] : List (List Int))).getD m [] := by
      rw [List.getD_eq_getElem?_getD, List.getElem?_replicate]
      split <;> simp
    exact ⟨fun h => h.resolve_left this, .inr⟩
  have h := growEv (by omega : n ≤ 8) hg T (fun m w hw => by
    have hm := (hTm m w).1 hw
    exact ⟨fun a ha => ⟨(hRw w hm.1 a ha).1, by have := lastN_mem w 0 a ha; omega, by have := lastN_mem w 0 a ha; omega⟩, hRl w hm.1⟩) (permsF n n [] []) hall vis vp hv g [] s (by simp) (by simp)
  have e : ((tup (permsF n n [] []) g).map (([] : List (List Int)) ++ ·)).filter (okT n T ([] : List (List Int)).length g) = (tup (permsF n n [] []) g).filter fun G => R.all fun w => trivB G w n 0 := by
    rw [show ((([] : List (List Int)) ++ ·) : List (List Int) → List (List Int)) = id from funext fun t => by simp, List.map_id]
    refine List.filter_congr fun G _ => ?_
    rw [Bool.eq_iff_iff, okT_iff, List.all_eq_true]
    constructor
    · exact fun h w hw => h (lastN w 0) (by simp) (by have := hle w hw; simpa using this) w ((hTm _ w).2 ⟨hw, rfl⟩)
    · exact fun h j _ _ w hw => h w ((hTm j w).1 hw).1
  rw [e] at h
  refine Evt.same h fun K => ?_
  unfold repsRun
  rw [if_pos hok, Int.toNat_natCast, Int.toNat_natCast, hTd]

/-- Is a list a word? -/
def letters (g : Int) (l : List Int) : Bool := l.all fun x => decide (x ≠ 0) && (decide (-g ≤ x) && decide (x ≤ g))
theorem letters_mem {g : Int} {w : List Int} (h : letters g w = true) : ∀ a ∈ w, a ≠ 0 ∧ -g ≤ a ∧ a ≤ g := by
  intro a ha
  have := List.all_eq_true.1 h a ha
  simpa using this

/-- One more letter behind a reduced word. -/
def redStep (out : List Int) (x : Int) : List Int :=
  if 0 < out.length ∧ rd out (((out.length - 1 : Nat) : Int)) = wrap64 (-x) then out.take (out.length - 1) else out ++ [x]
def redOf (l : List Int) : List Int := l.foldl redStep []
theorem redStep_length (out : List Int) (x : Int) : (redStep out x).length ≤ out.length + 1 := by
  unfold redStep
  split
  · simp; omega
  · simp
theorem foldl_length : ∀ (l out : List Int), (l.foldl redStep out).length ≤ out.length + l.length
  | [], out => by simp
  | x :: r, out => by
    have h1 := foldl_length r (redStep out x)
    have h2 := redStep_length out x
    simp only [List.foldl_cons, List.length_cons]
    omega
/-- No letter of l cancels the one before it, out being what stands before. -/
def chainB : List Int → List Int → Bool
  | _, [] => true
  | out, x :: r => !(decide (0 < out.length) && decide (rd out ((out.length - 1 : Nat) : Int) = wrap64 (-x))) && chainB (out ++ [x]) r
theorem chain_iff : ∀ (l out : List Int), ((l.foldl redStep out).length = out.length + l.length) ↔ chainB out l = true
  | [], out => by simp [chainB]
  | x :: r, out => by
    simp only [List.foldl_cons, List.length_cons, chainB]
    by_cases h : 0 < out.length ∧ rd out ((out.length - 1 : Nat) : Int) = wrap64 (-x)
    · have e : redStep out x = out.take (out.length - 1) := if_pos h
      have hb : (decide (0 < out.length) && decide (rd out ((out.length - 1 : Nat) : Int) = wrap64 (-x))) = true := by
        rw [decide_eq_true h.1, decide_eq_true h.2]
        rfl
      rw [hb, e]
      have := foldl_length r (out.take (out.length - 1))
      rw [List.length_take] at this
      simp
      omega
    · have e : redStep out x = out ++ [x] := if_neg h
      have hb : (decide (0 < out.length) && decide (rd out ((out.length - 1 : Nat) : Int) = wrap64 (-x))) = false := by
        by_cases h0 : 0 < out.length
        · rw [decide_eq_false fun h1 => h ⟨h0, h1⟩, Bool.and_false]
        · rw [decide_eq_false h0]
          rfl
      rw [hb, e]
      have ih := chain_iff r (out ++ [x])
      simp only [List.length_append, List.length_singleton] at ih
      simp only [Bool.not_false, Bool.true_and]
      rw [← ih]
      omega
/-- A reduced word with letters up to g. -/
def redB (g : Int) (x : List Int) : Bool := letters g x && decide (x.length ≤ 120) && chainB [] x

def presB (g : Int) (l : List (List Int)) : Bool := decide (0 ≤ g) && decide (g ≤ 24) && decide (l.length ≤ 48) && l.all (redB g)

theorem rels_in {g : Nat} {R : List (List Int)} (h : presB (g : Int) R = true) : R.length ≤ 48 ∧ ∀ w ∈ R, ∀ a ∈ w, a ≠ 0 ∧ -(g : Int) ≤ a ∧ a ≤ g := by
  unfold presB at h
  rw [Bool.and_eq_true, Bool.and_eq_true, Bool.and_eq_true] at h
  refine ⟨of_decide_eq_true h.1.2, fun w hw a ha => ?_⟩
  have h1 := List.all_eq_true.1 h.2 w hw
  unfold redB at h1
  rw [Bool.and_eq_true, Bool.and_eq_true] at h1
  exact letters_mem h1.1.1 a ha

theorem wf64 {x : Int} (h : (Lit.int .i64 x).wf = true) : -9223372036854775808 ≤ x ∧ x ≤ 9223372036854775807 := by
  simpa [Lit.wf, IntKind.min, IntKind.max, IntKind.signed, IntKind.bits] using h
theorem bad_iff (g x : Int) (hg : 0 ≤ g) (hg1 : g ≤ 4611686018427387904) (h : (Lit.int .i64 x).wf = true) : isWord_bad g x = !(decide (x ≠ 0) && (decide (-g ≤ x) && decide (x ≤ g))) := by
  have hx := wf64 h
  have e : (!(decide (x ≠ 0) && (decide (-g ≤ x) && decide (x ≤ g)))) = decide (x = 0 ∨ ¬ (-g ≤ x ∧ x ≤ g)) := by
    by_cases h0 : x = 0 <;> by_cases h1 : -g ≤ x <;> by_cases h2 : x ≤ g <;> simp [h0, h1, h2]
  rw [e]
  unfold isWord_bad abs64
  rw [w64 (-g) (by omega) (by omega)]
  have e2 : (x == 0 || (decide (g < if x < 0 then wrap64 (-x) else x) || decide (x < -g))) = decide (x = 0 ∨ (g < (if x < 0 then wrap64 (-x) else x) ∨ x < -g)) := by
    show (decide (x = 0) || _) = _
    simp [Bool.decide_or]
  rw [e2]
  apply decide_eq_decide.mpr
  by_cases hn : x < 0
  · rw [if_pos hn]
    by_cases hm : x = -9223372036854775808
    · subst hm
      have : wrap64 (-(-9223372036854775808)) = -9223372036854775808 := by unfold wrap64; omega
      rw [this]
      omega
    · rw [w64 (-x) (by omega) (by omega)]
      omega
  · rw [if_neg hn]
    omega
theorem any_bad (g : Int) (hg : 0 ≤ g) (hg1 : g ≤ 4611686018427387904) (l : List Int) (h : ∀ x ∈ l, (Lit.int .i64 x).wf = true) : (!(l.any (isWord_bad g))) = letters g l := by
  unfold letters
  induction l with
  | nil => rfl
  | cons x r ih =>
    rw [List.any_cons, List.all_cons, Bool.not_or, ih fun y hy => h y (List.mem_cons_of_mem _ hy), bad_iff g x hg hg1 (h x List.mem_cons_self)]
    simp
theorem implisWord_eq (g : Int) (hg : 0 ≤ g) (hg1 : g ≤ 4611686018427387904) (l : List Int) (h : ∀ x ∈ l, (Lit.int .i64 x).wf = true) : impl_isWord.f l g = some (letters g l && decide (l.length ≤ 120)) := by
  unfold impl_isWord.f
  rw [any_bad g hg hg1 l h, Bool.and_comm]

theorem implReduced_l0 (l : List Int) (hl : l.length ≤ 1099511627776) : ∀ (d i k : Nat) (out : List Int), i + d = l.length → out.length ≤ i → d < k →
    impl_reduced.l0 k out l (l.length : Int) (i : Int) = some ((l.drop i).foldl redStep out) := by
  intro d
  induction d with
  | zero =>
    intro i k out hd ho hk
    obtain ⟨k, rfl⟩ := succ_k hk
    simp only [impl_reduced.l0]
    rw [if_neg (by omega), List.drop_of_length_le (by omega)]
    rfl
  | succ d ih =>
    intro i k out hd ho hk
    obtain ⟨k, rfl⟩ := succ_k hk
    have hs := redStep_length out (rd l (i : Int))
    simp only [impl_reduced.l0]
    rw [if_pos (by omega), if_pos (by omega), if_pos (by omega), drop_rd l i (by omega), List.foldl_cons, w64 ((i : Int) + 1) (by omega) (by omega), cast_succ]
    by_cases h0 : 0 < out.length
    · have e1 : wrap64 ((out.length : Int) - 1) = ((out.length - 1 : Nat) : Int) := by rw [w64 _ (by omega) (by omega)]; omega
      rw [if_pos (by omega), e1, if_pos (by omega), if_pos (by omega)]
      by_cases h1 : rd out (((out.length - 1 : Nat) : Int)) = wrap64 (-(rd l (i : Int)))
      · have e2 : redStep out (rd l (i : Int)) = out.take (out.length - 1) := if_pos ⟨h0, h1⟩
        rw [if_pos h1, if_pos (by omega), Int.toNat_natCast, e2, ih (i + 1) k _ (by omega) (by simp; omega) (by omega)]
      · have e2 : redStep out (rd l (i : Int)) = out ++ [rd l (i : Int)] := if_neg fun h => h1 h.2
        rw [if_neg h1, if_pos (by omega), e2, ih (i + 1) k _ (by omega) (by simp; omega) (by omega)]
    · have e2 : redStep out (rd l (i : Int)) = out ++ [rd l (i : Int)] := if_neg fun h => h0 h.1
      rw [if_neg (by omega), if_pos (by omega), e2, ih (i + 1) k _ (by omega) (by simp; omega) (by omega)]
theorem implReduced_eq (l : List Int) (k : Nat) (hl : l.length ≤ 1099511627776) (hk : l.length < k) : impl_reduced.f k l = some (redOf l) := by
  have := implReduced_l0 l hl l.length 0 k [] (by omega) (by simp) hk
  unfold impl_reduced.f redOf
  simpa using this

theorem implisReduced_eq (g : Int) (hg : 0 ≤ g) (hg1 : g ≤ 4611686018427387904) (x : List Int) (k : Nat) (h : ∀ y ∈ x, (Lit.int .i64 y).wf = true) (hx : x.length ≤ 1099511627776) (hk : x.length < k) :
    impl_isReduced.f k x g = some (redB g x) := by
  unfold impl_isReduced.f redB
  rw [implisWord_eq g hg hg1 x h]
  simp only [Option.bind_some]
  by_cases hw : (letters g x && decide (x.length ≤ 120)) = true
  · rw [if_pos hw, hw, implReduced_eq x k hx hk]
    simp only [Option.bind_some, Bool.true_and]
    have := chain_iff x []
    simp only [List.length_nil, Nat.zero_add] at this
    congr 1
    rw [Bool.eq_iff_iff, ← this]
    simp [redOf]
    omega
  · rw [if_neg hw]
    have : (letters g x && decide (x.length ≤ 120)) = false := by simpa using hw
    rw [this]
    rfl

theorem anyO_all (g : Int) (hg : 0 ≤ g) (hg1 : g ≤ 24) (n k : Nat) (hn : n ≤ 1048576) (hk : n < k) : ∀ (l : List (List Int)), (∀ x ∈ l, x.length ≤ n) → (∀ x ∈ l, ∀ y ∈ x, (Lit.int .i64 y).wf = true) → anyO (impl_isPresentation.q k g) l = some (!(l.all (redB g)))
  | [], _, _ => rfl
  | x :: t, hr, hw => by
    simp only [anyO, impl_isPresentation.q]
    have hx := hr x List.mem_cons_self
    rw [implisReduced_eq g hg (by omega) x k (hw x List.mem_cons_self) (by omega) (by omega)]
    simp only [Option.bind_some]
    rw [anyO_all g hg hg1 n k hn hk t (fun y hy => hr y (List.mem_cons_of_mem _ hy)) (fun y hy => hw y (List.mem_cons_of_mem _ hy))]
    by_cases h : redB g x = true
    · simp [h]
    · simp [h]
theorem implisPres_eq (g : Int) (l : List (List Int)) (n k : Nat) (hn : n ≤ 1048576) (hr : ∀ x ∈ l, x.length ≤ n) (hw : ∀ x ∈ l, ∀ y ∈ x, (Lit.int .i64 y).wf = true) (hk : n < k) :
    impl_isPresentation.f k g l = some (presB g l) := by
  unfold impl_isPresentation.f presB
  by_cases h1 : 0 ≤ g ∧ g ≤ 24
  · rw [if_pos h1]
    by_cases h3 : l.length ≤ 48
    · rw [if_pos h3, anyO_all g h1.1 h1.2 n k hn hk l hr hw]
      simp [h1.1, h1.2, h3]
    · rw [if_neg h3]
      simp [h3]
  · rw [if_neg h1]
    by_cases h0 : 0 ≤ g <;> by_cases h4 : g ≤ 24 <;> simp [h0, h4]
    exact absurd ⟨h0, h4⟩ h1

/-- The test of a permutation, entry by entry. -/
def goP (n len : Nat) : List Int → List Int → Bool
  | _, [] => decide (len = n)
  | q, x :: t => if 0 ≤ x ∧ x ≤ (n : Int) - 1 then (if x ∈ q then false else goP n len (q ++ [x]) t) else false
theorem goP_true (n len : Nat) : ∀ (t q : List Int), goP n len q t = true → q.Nodup → InN n q → (q ++ t).Nodup ∧ InN n (q ++ t) ∧ len = n
  | [], q, h, h1, h2 => by
    rw [List.append_nil]
    exact ⟨h1, h2, of_decide_eq_true h⟩
  | x :: t, q, h, h1, h2 => by
    unfold goP at h
    by_cases c : 0 ≤ x ∧ x ≤ (n : Int) - 1
    · rw [if_pos c] at h
      by_cases e : x ∈ q
      · rw [if_pos e] at h
        exact absurd h (by simp)
      · rw [if_neg e] at h
        have := goP_true n len t (q ++ [x]) h (List.nodup_append.2 ⟨h1, by simp, fun a ha b hb e2 => by
          rw [List.mem_singleton] at hb
          exact e (hb ▸ e2 ▸ ha)⟩) (fun y hy => by
          rw [List.mem_append, List.mem_singleton] at hy
          rcases hy with hy | rfl
          · exact h2 y hy
          · omega)
        rwa [List.append_assoc] at this
    · rw [if_neg c] at h
      exact absurd h (by simp)
theorem permN_of {n : Nat} {g : List Int} (h : goP n g.length [] g = true) : PermN n g := by
  obtain ⟨h1, h2, h3⟩ := goP_true n g.length g [] h (by simp) (fun x hx => absurd hx (by simp))
  exact ⟨h3, h1, h2⟩

/-- Is this a representation? -/
def isR (n : Nat) (R : List (List Int)) (G : List (List Int)) : Bool := R.all fun w => trivB G w n 0
def permTab (n : Nat) : Bool := ((permsF n n [] []).all fun l => goP n l.length [] l) && decide ((permsF n n [] []).length ≤ 24) && ((permsF n n [] []).any fun p => (List.range n).all fun x => decide (rd p (x : Int) = x ∧ invI p (x : Int) = x))
theorem permTab_ok : ((List.range 4).all fun m => permTab (m + 1)) = true := by decide +kernel
theorem permTab_at {n : Nat} (h1 : 1 ≤ n) (h4 : n ≤ 4) : permTab n = true := by
  have := List.all_eq_true.1 permTab_ok (n - 1) (List.mem_range.2 (by omega))
  rwa [show n - 1 + 1 = n by omega] at this
theorem perm_all {n : Nat} (h1 : 1 ≤ n) (h4 : n ≤ 4) : ∀ l ∈ permsF n n [] [], PermN n l := by
  have h := permTab_at h1 h4
  unfold permTab at h
  rw [Bool.and_eq_true, Bool.and_eq_true] at h
  exact fun l hl => permN_of (List.all_eq_true.1 h.1.1 l hl)
theorem copy_l0 (G : List (List Int)) (hl : G.length ≤ 1000) (hr : ∀ p ∈ G, p.length ≤ 1000) : ∀ (d i : Nat), i + d = G.length → Evt (fun K => impl_copyLists.l0 K (G.take i) G (G.length : Int) (i : Int)) G
  | 0, i, hd => by
    rw [List.take_of_length_le (by omega)]
    exact Evt.now fun K => by rw [impl_copyLists.l0, if_neg (by omega)]
  | d + 1, i, hd => by
    have hi : i < G.length := by omega
    have f1 : (i : Int) < (G.length : Int) := Int.ofNat_lt.2 hi
    have ei : wrap64 ((i : Int) + 1) = ((i + 1 : Nat) : Int) := w64n (i + 1) (by omega)
    have e2 : (rd_L1 G (i : Int)).length < 17592186044416 := Nat.lt_of_le_of_lt (hr _ (rdL1_mem G i hi)) (by decide)
    have e3 : (G.take i).length < 5864062014805 := by rw [List.length_take]; clear ei; omega
    have ih := copy_l0 G hl hr d (i + 1) (by clear ei; omega)
    rw [List.take_succ_eq_append_getElem hi, ← rdL1_nat G i hi] at ih
    exact Evt.step ih fun K => by rw [impl_copyLists.l0, if_pos f1, if_pos (Int.natCast_nonneg i), if_pos f1, slices_Clone_int64_int64.f, if_pos e2, Option.bind_some, if_pos e3, ei]
theorem copy_ev (G : List (List Int)) (hl : G.length ≤ 1000) (hr : ∀ p ∈ G, p.length ≤ 1000) : Evt (fun K => impl_copyLists.f K G) G := by
  have h := copy_l0 G hl hr G.length 0 (Nat.zero_add _)
  rw [List.take_zero] at h
  exact h
/-- RepresentationAt's visitor. -/
def vpAt (G : List (List Int)) (s : Int × List (List Int) × Bool) : Bool × (Int × List (List Int) × Bool) :=
  if s.1 = 0 then (false, (wrap64 (s.1 - 1), G, true)) else (!s.2.2 && decide (wrap64 (s.1 - 1) ≥ 0), (wrap64 (s.1 - 1), s.2))
theorem vpAt_zero (G : List (List Int)) (o : List (List Int)) : vpAt G ((0 : Nat), o, false) = (false, (wrap64 ((0 : Int) - 1), G, true)) := by
  unfold vpAt
  dsimp only
  rw [if_pos (show ((0 : Nat) : Int) = 0 from rfl)]
  rfl
theorem vpAt_succ (G : List (List Int)) (o : List (List Int)) (q : Nat) (hq : q ≤ 1000000) : vpAt G (((q + 1 : Nat) : Int), o, false) = (true, ((q : Nat) : Int), o, false) := by
  have e : wrap64 (((q + 1 : Nat) : Int) - 1) = (q : Int) := by
    rw [show ((q + 1 : Nat) : Int) - 1 = (q : Int) by omega]
    exact w64n q (by omega)
  unfold vpAt
  simp only
  rw [if_neg (by clear e; omega), e, decide_eq_true (show (q : Int) ≥ 0 from Int.natCast_nonneg q)]
  rfl
theorem visP_at : ∀ (L : List (List (List Int))) (q : Nat) (o : List (List Int)), q ≤ 1000000 → ∃ b s, visP vpAt L ((q : Nat), o, false) = (b, s) ∧ (q < L.length → s.2 = (L.getD q [], true)) ∧ (L.length ≤ q → s.2 = (o, false))
  | [], q, o, _ => ⟨true, ((q : Nat), o, false), rfl, fun h => by simp at h, fun _ => rfl⟩
  | G :: L, 0, o, _ => by
    refine ⟨false, (wrap64 ((0 : Int) - 1), G, true), ?_, fun _ => rfl, fun h => by simp at h⟩
    rw [visP, vpAt_zero, if_neg (by simp)]
  | G :: L, q + 1, o, hq => by
    obtain ⟨b, s, h1, h2, h3⟩ := visP_at L q o (by omega)
    refine ⟨b, s, ?_, fun h => ?_, fun h => ?_⟩
    · rw [visP, vpAt_succ G o q (by omega), if_pos rfl, h1]
    · rw [List.length_cons] at h
      rw [h2 (by omega)]
      rfl
    · rw [List.length_cons] at h
      exact h3 (by omega)
section
variable {g n : Nat} (hg : g ≤ 24) (h1 : 1 ≤ n) (h4 : n ≤ 4) {R : List (List Int)} (hp : presB (g : Int) R = true) (hRl : ∀ w ∈ R, w.length ≤ 1048576) (hc : Evt (fun K => impl_searchCode.f K (g : Int) R (n : Int)) 0) (hN : (permsF n n [] []).length ^ g ≤ 200000)
include hg h1 h4 hp hRl hc hN
theorem at_ev4 (q : Nat) (hq : q ≤ 1000000) : Evt (fun K => impl_RepresentationAt.f K (g : Int) R (n : Int) (q : Int)) (if q < ((tup (permsF n n [] []) g).filter (isR n R)).length then (((tup (permsF n n [] []) g).filter (isR n R)).getD q [], 0) else ([], 4)) := by
  have hrel := rels_in hp
  have hi := runEv h1 h4 hg R hrel.1 hrel.2 hRl (perm_all h1 h4) (fun K => repAt.vis K) vpAt (fun G hGl hG s => by
    have hcp := copy_ev G (by omega) (fun p hp => by rw [(hG p hp).1]; omega)
    unfold repAt.vis vpAt
    by_cases c : s.1 = 0
    · rw [if_pos c]
      exact Evt.bind hcp (h := fun _ o => some (false, (wrap64 (s.1 - 1), o, true))) (Evt.const fun _ => rfl) fun K => if_pos c
    · rw [if_neg c]
      exact Evt.const fun K => if_neg c) ((q : Int), [], false)
  obtain ⟨b, s, e1, e2, e3⟩ := visP_at ((tup (permsF n n [] []) g).filter (isR n R)) q [] hq
  have hi2 : Evt (fun K => repsRun K (g : Int) R (n : Int) (repAt.vis K) ((q : Int), [], false)) (b, s) := by
    rw [← e1]
    exact hi
  refine Evt.bind hc (h := fun K c => if c = 0 then (repsRun K (g : Int) R (n : Int) (repAt.vis K) ((q : Int), [], false)).bind fun r => if r.2.2.2 = true then some (r.2.2.1, 0) else some ([], 4) else some ([], c)) ?_ fun _ => rfl
  refine Evt.bind hi2 (h := fun _ r => if r.2.2.2 = true then some (r.2.2.1, 0) else some ([], 4)) (Evt.const fun _ => ?_) fun K => if_pos rfl
  by_cases c : q < ((tup (permsF n n [] []) g).filter (isR n R)).length
  · have := e2 c
    simp only
    rw [this, if_pos c, if_pos rfl]
  · have := e3 (by omega)
    simp only
    rw [this, if_neg c, if_neg (by simp)]
end

/-- A number that none of these has. -/
theorem visP_none : ∀ (L : List (List (List Int))) (k : Int) (o : List (List Int)), -9223372036854775808 ≤ k → k ≤ 9223372036854775807 → L.length ≤ 1000000 → (k < 0 ∨ (L.length : Int) ≤ k) → (visP vpAt L (k, o, false)).2.2 = (o, false)
  | [], k, o, _, _, _, _ => rfl
  | G :: L, k, o, h0, h1, hl, hk => by
    rw [List.length_cons] at hl hk
    have hk0 : ¬ k = 0 := by omega
    have e : vpAt G (k, o, false) = (decide (wrap64 (k - 1) ≥ 0), (wrap64 (k - 1), o, false)) := by
      unfold vpAt
      dsimp only
      rw [if_neg hk0]
      rfl
    rw [visP, e]
    by_cases c : k = -9223372036854775808
    · have e2 : wrap64 (k - 1) = 9223372036854775807 := by
        rw [c]
        decide +kernel
      rw [e2]
      rw [if_pos (decide_eq_true (show (9223372036854775807 : Int) ≥ 0 by decide))]
      exact visP_none L _ o (by decide) (by decide) (by omega) (.inr (by omega))
    · have e2 : wrap64 (k - 1) = k - 1 := w64 _ (by omega) (by omega)
      rw [e2]
      by_cases c2 : k - 1 ≥ 0
      · rw [if_pos (decide_eq_true c2)]
        exact visP_none L _ o (by omega) (by omega) (by omega) (.inr (by omega))
      · rw [if_neg (by simp; omega)]
theorem at_none4 {g n : Nat} (hg : g ≤ 24) (h1 : 1 ≤ n) (h4 : n ≤ 4) {R : List (List Int)} (hp : presB (g : Int) R = true) (hRl : ∀ w ∈ R, w.length ≤ 1048576) (hc : Evt (fun K => impl_searchCode.f K (g : Int) R (n : Int)) 0) (hN : (permsF n n [] []).length ^ g ≤ 200000) (q : Int) (q0 : -9223372036854775808 ≤ q) (q1 : q ≤ 9223372036854775807)
    (hq : q < 0 ∨ (((tup (permsF n n [] []) g).filter (isR n R)).length : Int) ≤ q) : Evt (fun K => impl_RepresentationAt.f K (g : Int) R (n : Int) q) ([], 4) := by
  have hrel := rels_in hp
  have hi := runEv h1 h4 hg R hrel.1 hrel.2 hRl (perm_all h1 h4) (fun K => repAt.vis K) vpAt (fun G hGl hG s => by
    have hcp := copy_ev G (by omega) (fun p hp => by rw [(hG p hp).1]; omega)
    unfold repAt.vis vpAt
    by_cases c : s.1 = 0
    · rw [if_pos c]
      exact Evt.bind hcp (h := fun _ o => some (false, (wrap64 (s.1 - 1), o, true))) (Evt.const fun _ => rfl) fun K => if_pos c
    · rw [if_neg c]
      exact Evt.const fun K => if_neg c) (q, [], false)
  have hl : ((tup (permsF n n [] []) g).filter (isR n R)).length ≤ 200000 := Nat.le_trans (List.length_filter_le _ _) (by rw [tup_len]; exact hN)
  have hz := visP_none ((tup (permsF n n [] []) g).filter (isR n R)) q [] q0 q1 (by omega) hq
  refine Evt.bind hc (h := fun K c => if c = 0 then (repsRun K (g : Int) R (n : Int) (repAt.vis K) (q, [], false)).bind fun r => if r.2.2.2 = true then some (r.2.2.1, 0) else some ([], 4) else some ([], c)) ?_ fun _ => rfl
  refine Evt.bind hi (h := fun _ r => if r.2.2.2 = true then some (r.2.2.1, 0) else some ([], 4)) (Evt.const fun _ => ?_) fun K => if_pos rfl
  have hz2 : (visP vpAt ((tup (permsF n n [] []) g).filter (isR n R)) (q, [], false)).2.2.2 = false := by rw [hz]
  exact if_neg (fun h => by
    have h3 := h.symm.trans hz2
    cases h3)

/-- The tuples from the one with these numbers on. -/
def restT (all : List (List Int)) : List Nat → List (List (List Int))
  | [] => [[]]
  | a :: ds => (restT all ds).map (all.getD a [] :: ·) ++ (all.drop (a + 1)).flatMap fun l => (tup all ds.length).map (l :: ·)
def pickT (all : List (List Int)) (ds : List Nat) : List (List Int) := ds.map fun a => all.getD a []
theorem restT_head (all : List (List Int)) : ∀ ds, ∃ t, restT all ds = pickT all ds :: t
  | [] => ⟨[], rfl⟩
  | a :: ds => by
    obtain ⟨t, h⟩ := restT_head all ds
    rw [restT, h, List.map_cons, List.cons_append]
    exact ⟨_, rfl⟩
theorem restT_zero (all : List (List Int)) (h : 0 < all.length) : ∀ g, restT all (List.replicate g 0) = tup all g
  | 0 => rfl
  | g + 1 => by
    have e : all = all.getD 0 [] :: all.drop 1 := by
      cases all with
      | nil => simp at h
      | cons x t => simp
    have h2 : (all.flatMap fun l => (tup all g).map (l :: ·)) = (all.getD 0 [] :: all.drop 1).flatMap fun l => (tup all g).map (l :: ·) := congrArg (fun z => z.flatMap fun l => (tup all g).map (l :: ·)) e
    rw [List.replicate_succ, restT, restT_zero all h g, List.length_replicate, tup, h2, List.flatMap_cons]
/-- The numbers behind these; they lie turned round, and j places behind them are the greatest. -/
def nextT (L : Nat) : List Nat → Nat → Option (List Nat)
  | [], _ => none
  | a :: rs, j => if a + 1 = L then nextT L rs (j + 1) else some (rs.reverse ++ (a + 1) :: List.replicate j 0)
theorem restT_max (all : List (List Int)) {L : Nat} (hL : all.length = L + 1) : ∀ j, restT all (List.replicate j L) = [pickT all (List.replicate j L)]
  | 0 => rfl
  | j + 1 => by
    rw [List.replicate_succ, restT, restT_max all hL j, List.drop_of_length_le (by omega)]
    rfl
theorem restT_step (all : List (List Int)) {L : Nat} (hL : all.length = L + 1) (a j : Nat) (ha : a < L) : ∀ p : List Nat, (restT all (p ++ a :: List.replicate j L)).tail = restT all (p ++ (a + 1) :: List.replicate j 0)
  | [] => by
    rw [List.nil_append, List.nil_append, restT, restT, restT_max all hL j, restT_zero all (by omega) j, List.length_replicate, List.length_replicate, List.map_singleton, List.singleton_append, List.tail_cons]
    have e : all.drop (a + 1) = all.getD (a + 1) [] :: all.drop (a + 1 + 1) := by
      rw [List.drop_eq_getElem_cons (by omega : a + 1 < all.length), List.getD_eq_getElem?_getD, List.getElem?_eq_getElem (by omega : a + 1 < all.length), Option.getD_some]
    rw [e, List.flatMap_cons]
  | b :: p => by
    obtain ⟨t, h⟩ := restT_head all (p ++ a :: List.replicate j L)
    have ih := restT_step all hL a j ha p
    rw [h, List.tail_cons] at ih
    rw [List.cons_append, List.cons_append, restT, restT, h, List.map_cons, List.cons_append, List.tail_cons, ih]
    simp
theorem restT_next (all : List (List Int)) {L : Nat} (hL : all.length = L + 1) : ∀ (rs : List Nat) (j : Nat), (∀ a ∈ rs, a ≤ L) → (restT all (rs.reverse ++ List.replicate j L)).tail = match nextT (L + 1) rs j with | none => [] | some ds => restT all ds
  | [], j, _ => by
    rw [List.reverse_nil, List.nil_append, restT_max all hL j]
    rfl
  | a :: rs, j, h => by
    have ha := h a List.mem_cons_self
    rw [nextT, List.reverse_cons, List.append_assoc]
    by_cases c : a + 1 = L + 1
    · obtain rfl : a = L := by omega
      rw [if_pos c, ← restT_next all hL rs (j + 1) fun b hb => h b (List.mem_cons_of_mem _ hb)]
      rfl
    · rw [if_neg c]
      exact restT_step all hL a j (by omega) rs.reverse
theorem nextT_ok (L : Nat) : ∀ (rs : List Nat) (j : Nat) (ds : List Nat), (∀ a ∈ rs, a < L) → 0 < L → nextT L rs j = some ds → ds.length = rs.length + j ∧ ∀ a ∈ ds, a < L
  | [], j, ds, _, _, h => by simp [nextT] at h
  | a :: rs, j, ds, hr, hL, h => by
    rw [nextT] at h
    by_cases c : a + 1 = L
    · rw [if_pos c] at h
      obtain ⟨h1, h2⟩ := nextT_ok L rs (j + 1) ds (fun b hb => hr b (List.mem_cons_of_mem _ hb)) hL h
      exact ⟨by rw [h1, List.length_cons]; omega, h2⟩
    · rw [if_neg c] at h
      obtain rfl := Option.some.inj h
      refine ⟨by simp; omega, fun b hb => ?_⟩
      rcases List.mem_append.1 hb with h1 | h1
      · exact hr b (List.mem_cons_of_mem _ (List.mem_reverse.1 h1))
      · rcases List.mem_cons.1 h1 with rfl | h1
        · have := hr a List.mem_cons_self
          omega
        · rw [(List.mem_replicate.1 h1).2]
          exact hL

theorem l05Letter_l0 (G : List (List Int)) (j : Nat) (hj : j < G.length) (hl : G.length ≤ 1048576) (y : Int) (hg : (rd_L1 G (j : Int)).length ≤ 1048576) : ∀ (d i : Nat), i + d = (rd_L1 G (j : Int)).length → y ∈ (rd_L1 G (j : Int)).drop i →
    Evt (fun K => spec_l05Letter.l0 K G (-((j + 1 : Nat) : Int)) y (i : Int)) (idxF ((rd_L1 G (j : Int)).drop i) y i)
  | 0, i, hd, hy => by
    rw [List.drop_of_length_le (by omega)] at hy
    exact absurd hy (by simp)
  | d + 1, i, hd, hy => by
    have hi : i < (rd_L1 G (j : Int)).length := by omega
    have hd2 : i + 1 + d = (rd_L1 G (j : Int)).length := by omega
    have ei : wrap64 ((i : Int) + 1) = ((i + 1 : Nat) : Int) := w64n (i + 1) (by omega)
    have f1 : (i : Int) < ((rd_L1 G (j : Int)).length : Int) := Int.ofNat_lt.2 hi
    have e1 := neg_letter j (by omega)
    rw [drop_rd _ i hi] at hy ⊢
    unfold idxF
    by_cases c : rd (rd_L1 G (j : Int)) (i : Int) = y
    · rw [if_pos c]
      exact Evt.now fun K => by rw [spec_l05Letter.l0, e1, if_pos (Int.natCast_nonneg j), if_pos (Int.ofNat_lt.2 hj), if_pos (Int.natCast_nonneg i), if_pos f1, if_pos c]
    · rw [if_neg c]
      have hy2 : y ∈ (rd_L1 G (j : Int)).drop (i + 1) := by
        rcases List.mem_cons.1 hy with e | e
        · exact absurd e.symm c
        · exact e
      exact Evt.step (l05Letter_l0 G j hj hl y hg d (i + 1) hd2 hy2) fun K => by rw [spec_l05Letter.l0, e1, if_pos (Int.natCast_nonneg j), if_pos (Int.ofNat_lt.2 hj), if_pos (Int.natCast_nonneg i), if_pos f1, if_neg c, ei]
theorem l05Letter_ev {n : Nat} (hn : n ≤ 8) {G : List (List Int)} (hG : ∀ g ∈ G, PermN n g) (hl : G.length ≤ 1048576) {a x : Int} (ha : LetterIn G a) (h0 : 0 ≤ x) (h1 : x < n) : Evt (fun K => spec_l05Letter.f K G a x) (actL G a x) := by
  obtain ⟨j, hj, rfl | rfl⟩ := ha.cases
  · have hp := hG _ (rdL1_mem G j hj)
    have e1 := pos_letter j (by omega)
    rw [actL_pos]
    refine Evt.const fun K => ?_
    unfold spec_l05Letter.f
    rw [if_pos (by clear e1; omega), e1, if_pos (Int.natCast_nonneg j), if_pos (Int.ofNat_lt.2 hj), if_pos h0, if_pos (by rw [hp.1]; exact h1)]
  · have hp := hG _ (rdL1_mem G j hj)
    rw [actL_neg]
    have hy := full_of hp.2.1 hp.2.2 (by rw [hp.1]; exact Nat.le_refl _) x h0 h1
    refine Evt.same (l05Letter_l0 G j hj hl x (by rw [hp.1]; exact Nat.le_trans hn (by decide)) _ 0 (Nat.zero_add _) (by rw [List.drop_zero]; exact hy)) fun K => ?_
    unfold spec_l05Letter.f
    rw [if_neg (by omega)]
    rfl
theorem l05Move_l0 {n : Nat} (hn : n ≤ 8) {G : List (List Int)} (hG : ∀ g ∈ G, PermN n g) (hl : G.length ≤ 1048576) (w : List Int) (hw : ∀ a ∈ w, LetterIn G a) (hwl : w.length ≤ 1048576) : ∀ (d i : Nat) (x : Int), i + d = w.length → 0 ≤ x → x < n →
    Evt (fun K => spec_l05Move.l0 K G w x (i : Int)) (actW G (w.drop i) x)
  | 0, i, x, hd, h0, h1 => by
    refine Evt.now fun K => ?_
    rw [spec_l05Move.l0, if_neg (by omega), List.drop_of_length_le (by omega)]
    rfl
  | d + 1, i, x, hd, h0, h1 => by
    have hi : i < w.length := by omega
    have hd2 : i + 1 + d = w.length := by omega
    have ei : wrap64 ((i : Int) + 1) = ((i + 1 : Nat) : Int) := w64n (i + 1) (by omega)
    have f1 : (i : Int) < (w.length : Int) := Int.ofNat_lt.2 hi
    have ha := hw _ (rd_in w (i : Int) (Int.natCast_nonneg i) f1)
    have hx := actL_in hG ha h0 h1
    rw [drop_rd w i hi]
    refine Evt.bind1 (l05Letter_ev hn hG hl ha h0 h1) (h := fun K t => spec_l05Move.l0 K G w t ((i + 1 : Nat) : Int)) (l05Move_l0 hn hG hl w hw hwl d (i + 1) _ hd2 hx.1 hx.2) fun K => ?_
    rw [spec_l05Move.l0, if_pos f1, if_pos (Int.natCast_nonneg i), ei]
theorem l05Move_ev {n : Nat} (hn : n ≤ 8) {G : List (List Int)} (hG : ∀ g ∈ G, PermN n g) (hl : G.length ≤ 1048576) (w : List Int) (hw : ∀ a ∈ w, LetterIn G a) (hwl : w.length ≤ 1048576) (x : Int) (h0 : 0 ≤ x) (h1 : x < n) :
    Evt (fun K => spec_l05Move.f K G w x) (actW G w x) := by
  have h := l05Move_l0 hn hG hl w hw hwl w.length 0 x (Nat.zero_add _) h0 h1
  rw [List.drop_zero] at h
  exact h

theorem l05Trivial_l1 {n : Nat} (hn : n ≤ 8) {G : List (List Int)} (hG : ∀ g ∈ G, PermN n g) (hl : G.length ≤ 1048576) (a : Int) (R : List (List Int)) (j : Nat) (hj : j < R.length) (hw : ∀ b ∈ rd_L1 R (j : Int), LetterIn G b) (hwl : (rd_L1 R (j : Int)).length ≤ 1048576) (hR : R.length ≤ 1048576) (r : Bool)
    (h : Evt (fun K => spec_l05Trivial.l0 K (n : Int) G ((j + 1 : Nat) : Int) a R) r) : ∀ (d x : Nat), x + d = n →
    Evt (fun K => spec_l05Trivial.l1 K (n : Int) G (j : Int) (x : Int) a R) (trivB G (rd_L1 R (j : Int)) d x && r)
  | 0, x, hd => by
    have ej : wrap64 ((j : Int) + 1) = ((j + 1 : Nat) : Int) := w64n (j + 1) (by omega)
    unfold trivB
    rw [Bool.true_and]
    refine Evt.step h fun K => ?_
    rw [spec_l05Trivial.l1, if_neg (by clear ej; omega), ej]
  | d + 1, x, hd => by
    have hx : x < n := by omega
    have hd2 : x + 1 + d = n := by omega
    have ei : wrap64 ((x : Int) + 1) = ((x + 1 : Nat) : Int) := w64n (x + 1) (by omega)
    have f1 : (x : Int) < (n : Int) := Int.ofNat_lt.2 hx
    unfold trivB
    refine Evt.bind1 (l05Move_ev hn hG hl (rd_L1 R (j : Int)) hw hwl (x : Int) (Int.natCast_nonneg x) f1) (h := fun K t => if t = (x : Int) then spec_l05Trivial.l1 K (n : Int) G (j : Int) ((x + 1 : Nat) : Int) a R else some false) ?_ fun K => ?_
    · by_cases c : actW G (rd_L1 R (j : Int)) (x : Int) = (x : Int)
      · rw [decide_eq_true c, Bool.true_and]
        exact Evt.same (l05Trivial_l1 hn hG hl a R j hj hw hwl hR r h d (x + 1) hd2) fun K => if_pos c
      · rw [decide_eq_false c, Bool.false_and]
        exact Evt.const fun K => if_neg c
    · rw [spec_l05Trivial.l1, if_pos f1, if_pos (Int.natCast_nonneg j), if_pos (Int.ofNat_lt.2 hj), ei]
theorem l05Trivial_l0 {n : Nat} (hn : n ≤ 8) {G : List (List Int)} (hG : ∀ g ∈ G, PermN n g) (hl : G.length ≤ 1048576) (a : Int) (R : List (List Int)) (hw : ∀ w ∈ R, ∀ b ∈ w, LetterIn G b) (hwl : ∀ w ∈ R, w.length ≤ 1048576) (hR : R.length ≤ 1048576) : ∀ (d j : Nat), j + d = R.length →
    Evt (fun K => spec_l05Trivial.l0 K (n : Int) G (j : Int) a R) ((R.drop j).all fun w => trivB G w n 0)
  | 0, j, hd => by
    refine Evt.now fun K => ?_
    rw [spec_l05Trivial.l0, if_neg (by omega), List.drop_of_length_le (by omega)]
    rfl
  | d + 1, j, hd => by
    have hj : j < R.length := by omega
    have hd2 : j + 1 + d = R.length := by omega
    have f1 : (j : Int) < (R.length : Int) := Int.ofNat_lt.2 hj
    have hm := rdL1_mem R j hj
    rw [drop_rdL1 R j hj, List.all_cons]
    refine Evt.step (l05Trivial_l1 hn hG hl a R j hj (hw _ hm) (hwl _ hm) hR _ (l05Trivial_l0 hn hG hl a R hw hwl hR d (j + 1) hd2) n 0 (Nat.zero_add _)) fun K => ?_
    rw [spec_l05Trivial.l0, if_pos f1]
    rfl
theorem l05Trivial_ev {n : Nat} (hn : n ≤ 8) {G : List (List Int)} (hG : ∀ g ∈ G, PermN n g) (hl : G.length ≤ 1048576) (a : Int) (R : List (List Int)) (hw : ∀ w ∈ R, ∀ b ∈ w, LetterIn G b) (hwl : ∀ w ∈ R, w.length ≤ 1048576) (hR : R.length ≤ 1048576) :
    Evt (fun K => spec_l05Trivial.f K a R (n : Int) G) (R.all fun w => trivB G w n 0) := by
  have h := l05Trivial_l0 hn hG hl a R hw hwl hR R.length 0 (Nat.zero_add _)
  rw [List.drop_zero] at h
  exact h

def encN (ds : List Nat) : List Int := ds.map fun a : Nat => (a : Int)
theorem encN_rd (ds : List Nat) (i : Nat) (h : i < ds.length) : rd (encN ds) (i : Int) = (ds[i] : Int) := by
  rw [rd_nat _ i (by simpa [encN] using h)]
  simp [encN]
theorem rdL1_cast (all : List (List Int)) (a : Nat) : rd_L1 all (a : Int) = all.getD a [] := by
  simp [rd_L1]
section
variable {n g : Nat} {x2 : Bool} {all : List (List Int)} {R : List (List Int)} {r : List (List (List Int))}
theorem search_l1 (hg : g ≤ 24) (X : List (List (List Int))) (ds : List Nat) (hds : ds.length = g) (hlt : ∀ a ∈ ds, a < all.length) (t : Nat → Option (List (List (List Int))))
    (ht : ∀ K, spec_l05Search.l1 (K + 1) (n : Int) x2 all X (encN ds) (pickT all ds) (g : Int) (g : Int) R = t K) (h : Evt t r) : ∀ (d i : Nat), i + d = g → Evt (fun K => spec_l05Search.l1 K (n : Int) x2 all X (encN ds) (pickT all (ds.take i)) (i : Int) (g : Int) R) r
  | 0, i, hd => by
    obtain rfl : i = g := by omega
    rw [List.take_of_length_le (by omega)]
    exact Evt.step h ht
  | d + 1, i, hd => by
    have hi : i < ds.length := by omega
    have e1 : wrap64 ((i : Int) + 1) = ((i + 1 : Nat) : Int) := w64n (i + 1) (by omega)
    have e2 : (encN ds).length = g := by simp [encN, hds]
    have e3 := encN_rd ds i hi
    have ha : ds[i] < all.length := hlt _ (List.getElem_mem hi)
    have e4 : pickT all (ds.take (i + 1)) = pickT all (ds.take i) ++ [rd_L1 all (ds[i] : Int)] := by
      rw [rdL1_cast, List.take_succ_eq_append_getElem hi]
      simp only [pickT, List.map_append, List.map_cons, List.map_nil]
    have e5 : (pickT all (ds.take i)).length < 5864062014805 := by
      simp only [pickT, List.length_map, List.length_take]
      omega
    have ih := search_l1 hg X ds hds hlt t ht h d (i + 1) (by omega)
    rw [e4] at ih
    refine Evt.step ih fun K => ?_
    rw [spec_l05Search.l1, e2, if_pos (Int.ofNat_lt.2 (by omega)), if_pos (Int.natCast_nonneg i), e3, if_pos (Int.natCast_nonneg _), if_pos (Int.ofNat_lt.2 ha), if_pos e5, e1]
theorem search_l2 {L : Nat} (hL : all.length = L + 1) (hL2 : L ≤ 1000000) (hg : g ≤ 24) (X : List (List (List Int))) : ∀ (rs : List Nat) (j : Nat), rs.length + j = g → (∀ a ∈ rs, a < L + 1) →
    (match nextT (L + 1) rs j with | none => r = X | some ds => Evt (fun K => spec_l05Search.l0 K (n : Int) x2 all X (encN ds) (g : Int) R) r) → Evt (fun K => spec_l05Search.l2 K (n : Int) x2 all X (encN (rs.reverse ++ List.replicate j 0)) ((rs.length : Int) - 1) (g : Int) R) r
  | [], j, hj, _, h => by
    obtain rfl : r = X := h
    refine Evt.now fun K => ?_
    rw [spec_l05Search.l2, if_neg (by simp), if_pos (by simp)]
  | a :: rs, j, hj, hr, h => by
    rw [List.length_cons] at hj
    have hlen : (encN ((a :: rs).reverse ++ List.replicate j 0)).length = g := by
      simp [encN]
      omega
    have hi : ((a :: rs).length : Int) - 1 = (rs.length : Int) := by
      show ((rs.length + 1 : Nat) : Int) - 1 = (rs.length : Int)
      omega
    have hnn : ¬ (rs.length : Int) < 0 := by omega
    have hq : a + 1 = L + 1 → (a : Int) = (L : Int) := fun h => by omega
    have hq2 : ¬ a + 1 = L + 1 → ¬ (a : Int) = (L : Int) := fun h => by omega
    have hs : (encN ((a :: rs).reverse ++ List.replicate j 0)).set (rs.length : Int).toNat 0 = encN (rs.reverse ++ 0 :: List.replicate j 0) := by
      rw [Int.toNat_natCast]
      simp [encN, List.set_append]
    have hwn : (rs.length : Int) ≤ 24 := by omega
    have hx : rd (encN ((a :: rs).reverse ++ List.replicate j 0)) (rs.length : Int) = (a : Int) := by
      rw [encN_rd _ rs.length (by simp)]
      simp [List.getElem_append, List.getElem_reverse]
    have hset : ∀ b : Nat, (encN ((a :: rs).reverse ++ List.replicate j 0)).set (rs.length : Int).toNat (b : Int) = encN (rs.reverse ++ b :: List.replicate j 0) := fun b => by
      rw [Int.toNat_natCast]
      simp [encN, List.set_append]
    have eL : wrap64 ((all.length : Int) - 1) = (L : Int) := by
      rw [hL, show ((L + 1 : Nat) : Int) - 1 = (L : Int) by omega]
      exact w64n L (by omega)
    have f0 : (rs.length : Int) < (g : Int) := Int.ofNat_lt.2 (by omega)
    rw [hi]
    by_cases c : a + 1 = L + 1
    · have e1 : wrap64 ((rs.length : Int) - 1) = (rs.length : Int) - 1 := w64 _ (by clear eL; omega) (by clear eL; omega)
      rw [nextT, if_pos c] at h
      have ih := search_l2 hL hL2 hg X rs (j + 1) (by clear e1 eL; omega) (fun b hb => hr b (List.mem_cons_of_mem _ hb)) h
      refine Evt.step ih fun K => ?_
      rw [spec_l05Search.l2, if_pos (show (rs.length : Int) ≥ 0 from Int.natCast_nonneg _), if_pos (Int.natCast_nonneg _), hlen, if_pos f0, hx, eL, if_pos (hq c), e1, hs]
      rfl
    · have ha := hr a List.mem_cons_self
      have e1 : wrap64 ((a : Int) + 1) = ((a + 1 : Nat) : Int) := w64n (a + 1) (by clear eL; omega)
      rw [nextT, if_neg c] at h
      refine Evt.step h fun K => ?_
      rw [spec_l05Search.l2, if_pos (show (rs.length : Int) ≥ 0 from Int.natCast_nonneg _), if_pos (Int.natCast_nonneg _), hlen, if_pos f0, hx, eL, if_neg (hq2 c), if_neg hnn, e1, hset]
/-- What the reference keeps. -/
def keepT (n : Nat) (R : List (List Int)) (x2 : Bool) (tB : List (List Int) → Bool) (G : List (List Int)) : Bool := (R.all fun w => trivB G w n 0) && (!x2 || tB G)
theorem search_l0 {L : Nat} (hn : n ≤ 8) (hL : all.length = L + 1) (hL2 : L ≤ 1000000) (hg : g ≤ 24) (hall : ∀ l ∈ all, PermN n l) (hRw : ∀ x ∈ R, ∀ a ∈ x, a ≠ 0 ∧ -(g : Int) ≤ a ∧ a ≤ g) (hRl : ∀ x ∈ R, x.length ≤ 1048576) (hR : R.length ≤ 1048576) (tB : List (List Int) → Bool)
    (hO : x2 = true → ∀ G, G.length = g → (∀ l ∈ G, PermN n l) → ∃ os, Evt (fun K => spec_l05Orbits.f K (n : Int) G) os ∧ ((os.length : Int) == 1) = tB G) :
    ∀ (N : Nat) (ds : List Nat) (X : List (List (List Int))), (restT all ds).length = N → X.length + N ≤ 1000000 → ds.length = g → (∀ a ∈ ds, a < L + 1) → Evt (fun K => spec_l05Search.l0 K (n : Int) x2 all X (encN ds) (g : Int) R) (X ++ (restT all ds).filter (keepT n R x2 tB)) := by
  intro N
  induction N with
  | zero =>
    intro ds X hN _ _ _
    obtain ⟨t, ht⟩ := restT_head all ds
    rw [ht] at hN
    simp at hN
  | succ N ih =>
    intro ds X hN hX hds hlt
    obtain ⟨t, ht⟩ := restT_head all ds
    obtain ⟨G, hGd⟩ : ∃ G, G = pickT all ds := ⟨_, rfl⟩
    have hGl : G.length = g := by rw [hGd]; simp [pickT, hds]
    have hG : ∀ l ∈ G, PermN n l := fun l hl => by
      rw [hGd] at hl
      obtain ⟨a, ha, rfl⟩ := List.mem_map.1 hl
      have hal : a < all.length := by rw [hL]; exact hlt a ha
      rw [List.getD_eq_getElem?_getD, List.getElem?_eq_getElem hal]
      exact hall _ (List.getElem_mem hal)
    have htl : (restT all ds).tail = match nextT (L + 1) ds.reverse 0 with | none => [] | some d => restT all d := by
      have := restT_next all hL ds.reverse 0 (fun a ha => by have := hlt a (List.mem_reverse.1 ha); omega)
      rwa [List.reverse_reverse, List.replicate_zero, List.append_nil] at this
    have e0 : (encN ds).length = g := by simp [encN, hds]
    -- behind the test
    have tail : ∀ Y : List (List (List Int)), Y.length ≤ X.length + 1 → Evt (fun K => spec_l05Search.l2 K (n : Int) x2 all Y (encN ds) ((g : Int) - 1) (g : Int) R) (Y ++ t.filter (keepT n R x2 tB)) := by
      intro Y hY
      have h2 := search_l2 (n := n) (x2 := x2) (R := R) (r := Y ++ t.filter (keepT n R x2 tB)) hL hL2 hg Y ds.reverse 0 (by rw [List.length_reverse]; omega) (fun a ha => hlt a (List.mem_reverse.1 ha)) (by
        rw [ht, List.tail_cons] at htl
        cases hx : nextT (L + 1) ds.reverse 0 with
        | none =>
          rw [hx] at htl
          rw [htl]
          simp
        | some d =>
          rw [hx] at htl
          simp only at htl ⊢
          obtain ⟨h1, h3⟩ := nextT_ok (L + 1) ds.reverse 0 d (fun a ha => hlt a (List.mem_reverse.1 ha)) (by omega) hx
          have hN2 : (restT all d).length = N := by
            rw [ht, htl, List.length_cons] at hN
            omega
          rw [htl]
          exact ih d Y hN2 (by omega) (by rw [h1, List.length_reverse]; omega) h3)
      rwa [List.reverse_reverse, List.replicate_zero, List.append_nil, List.length_reverse, hds] at h2
    have e1 : wrap64 ((g : Int) - 1) = (g : Int) - 1 := w64 _ (by omega) (by omega)
    have j3 : ∀ Y : List (List (List Int)), Y.length ≤ X.length + 1 → Evt (fun K => spec_l05Search.j3 K (n : Int) x2 all Y (encN ds) (g : Int) R) (Y ++ t.filter (keepT n R x2 tB)) := fun Y hY => Evt.step (tail Y hY) fun K => by rw [spec_l05Search.j3, e0, e1]
    have j2 : Evt (fun K => spec_l05Search.j2 K (n : Int) x2 all X (encN ds) G (keepT n R x2 tB G) (g : Int) R) (X ++ (restT all ds).filter (keepT n R x2 tB)) := by
      rw [ht, ← hGd, List.filter_cons]
      by_cases c : keepT n R x2 tB G = true
      · rw [if_pos c]
        have := j3 (X ++ [G]) (by simp)
        rw [List.append_assoc, List.singleton_append] at this
        exact Evt.step this fun K => by rw [spec_l05Search.j2, if_pos c, if_pos (by omega)]
      · rw [if_neg c]
        exact Evt.step (j3 X (by omega)) fun K => by rw [spec_l05Search.j2, if_neg c]
    have hlet : ∀ w ∈ R, ∀ b ∈ w, LetterIn G b := fun w hw b hb => by
      have := hRw w hw b hb
      unfold LetterIn
      rw [hGl]
      exact this
    have tr := l05Trivial_ev hn hG (by omega) (g : Int) R hlet hRl hR
    have hrest : Evt (fun K => (spec_l05Trivial.f K (g : Int) R (n : Int) G).bind fun t198 => (if t198 = true then (if x2 = true then ((spec_l05Orbits.f K (n : Int) G).bind fun t199 => (spec_l05Search.j2 K (n : Int) x2 all X (encN ds) G ((t199.length : Int) == 1) (g : Int) R)) else (spec_l05Search.j2 K (n : Int) x2 all X (encN ds) G true (g : Int) R)) else (spec_l05Search.j2 K (n : Int) x2 all X (encN ds) G false (g : Int) R))) (X ++ (restT all ds).filter (keepT n R x2 tB)) := by
      refine Evt.bind tr (h := fun K t198 => (if t198 = true then (if x2 = true then ((spec_l05Orbits.f K (n : Int) G).bind fun t199 => (spec_l05Search.j2 K (n : Int) x2 all X (encN ds) G ((t199.length : Int) == 1) (g : Int) R)) else (spec_l05Search.j2 K (n : Int) x2 all X (encN ds) G true (g : Int) R)) else (spec_l05Search.j2 K (n : Int) x2 all X (encN ds) G false (g : Int) R))) ?_ fun _ => rfl
      by_cases c : (R.all fun w => trivB G w n 0) = true
      · by_cases c2 : x2 = true
        · obtain ⟨os, ho, hb⟩ := hO c2 G hGl hG
          have hk : keepT n R x2 tB G = ((os.length : Int) == 1) := by
            unfold keepT
            rw [c, c2, hb]
            simp
          rw [hk] at j2
          exact Evt.bind ho (h := fun K t199 => spec_l05Search.j2 K (n : Int) x2 all X (encN ds) G ((t199.length : Int) == 1) (g : Int) R) j2 fun K => by rw [if_pos c, if_pos c2]
        · have hk : keepT n R x2 tB G = true := by
            unfold keepT
            rw [c]
            simp [Bool.not_eq_true _ |>.mp c2]
          rw [hk] at j2
          exact Evt.same j2 fun K => by rw [if_pos c, if_neg c2]
      · have hk : keepT n R x2 tB G = false := by
          unfold keepT
          rw [Bool.not_eq_true _ |>.mp c, Bool.false_and]
        rw [hk] at j2
        exact Evt.same j2 fun K => by rw [if_neg c]
    have hl1 := search_l1 (n := n) (x2 := x2) (R := R) (all := all) hg X ds hds (fun a ha => by rw [hL]; exact hlt a ha) _ (fun K => by rw [spec_l05Search.l1, e0, if_neg (Int.lt_irrefl _), ← hGd]) hrest g 0 (by omega)
    rw [List.take_zero] at hl1
    exact Evt.step hl1 fun K => by rw [spec_l05Search.l0]; rfl
end

/-- The reference's permutations are the program's, and are permutations. -/
def allTab (n : Nat) : Bool := decide (spec_l05All.f 2000 (n : Int) = some (permsF n n [] [])) && ((permsF n n [] []).all fun l => goP n l.length [] l) && decide (0 < (permsF n n [] []).length ∧ (permsF n n [] []).length ≤ 24)
theorem allTab_ok : ((List.range 4).all fun m => allTab (m + 1)) = true := by decide +kernel
theorem allTab_at {n : Nat} (h1 : 1 ≤ n) (h4 : n ≤ 4) : allTab n = true := by
  have := List.all_eq_true.1 allTab_ok (n - 1) (List.mem_range.2 (by omega))
  rwa [show n - 1 + 1 = n by omega] at this
theorem all_ev {n : Nat} (h1 : 1 ≤ n) (h4 : n ≤ 4) : Evt (fun K => spec_l05All.f K (n : Int)) (permsF n n [] []) := by
  have h := allTab_at h1 h4
  unfold allTab at h
  rw [Bool.and_eq_true, Bool.and_eq_true] at h
  exact ⟨2000, fun K hK => at_rounds (g := fun K => spec_l05All.f K (n : Int)) (spec_l05All.mono _) hK (of_decide_eq_true h.1.1)⟩
theorem all_perm {n : Nat} (h1 : 1 ≤ n) (h4 : n ≤ 4) : ∀ l ∈ permsF n n [] [], PermN n l := by
  have h := allTab_at h1 h4
  unfold allTab at h
  rw [Bool.and_eq_true, Bool.and_eq_true] at h
  exact fun l hl => permN_of (List.all_eq_true.1 h.1.2 l hl)
theorem all_len {n : Nat} (h1 : 1 ≤ n) (h4 : n ≤ 4) : 0 < (permsF n n [] []).length ∧ (permsF n n [] []).length ≤ 24 := by
  have h := allTab_at h1 h4
  unfold allTab at h
  rw [Bool.and_eq_true, Bool.and_eq_true] at h
  exact of_decide_eq_true h.2

theorem searchEv {n g : Nat} {x2 : Bool} (h1 : 1 ≤ n) (h4 : n ≤ 4) (hg : g ≤ 24) {R : List (List Int)} (hp : presB (g : Int) R = true) (hRl : ∀ x ∈ R, x.length ≤ 1048576) (hN : (permsF n n [] []).length ^ g ≤ 200000) (tB : List (List Int) → Bool)
    (hO : x2 = true → ∀ G, G.length = g → (∀ l ∈ G, PermN n l) → ∃ os, Evt (fun K => spec_l05Orbits.f K (n : Int) G) os ∧ ((os.length : Int) == 1) = tB G) :
    Evt (fun K => spec_l05Search.f K (g : Int) R (n : Int) x2) ((tup (permsF n n [] []) g).filter (keepT n R x2 tB)) := by
  obtain ⟨hR, hRw⟩ := rels_in hp
  obtain ⟨l1, l2⟩ := all_len h1 h4
  obtain ⟨L, hL⟩ : ∃ L, (permsF n n [] []).length = L + 1 := ⟨(permsF n n [] []).length - 1, by omega⟩
  have hz := restT_zero (permsF n n [] []) l1 g
  have h := search_l0 (n := n) (g := g) (x2 := x2) (all := permsF n n [] []) (R := R) (by omega) hL (by omega) hg (all_perm h1 h4) hRw hRl (by omega) tB hO _ (List.replicate g 0) [] rfl (by rw [hz, tup_len]; simp; omega) (List.length_replicate ..) (fun a ha => by rw [(List.mem_replicate.1 ha).2]; omega)
  rw [hz, List.nil_append] at h
  refine Evt.bind (all_ev h1 h4) (h := fun K t181 => if 0 ≤ (g : Int) then (if (g : Int).toNat ≤ 35184372088832 then (spec_l05Search.l0 K (n : Int) x2 t181 [] (List.replicate (g : Int).toNat 0) (g : Int) R) else none) else none) (Evt.same h fun K => ?_) fun _ => rfl
  rw [if_pos (Int.natCast_nonneg g), if_pos (by rw [Int.toNat_natCast]; omega), Int.toNat_natCast, show encN (List.replicate g 0) = List.replicate g (0 : Int) by simp [encN]]

theorem neg_swap (a b : Int) (ha : (Lit.int .i64 a).wf = true) (hb : (Lit.int .i64 b).wf = true) : a = wrap64 (-b) ↔ b = wrap64 (-a) := by
  have h1 : -9223372036854775808 ≤ a ∧ a ≤ 9223372036854775807 := by simpa [Lit.wf, IntKind.min, IntKind.max, IntKind.signed, IntKind.bits] using ha
  have h2 : -9223372036854775808 ≤ b ∧ b ≤ 9223372036854775807 := by simpa [Lit.wf, IntKind.min, IntKind.max, IntKind.signed, IntKind.bits] using hb
  unfold wrap64
  omega
theorem rd_wf (l : List Int) (hw : ∀ x ∈ l, (Lit.int .i64 x).wf = true) (i : Nat) (h : i < l.length) : (Lit.int .i64 (rd l (i : Int))).wf = true := by
  rw [rd_nat l i h]
  exact hw _ (List.getElem_mem h)
theorem rd_take (l : List Int) (n i : Nat) (h : i < n) (hn : n ≤ l.length) : rd (l.take n) (i : Int) = rd l (i : Int) := by
  rw [rd_nat _ i (by simp; omega), rd_nat l i (by omega)]
  simp
theorem specLetters_l0 (l : List Int) (hw : ∀ x ∈ l, (Lit.int .i64 x).wf = true) (g : Int) (hg : 0 ≤ g) (hg1 : g ≤ 4611686018427387904) (hl : l.length ≤ 4611686018427387904) : ∀ (d i k : Nat), i + d = l.length → d < k →
    spec_l04Letters.l0 k l g (i : Int) = some (letters g (l.drop i) && decide (l.length ≤ 120) && chainB (l.take i) (l.drop i)) := by
  intro d
  induction d with
  | zero =>
    intro i k hd hk
    obtain ⟨k, rfl⟩ := succ_k hk
    simp only [spec_l04Letters.l0]
    rw [if_neg (by omega), List.drop_of_length_le (by omega)]
    simp [letters, chainB]
    omega
  | succ d ih =>
    intro i k hd hk
    obtain ⟨k, rfl⟩ := succ_k hk
    have hc : (l.take i) ++ [rd l (i : Int)] = l.take (i + 1) := by
      rw [List.take_succ_eq_append_getElem (by omega), rd_nat l i (by omega)]
    have hwi := rd_wf l hw i (by omega)
    simp only [spec_l04Letters.l0]
    rw [if_pos (by omega), if_pos (by omega), w64 (-g) (by omega) (by omega), w64 ((i : Int) + 1) (by omega) (by omega), cast_succ, ih (i + 1) k (by omega) (by omega), drop_rd l i (by omega)]
    simp only [chainB, hc]
    unfold spec_l01In.f
    have hlen : (l.take i).length = i := by simp; omega
    rw [hlen]
    have hl2 : letters g (rd l (i : Int) :: l.drop (i + 1)) = ((decide (rd l (i : Int) ≠ 0) && (decide (-g ≤ rd l (i : Int)) && decide (rd l (i : Int) ≤ g))) && letters g (l.drop (i + 1))) := rfl
    rw [hl2]
    by_cases h0 : rd l (i : Int) = 0
    · simp [h0]
    · rw [if_neg h0]
      by_cases h1 : -g ≤ rd l (i : Int) <;> by_cases h2 : rd l (i : Int) ≤ g
      · by_cases hi : 0 < i
        · have e1 : wrap64 ((i : Int) - 1) = ((i - 1 : Nat) : Int) := by rw [w64 _ (by omega) (by omega)]; omega
          have hwj := rd_wf l hw (i - 1) (by omega)
          have hn := neg_swap _ _ hwi hwj
          have hi1 : (0 : Int) ≤ ((i - 1 : Nat) : Int) := by omega
          have hi2 : ((i - 1 : Nat) : Int) < (l.length : Int) := by omega
          have hi3 : (i : Int) > 0 := by omega
          rw [e1, rd_take l i (i - 1) (by omega) (by omega)]
          generalize rd l (i : Int) = a at h0 h1 h2 hn
          generalize rd l ((i - 1 : Nat) : Int) = b at hn
          generalize ((i - 1 : Nat) : Int) = m at hi1 hi2
          by_cases h3 : b = wrap64 (-a)
          · have h4 : (a = wrap64 (-b)) = True := eq_true (hn.mpr h3)
            have h5 : (b = wrap64 (-a)) = True := eq_true h3
            clear h3 hn
            simp [h0, h1, h2, hi, h4, h5, hi1, hi2, hi3]
          · have h4 : (a = wrap64 (-b)) = False := eq_false fun e => h3 (hn.mp e)
            have h5 : (b = wrap64 (-a)) = False := eq_false h3
            clear h3 hn
            simp [h0, h1, h2, hi, h4, h5, hi1, hi2, hi3]
        · have hi0 : i = 0 := by omega
          subst hi0
          simp at h0 h1 h2
          simp [h0, h1, h2]
      · simp [h0, h1, h2]
      · simp [h0, h1, h2]
      · simp [h0, h1, h2]
theorem specLetters_eq (l : List Int) (hw : ∀ x ∈ l, (Lit.int .i64 x).wf = true) (g : Int) (hg : 0 ≤ g) (hg1 : g ≤ 4611686018427387904) (k : Nat) (hl : l.length ≤ 4611686018427387904) (hk : l.length < k) : spec_l04Letters.f k l g = some (redB g l) := by
  have := specLetters_l0 l hw g hg hg1 hl l.length 0 k (by omega) hk
  unfold spec_l04Letters.f redB
  simpa using this

theorem specPres_l0 (g : Int) (hg : 0 ≤ g) (hg1 : g ≤ 24) (l : List (List Int)) (n : Nat) (hn : n ≤ 1048576) (hl : l.length ≤ 1048576) (hr : ∀ x ∈ l, x.length ≤ n) (hw : ∀ x ∈ l, ∀ y ∈ x, (Lit.int .i64 y).wf = true) : ∀ (d i k : Nat), i + d = l.length → d + n < k →
    spec_IsPresentation.l0 k (i : Int) g l = some ((l.drop i).all (redB g)) := by
  intro d
  induction d with
  | zero =>
    intro i k hd hk
    obtain ⟨k, rfl⟩ := succ_k hk
    simp only [spec_IsPresentation.l0]
    rw [if_neg (by omega), List.drop_of_length_le (by omega)]
    rfl
  | succ d ih =>
    intro i k hd hk
    obtain ⟨k, rfl⟩ := succ_k hk
    simp only [spec_IsPresentation.l0]
    have hm := rdL1_mem l i (by omega)
    have hlen := hr _ hm
    rw [if_pos (by omega), if_pos (by omega), specLetters_eq _ (hw _ hm) g hg (by omega) k (by omega) (by omega), w64 _ (by omega) (by omega), cast_succ, ih (i + 1) k (by omega) (by omega), drop_rdL1 l i (by omega), List.all_cons]
    simp only [Option.bind_some]
    by_cases h : redB g (rd_L1 l (i : Int)) = true
    · simp [h]
    · simp [h]
theorem specPres_eq (g : Int) (l : List (List Int)) (n k : Nat) (hn : n ≤ 1048576) (hl : l.length ≤ 1048576) (hr : ∀ x ∈ l, x.length ≤ n) (hw : ∀ x ∈ l, ∀ y ∈ x, (Lit.int .i64 y).wf = true) (hk : 2097200 < k) :
    spec_IsPresentation.f k g l = some (presB g l) := by
  obtain ⟨k, rfl⟩ := succ_k hk
  unfold spec_IsPresentation.f spec_l01In.f presB
  simp only [spec_IsPresentation.j0]
  by_cases h1 : 0 ≤ g
  · by_cases h2 : g ≤ 24
    · by_cases h3 : l.length ≤ 48
      · have := specPres_l0 g h1 h2 l n hn hl hr hw l.length 0 k (by omega) (by omega)
        have h3' : ¬ (l.length : Int) > 48 := by omega
        simp only [List.drop_zero] at this
        simp [h1, h2, h3, h3']
        exact this
      · have h3' : (l.length : Int) > 48 := by omega
        simp [h1, h2, h3, h3']
    · simp [h1, h2]
  · simp [h1]

def codeTab (g n : Nat) : Bool := decide (impl_searchCode.l0 100 (n : Int) 1 (g : Int) 0 = spec_l05Code.l0 100 (n : Int) 200000 0 (g : Int) []) && (spec_l05Code.l0 100 (n : Int) 200000 0 (g : Int) []).isSome && (!decide (spec_l05Code.l0 100 (n : Int) 200000 0 (g : Int) [] = some 0) || decide ((permsF n n [] []).length ^ g ≤ 200000))
theorem codeTab_ok : ((List.range 25).all fun g => (List.range 4).all fun m => codeTab g (m + 1)) = true := by decide +kernel
theorem codeTab_at {g n : Nat} (hg : g ≤ 24) (h1 : 1 ≤ n) (h4 : n ≤ 4) : codeTab g n = true := by
  have := List.all_eq_true.1 (List.all_eq_true.1 codeTab_ok g (List.mem_range.2 (by omega))) (n - 1) (List.mem_range.2 (by omega))
  rwa [show n - 1 + 1 = n by omega] at this
theorem code_rels (n g : Int) (R R' : List (List Int)) : ∀ (k : Nat) (x5 x6 : Int), spec_l05Code.l0 k n x5 x6 g R = spec_l05Code.l0 k n x5 x6 g R'
  | 0, _, _ => by rw [spec_l05Code.l0, spec_l05Code.l0]
  | k + 1, x5, x6 => by
    rw [spec_l05Code.l0, spec_l05Code.l0]
    simp only [code_rels n g R R' k]
theorem codeTab_codes {g n : Nat} (hg : g ≤ 24) (h1 : 1 ≤ n) (h4 : n ≤ 4) (R : List (List Int)) : ∃ c, Evt (fun K => impl_searchCode.l0 K (n : Int) 1 (g : Int) 0) c ∧ Evt (fun K => spec_l05Code.l0 K (n : Int) 200000 0 (g : Int) R) c ∧ (c = 0 → (permsF n n [] []).length ^ g ≤ 200000) := by
  have h := codeTab_at hg h1 h4
  unfold codeTab at h
  rw [Bool.and_eq_true, Bool.and_eq_true] at h
  obtain ⟨⟨e1, e2⟩, e3⟩ := h
  have e1 := of_decide_eq_true e1
  obtain ⟨c, hc⟩ := Option.isSome_iff_exists.1 e2
  rw [hc] at e1 e3
  rw [code_rels _ _ [] R] at hc
  refine ⟨c, ⟨100, fun K hK => at_rounds (g := fun K => impl_searchCode.l0 K (n : Int) 1 (g : Int) 0) (fun k => impl_searchCode.mono_l k _ _ _ _) hK e1⟩, ⟨100, fun K hK => at_rounds (g := fun K => spec_l05Code.l0 K (n : Int) 200000 0 (g : Int) R) (fun k => spec_l05Code.mono_l k _ _ _ _ _) hK hc⟩, fun h0 => ?_⟩
  subst h0
  rw [decide_eq_true rfl] at e3
  simpa using e3
/-- Both codes are one; where it is 0 the arguments are good. -/
theorem code_both (a0 a1 : Int) (R : List (List Int)) (hR : R.length ≤ 1048576) (hRl : ∀ w ∈ R, w.length ≤ 1048576) (hRw : ∀ w ∈ R, ∀ y ∈ w, (Lit.int .i64 y).wf = true) :
    ∃ c, Evt (fun K => impl_searchCode.f K a0 R a1) c ∧ Evt (fun K => spec_l05Code.f K a0 R a1) c ∧ (c = 0 → presB a0 R = true ∧ ∃ g n : Nat, a0 = g ∧ a1 = n ∧ g ≤ 24 ∧ 1 ≤ n ∧ n ≤ 4 ∧ (permsF n n [] []).length ^ g ≤ 200000) := by
  have p1 : Evt (fun K => spec_IsPresentation.f K a0 R) (presB a0 R) := ⟨2097201, fun K hK => specPres_eq a0 R 1048576 K (Nat.le_refl _) hR hRl hRw (by omega)⟩
  have p2 : Evt (fun K => impl_isPresentation.f K a0 R) (presB a0 R) := ⟨1048577, fun K hK => implisPres_eq a0 R 1048576 K (Nat.le_refl _) hRl hRw (by omega)⟩
  have i1 : spec_l01In.f a1 1 4 = some (decide (1 ≤ a1 ∧ a1 ≤ 4)) := by
    unfold spec_l01In.f
    by_cases c : a1 ≥ 1
    · rw [if_pos c, Option.some.injEq, decide_eq_decide]
      omega
    · rw [if_neg c, decide_eq_false (by omega)]
  have i2 : impl_inRange.f a1 1 4 = some (decide (1 ≤ a1 ∧ a1 ≤ 4)) := by
    unfold impl_inRange.f
    by_cases c : 1 ≤ a1
    · rw [if_pos c, Option.some.injEq, decide_eq_decide]
      omega
    · rw [if_neg c, decide_eq_false (by omega)]
  by_cases c1 : presB a0 R = true
  · rw [c1] at p1 p2
    by_cases c2 : 1 ≤ a1 ∧ a1 ≤ 4
    · rw [decide_eq_true c2] at i1 i2
      have hp := c1
      unfold presB at hp
      rw [Bool.and_eq_true, Bool.and_eq_true, Bool.and_eq_true] at hp
      have hp1 := of_decide_eq_true hp.1.1.1
      have hp2 := of_decide_eq_true hp.1.1.2
      obtain ⟨g, rfl⟩ : ∃ g : Nat, a0 = g := ⟨a0.toNat, by omega⟩
      obtain ⟨n, rfl⟩ : ∃ n : Nat, a1 = n := ⟨a1.toNat, by omega⟩
      obtain ⟨c, h1, h2, h3⟩ := codeTab_codes (g := g) (n := n) (by omega) (by omega) (by omega) R
      refine ⟨c, ?_, ?_, fun h0 => ⟨c1, g, n, rfl, rfl, by omega, by omega, by omega, h3 h0⟩⟩
      · refine Evt.bind p2 (h := fun K t => if t = true then ((impl_inRange.f (n : Int) 1 4).bind fun t252 => (if t252 = true then (impl_searchCode.l0 K (n : Int) 1 (g : Int) 0) else (some 2))) else (some 1)) (Evt.same h1 fun K => ?_) fun _ => rfl
        rw [if_pos rfl, i2, Option.bind_some, if_pos rfl]
      · refine Evt.bind p1 (h := fun K t => if t = true then ((spec_l01In.f (n : Int) 1 4).bind fun t252 => (if t252 = true then (spec_l05Code.l0 K (n : Int) 200000 0 (g : Int) R) else (some 2))) else (some 1)) (Evt.same h2 fun K => ?_) fun _ => rfl
        rw [if_pos rfl, i1, Option.bind_some, if_pos rfl]
    · rw [decide_eq_false c2] at i1 i2
      refine ⟨2, ?_, ?_, fun h => absurd h (by decide)⟩
      · refine Evt.bind p2 (h := fun K t => if t = true then ((impl_inRange.f a1 1 4).bind fun t252 => (if t252 = true then (impl_searchCode.l0 K a1 1 a0 0) else (some 2))) else (some 1)) (Evt.const fun K => ?_) fun _ => rfl
        rw [if_pos rfl, i2, Option.bind_some, if_neg (by simp)]
      · refine Evt.bind p1 (h := fun K t => if t = true then ((spec_l01In.f a1 1 4).bind fun t252 => (if t252 = true then (spec_l05Code.l0 K a1 200000 0 a0 R) else (some 2))) else (some 1)) (Evt.const fun K => ?_) fun _ => rfl
        rw [if_pos rfl, i1, Option.bind_some, if_neg (by simp)]
  · rw [Bool.not_eq_true] at c1
    rw [c1] at p1 p2
    refine ⟨1, ?_, ?_, fun h => absurd h (by decide)⟩
    · exact Evt.bind p2 (h := fun K t => if t = true then ((impl_inRange.f a1 1 4).bind fun t252 => (if t252 = true then (impl_searchCode.l0 K a1 1 a0 0) else (some 2))) else (some 1)) (Evt.const fun K => if_neg (by simp)) fun _ => rfl
    · exact Evt.bind p1 (h := fun K t => if t = true then ((spec_l01In.f a1 1 4).bind fun t252 => (if t252 = true then (spec_l05Code.l0 K a1 200000 0 a0 R) else (some 2))) else (some 1)) (Evt.const fun K => if_neg (by simp)) fun _ => rfl

theorem specCopy_l0 (G : List (List Int)) (hl : G.length ≤ 1000) (hr : ∀ p ∈ G, p.length ≤ 1000) : ∀ (d i : Nat), i + d = G.length → Evt (fun K => spec_l04Copy.l0 K G (-1) (G.take i) (i : Int)) G
  | 0, i, hd => by
    rw [List.take_of_length_le (by omega)]
    exact Evt.now fun K => by rw [spec_l04Copy.l0, if_neg (by omega)]
  | d + 1, i, hd => by
    have hi : i < G.length := by omega
    have f1 : (i : Int) < (G.length : Int) := Int.ofNat_lt.2 hi
    have f2 : ¬ (i : Int) = -1 := by omega
    have ei : wrap64 ((i : Int) + 1) = ((i + 1 : Nat) : Int) := w64n (i + 1) (by omega)
    have e2 : ([] : List Int).length + (rd_L1 G (i : Int)).length < 17592186044416 := Nat.lt_of_le_of_lt (by rw [List.length_nil, Nat.zero_add]; exact hr _ (rdL1_mem G i hi)) (by decide)
    have e3 : (G.take i).length < 5864062014805 := by rw [List.length_take]; clear ei; omega
    have ih := specCopy_l0 G hl hr d (i + 1) (by clear ei; omega)
    rw [List.take_succ_eq_append_getElem hi, ← rdL1_nat G i hi] at ih
    exact Evt.step ih fun K => by rw [spec_l04Copy.l0, if_pos f1, if_neg f2, Option.bind_some, if_pos (Int.natCast_nonneg i), if_pos e2, if_pos e3, ei, List.nil_append]
theorem specCopy_ev (G : List (List Int)) (hl : G.length ≤ 1000) (hr : ∀ p ∈ G, p.length ≤ 1000) : Evt (fun K => spec_l04Copy.f K G (-1)) G := by
  have h := specCopy_l0 G hl hr G.length 0 (Nat.zero_add _)
  rw [List.take_zero] at h
  exact h
theorem repAt_both (a0 a1 a2 : Int) (R : List (List Int)) (q0 : -9223372036854775808 ≤ a2) (q1 : a2 ≤ 9223372036854775807) (hR : R.length ≤ 1048576) (hRl : ∀ w ∈ R, w.length ≤ 1048576) (hRw : ∀ w ∈ R, ∀ y ∈ w, (Lit.int .i64 y).wf = true) :
    ∃ r : List (List Int) × Int, Evt (fun K => spec_RepresentationAt.f K a0 R a1 a2) r ∧ Evt (fun K => impl_RepresentationAt.f K a0 R a1 a2) r ∧ r.1.length ≤ 24 ∧ ∀ x ∈ r.1, x.length ≤ 4 := by
  obtain ⟨c, h1, h2, h3⟩ := code_both a0 a1 R hR hRl hRw
  by_cases c0 : c = 0
  · obtain ⟨hp, g, n, rfl, rfl, hg, n1, n4, hN⟩ := h3 c0
    subst c0
    have hs := searchEv (x2 := false) n1 n4 hg hp hRl hN (fun _ => true) (fun h => by cases h)
    have hk : ((tup (permsF n n [] []) g).filter (keepT n R false fun _ => true)) = (tup (permsF n n [] []) g).filter (isR n R) := List.filter_congr fun G _ => by simp [keepT, isR]
    rw [hk] at hs
    have hl : ((tup (permsF n n [] []) g).filter (isR n R)).length ≤ 200000 := Nat.le_trans (List.length_filter_le _ _) (by rw [tup_len]; exact hN)
    have el : wrap64 ((((tup (permsF n n [] []) g).filter (isR n R)).length : Int) - 1) = (((tup (permsF n n [] []) g).filter (isR n R)).length : Int) - 1 := w64 _ (by omega) (by omega)
    by_cases cq : 0 ≤ a2 ∧ a2 < (((tup (permsF n n [] []) g).filter (isR n R)).length : Int)
    · obtain ⟨q, rfl⟩ : ∃ q : Nat, a2 = q := ⟨a2.toNat, by omega⟩
      have hq : q < ((tup (permsF n n [] []) g).filter (isR n R)).length := by omega
      have hi := at_ev4 hg n1 n4 hp hRl h1 hN q (by omega)
      rw [if_pos hq] at hi
      have hm : ((tup (permsF n n [] []) g).filter (isR n R)).getD q [] ∈ (tup (permsF n n [] []) g).filter (isR n R) := by
        rw [List.getD_eq_getElem?_getD, List.getElem?_eq_getElem hq]
        exact List.getElem_mem hq
      obtain ⟨t1, t2⟩ := tup_mem _ g _ (List.mem_filter.1 hm).1
      have t3 : ∀ x ∈ ((tup (permsF n n [] []) g).filter (isR n R)).getD q [], x.length ≤ 4 := fun x hx => by rw [(perm_all n1 n4 x (t2 x hx)).1]; exact n4
      have hcp := specCopy_ev _ (by rw [t1]; omega) (fun p hp => Nat.le_trans (t3 p hp) (by decide))
      have hin : spec_l01In.f (q : Int) 0 ((((tup (permsF n n [] []) g).filter (isR n R)).length : Int) - 1) = some true := by
        unfold spec_l01In.f
        rw [if_pos (by omega), decide_eq_true (by omega)]
      refine ⟨(((tup (permsF n n [] []) g).filter (isR n R)).getD q [], 0), ?_, hi, by rw [t1]; exact hg, t3⟩
      refine Evt.bind h2 (h := fun K t252 => (if t252 = 0 then ((spec_l05Search.f K (g : Int) R (n : Int) false).bind fun t256 => ((spec_l01In.f (q : Int) 0 (wrap64 ((t256.length : Int) - 1))).bind fun t259 => (if t259 = true then (if 0 ≤ (q : Int) then (if (q : Int) < (t256.length : Int) then ((spec_l04Copy.f K (rd_L2 t256 (q : Int)) (-1)).bind fun t261 => (some (t261, 0))) else (none)) else (none)) else (some ((([] : List (List Int))), 4))))) else (some ((([] : List (List Int))), t252)))) ?_ fun _ => rfl
      refine Evt.bind hs (h := fun K t256 => ((spec_l01In.f (q : Int) 0 (wrap64 ((t256.length : Int) - 1))).bind fun t259 => (if t259 = true then (if 0 ≤ (q : Int) then (if (q : Int) < (t256.length : Int) then ((spec_l04Copy.f K (rd_L2 t256 (q : Int)) (-1)).bind fun t261 => (some (t261, 0))) else (none)) else (none)) else (some ((([] : List (List Int))), 4))))) ?_ fun _ => if_pos rfl
      refine Evt.bind hcp (h := fun _ t261 => some (t261, 0)) (Evt.const fun _ => rfl) fun K => ?_
      rw [el, hin, Option.bind_some, if_pos rfl, if_pos cq.1, if_pos cq.2]
      rfl
    · have hi := at_none4 hg n1 n4 hp hRl h1 hN a2 q0 q1 (by clear el; omega)
      have hin : spec_l01In.f a2 0 ((((tup (permsF n n [] []) g).filter (isR n R)).length : Int) - 1) = some false := by
        unfold spec_l01In.f
        by_cases ca : a2 ≥ 0
        · rw [if_pos ca, decide_eq_false (by clear el; omega)]
        · rw [if_neg ca]
      refine ⟨([], 4), ?_, hi, by simp, by simp⟩
      refine Evt.bind h2 (h := fun K t252 => (if t252 = 0 then ((spec_l05Search.f K (g : Int) R (n : Int) false).bind fun t256 => ((spec_l01In.f a2 0 (wrap64 ((t256.length : Int) - 1))).bind fun t259 => (if t259 = true then (if 0 ≤ a2 then (if a2 < (t256.length : Int) then ((spec_l04Copy.f K (rd_L2 t256 a2) (-1)).bind fun t261 => (some (t261, 0))) else (none)) else (none)) else (some ((([] : List (List Int))), 4))))) else (some ((([] : List (List Int))), t252)))) ?_ fun _ => rfl
      refine Evt.bind hs (h := fun K t256 => ((spec_l01In.f a2 0 (wrap64 ((t256.length : Int) - 1))).bind fun t259 => (if t259 = true then (if 0 ≤ a2 then (if a2 < (t256.length : Int) then ((spec_l04Copy.f K (rd_L2 t256 a2) (-1)).bind fun t261 => (some (t261, 0))) else (none)) else (none)) else (some ((([] : List (List Int))), 4))))) (Evt.const fun K => ?_) fun _ => if_pos rfl
      rw [el, hin, Option.bind_some, if_neg (by simp)]
  · refine ⟨([], c), ?_, ?_, by simp, by simp⟩
    · exact Evt.bind h2 (h := fun K t252 => (if t252 = 0 then ((spec_l05Search.f K a0 R a1 false).bind fun t256 => ((spec_l01In.f a2 0 (wrap64 ((t256.length : Int) - 1))).bind fun t259 => (if t259 = true then (if 0 ≤ a2 then (if a2 < (t256.length : Int) then ((spec_l04Copy.f K (rd_L2 t256 a2) (-1)).bind fun t261 => (some (t261, 0))) else (none)) else (none)) else (some ((([] : List (List Int))), 4))))) else (some ((([] : List (List Int))), t252)))) (Evt.const fun K => if_neg c0) fun _ => rfl
    · exact Evt.bind h1 (h := fun K c => if c = 0 then (repsRun K a0 R a1 (repAt.vis K) (a2, [], false)).bind fun r => if r.2.2.2 = true then some (r.2.2.1, 0) else some ([], 4) else some ([], c)) (Evt.const fun K => if_neg c0) fun _ => rfl

theorem FnExactRepresentationAt : laws_FnExactRepresentationAt.Pure := by
  intro a0 l a1 a2 _ hl hr _ hw2
  have q0 : -9223372036854775808 ≤ a2 ∧ a2 ≤ 9223372036854775807 := wf64 hw2
  by_cases hb : l.length ≤ 1048576 ∧ ∀ x ∈ l, x.length ≤ 1048576
  · obtain ⟨s, ⟨k1, h1⟩, ⟨k2, h2⟩, b1, b2⟩ := repAt_both a0 a1 a2 l q0.1 q0.2 hb.1 hb.2 fun x hx => (hr x hx).2
    have b1' : s.1.length ≤ 1048576 := Nat.le_trans b1 (by decide)
    have b2' : ∀ x ∈ s.1, x.length ≤ 1048576 := fun x hx => Nat.le_trans (b2 x hx) (by decide)
    obtain ⟨k3, h3⟩ := markSS_ev l hb.1 hb.2
    obtain ⟨k4, h4⟩ := markSS_ev s.1 b1' b2'
    obtain ⟨k5, h5⟩ := heldSS_ev s.1 b1' b2'
    obtain ⟨K, hK⟩ : ∃ K : Nat, K = k1 + k2 + k3 + k4 + k5 + 2097300 := ⟨_, rfl⟩
    refine ⟨K, ?_⟩
    obtain ⟨r, e, _⟩ := szPresentation_eq a0 l 1048576 K (by omega) (by omega) hl (fun x hx => (hr x hx).1) (by omega)
    unfold laws_FnExactRepresentationAt.f
    rw [e, Option.bind_some]
    by_cases h0 : r < 0
    · rw [if_pos h0]
    · rw [if_neg h0, toPresentation_eq a0 l K hb.1 hb.2 (by omega)]
      have g1 := h1 K (by omega)
      have g2 := h2 K (by omega)
      have g3 := h3 K (by omega)
      have g4 := h4 K (by omega)
      have g5 := h5 K (by omega)
      simp only at g1 g2 g3 g4 g5
      have n1 : 0 ≤ 1 + (tot l : Int) := by omega
      have n2 : 0 ≤ 1 + (tot s.1 : Int) := by omega
      rw [Option.bind_some]
      simp only
      rw [g1, Option.bind_some, g2, Option.bind_some, eqInt64SS_self s.1 1048576 K b1' (by omega) b2' (by omega), Option.bind_some, if_pos rfl, if_pos rfl, eqPresentation_self a0 l 1048576 K hb.1 (by omega) hb.2 (by omega), Option.bind_some, if_pos rfl]
      unfold laws_markPresentation.f
      rw [g3, Option.bind_some]
      simp only
      rw [if_pos n1, g4, Option.bind_some]
      simp only
      rw [g5, Option.bind_some, if_pos n2, if_pos rfl]
  · obtain ⟨K, hK⟩ : ∃ K : Nat, K = 2097300 := ⟨_, rfl⟩
    refine ⟨K, ?_⟩
    obtain ⟨r, e, h⟩ := szPresentation_eq a0 l 1048576 K (by omega) (by omega) hl (fun x hx => (hr x hx).1) (by omega)
    have h0 : r < 0 := by
      rcases h with h | ⟨_, _, h1, h2⟩
      · exact h
      · exact absurd ⟨by omega, fun x hx => by have := h2 x hx; omega⟩ hb
    unfold laws_FnExactRepresentationAt.f
    rw [e, Option.bind_some, if_pos h0]

end Go.Proofs.Ytbcdngjajjgmkaa.Pure
