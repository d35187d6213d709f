/- Program and reference write the same presentation of a stabilizer, in new memory, and leave the arguments. No condition: for every input that the statement lets in. -/
import Derived.Test.YtbcdngjajjgmkaaVFnExactStabilizerPresentationStmt
namespace Go.Proofs.Ytbcdngjajjgmkaa.Pure
open Go.RowKit Go.Proofs.Ytbcdngjajjgmkaa.PFnExactStabilizerPresentation Go.Proofs.YtbcdngjajjgmkaaW.PrintWords Go.Proofs.YtbcdngjajjgmkaaW.PrintLast

set_option linter.unusedSimpArgs false
set_option linter.unusedVariables false
set_option linter.unusedSectionVars false
theorem w64 (x : Int) (h0 : -9223372036854775808 ≤ x) (h1 : x ≤ 9223372036854775807) : wrap64 x = x := by
  unfold wrap64
  omega
theorem w64n (n : Nat) (h : n ≤ 9223372036854775807) : wrap64 (n : Int) = (n : Int) := w64 _ (by omega) (by omega)
theorem rd_nat (l : List Int) (i : Nat) (h : i < l.length) : rd l (i : Int) = l[i] := by
  simp [rd, List.getD, List.getElem?_eq_getElem h]
theorem succ_k {k n : Nat} (h : n < k) : ∃ m, k = m + 1 := ⟨k - 1, by omega⟩
theorem cast_succ (i : Nat) : ((i : Int) + 1) = ((i + 1 : Nat) : Int) := by omega
theorem drop_rd (l : List Int) (k : Nat) (h : k < l.length) : l.drop k = rd l (k : Int) :: l.drop (k + 1) := by
  rw [List.drop_eq_getElem_cons h, rd_nat l k h]

theorem szInt64S_eq (l : List Int) (a : Int) (h0 : 0 ≤ a) (h1 : a ≤ 1048576) (hl : l.length ≤ maxLen) : laws_szInt64S.f l a = some (if a < l.length then -1 else a - l.length) := by
  unfold maxLen at hl
  unfold laws_szInt64S.f
  rw [w64 _ (by omega) (by omega)]
  by_cases h : a < l.length
  · rw [if_pos (by omega), if_pos h]
  · rw [if_neg (by omega), if_neg h]

theorem rdL1_nat (l : List (List Int)) (i : Nat) (h : i < l.length) : rd_L1 l (i : Int) = l[i] := by
  simp [rd_L1, List.getD, List.getElem?_eq_getElem h]
theorem drop_rdL1 (l : List (List Int)) (k : Nat) (h : k < l.length) : l.drop k = rd_L1 l (k : Int) :: l.drop (k + 1) := by
  rw [List.drop_eq_getElem_cons h, rdL1_nat l k h]
theorem rdL1_mem (l : List (List Int)) (i : Nat) (h : i < l.length) : rd_L1 l (i : Int) ∈ l := by
  rw [rdL1_nat l i h]
  exact List.getElem_mem h

theorem szInt64SS_l0 (l : List (List Int)) (hl : l.length ≤ 1048576) (hr : ∀ x ∈ l, x.length ≤ maxLen) : ∀ (d i k : Nat) (a : Int), i + d = l.length → d < k → 0 ≤ a → a ≤ 1048576 →
    ∃ r, laws_szInt64SS.l0 k l a (i : Int) = some r ∧ (r < 0 ∨ (0 ≤ r ∧ r ≤ a ∧ ∀ x ∈ l.drop i, (x.length : Int) ≤ a)) := by
  intro d
  induction d with
  | zero =>
    intro i k a hd hk h0 h1
    obtain ⟨k, rfl⟩ := succ_k hk
    simp only [laws_szInt64SS.l0]
    rw [if_neg (by omega), List.drop_of_length_le (by omega)]
    exact ⟨a, rfl, .inr ⟨h0, Int.le_refl _, by simp⟩⟩
  | succ d ih =>
    intro i k a hd hk h0 h1
    obtain ⟨k, rfl⟩ := succ_k hk
    simp only [laws_szInt64SS.l0]
    rw [if_pos (by omega), if_pos (by omega), szInt64S_eq _ a h0 h1 (hr _ (rdL1_mem l i (by omega)))]
    simp only [Option.bind_some]
    by_cases h : a < (rd_L1 l (i : Int)).length
    · rw [if_pos h, if_pos (by omega)]
      exact ⟨-1, rfl, .inl (by omega)⟩
    · rw [if_neg h, if_neg (by omega), w64 _ (by omega) (by omega), cast_succ, drop_rdL1 l i (by omega)]
      obtain ⟨r, e, hr'⟩ := ih (i + 1) k (a - (rd_L1 l (i : Int)).length) (by omega) (by omega) (by omega) (by omega)
      refine ⟨r, e, ?_⟩
      rcases hr' with hr' | ⟨h2, h3, h4⟩
      · exact .inl hr'
      · refine .inr ⟨h2, by omega, fun x hx => ?_⟩
        rcases List.mem_cons.1 hx with e | hx
        · subst e
          omega
        · have := h4 x hx
          omega
theorem szInt64SS_eq (l : List (List Int)) (a : Int) (k : Nat) (h0 : 0 ≤ a) (h1 : a ≤ 1048576) (hl : l.length ≤ maxLen) (hr : ∀ x ∈ l, x.length ≤ maxLen) (hk : 1048576 < k) :
    ∃ r, laws_szInt64SS.f k l a = some r ∧ (r < 0 ∨ (0 ≤ r ∧ r ≤ a ∧ (l.length : Int) ≤ a ∧ ∀ x ∈ l, (x.length : Int) ≤ a)) := by
  unfold maxLen at hl
  unfold laws_szInt64SS.f
  rw [w64 _ (by omega) (by omega)]
  by_cases h : a - (l.length : Int) < 0
  · rw [if_pos h]
    exact ⟨-1, rfl, .inl (by omega)⟩
  · rw [if_neg h]
    obtain ⟨r, e, hr'⟩ := szInt64SS_l0 l (by omega) hr l.length 0 k (a - l.length) (by omega) (by omega) (by omega) (by omega)
    refine ⟨r, e, ?_⟩
    rcases hr' with hr' | ⟨h2, h3, h4⟩
    · exact .inl hr'
    · refine .inr ⟨h2, by omega, by omega, fun x hx => ?_⟩
      have := h4 x (by simpa using hx)
      omega

theorem szPresentation_eq (g : Int) (l : List (List Int)) (a : Int) (k : Nat) (h0 : 0 ≤ a) (h1 : a ≤ 1048576) (hl : l.length ≤ maxLen) (hr : ∀ x ∈ l, x.length ≤ maxLen) (hk : 1048576 < k) :
    ∃ r, laws_szPresentation.f k g l a = some r ∧ (r < 0 ∨ (0 ≤ r ∧ r ≤ a ∧ (l.length : Int) ≤ a ∧ ∀ x ∈ l, (x.length : Int) ≤ a)) := by
  obtain ⟨r, e, h⟩ := szInt64SS_eq l a k h0 h1 hl hr hk
  unfold laws_szPresentation.f
  rw [e]
  simp only [Option.bind_some]
  by_cases hr : r < 0
  · rw [if_pos hr]
    exact ⟨-1, rfl, .inl (by omega)⟩
  · rw [if_neg hr]
    exact ⟨r, rfl, h⟩

theorem toInt64S_l0 (l : List Int) (hl : l.length ≤ 4611686018427387904) : ∀ (d i : Nat) (x3 : List Int) (k : Nat), x3.length = l.length → i + d = l.length → x3.take i = l.take i → d < k → laws_toInt64S.l0 k l x3 (i : Int) = some l := by
  intro d
  induction d with
  | zero =>
    intro i x3 k h3 hd ht hk
    obtain ⟨k, rfl⟩ := succ_k hk
    simp only [laws_toInt64S.l0]
    rw [if_neg (by omega)]
    have e : i = l.length := by omega
    subst e
    rw [List.take_length, List.take_of_length_le (by omega)] at ht
    rw [ht]
  | succ d ih =>
    intro i x3 k h3 hd ht hk
    obtain ⟨k, rfl⟩ := succ_k hk
    simp only [laws_toInt64S.l0]
    rw [if_pos (by omega), if_pos (by omega), if_pos (by omega), w64 _ (by omega) (by omega), cast_succ]
    refine ih (i + 1) _ k (by simp [h3]) (by omega) ?_ (by omega)
    rw [Int.toNat_natCast, rd_nat l i (by omega)]
    rw [List.take_succ_eq_append_getElem (by simp; omega), List.take_succ_eq_append_getElem (by omega), List.take_set_of_le (by omega), ht]
    simp
theorem toInt64S_eq (l : List Int) (k : Nat) (hl : l.length ≤ 1048576) (hk : l.length < k) : laws_toInt64S.f k l = some l := by
  unfold laws_toInt64S.f
  rw [if_pos (by omega), if_pos (by omega)]
  exact toInt64S_l0 l (by omega) l.length 0 _ k (by simp) (by omega) (by simp) hk

theorem toInt64SS_l0 (l : List (List Int)) (hl : l.length ≤ 1048576) (hr : ∀ x ∈ l, x.length ≤ 1048576) : ∀ (d i : Nat) (x3 : List (List Int)) (k : Nat), x3.length = l.length → i + d = l.length → x3.take i = l.take i → d + 1048576 < k → laws_toInt64SS.l0 k l x3 (i : Int) = some l := by
  intro d
  induction d with
  | zero =>
    intro i x3 k h3 hd ht hk
    obtain ⟨k, rfl⟩ := succ_k hk
    simp only [laws_toInt64SS.l0]
    rw [if_neg (by omega)]
    have e : i = l.length := by omega
    subst e
    rw [List.take_length, List.take_of_length_le (by omega)] at ht
    rw [ht]
  | succ d ih =>
    intro i x3 k h3 hd ht hk
    obtain ⟨k, rfl⟩ := succ_k hk
    simp only [laws_toInt64SS.l0]
    have hm := hr _ (rdL1_mem l i (by omega))
    rw [if_pos (by omega), if_pos (by omega), toInt64S_eq _ k hm (by omega)]
    simp only [Option.bind_some]
    rw [if_pos (by omega), w64 _ (by omega) (by omega), cast_succ]
    refine ih (i + 1) _ k (by simp [h3]) (by omega) ?_ (by omega)
    rw [Int.toNat_natCast, rdL1_nat l i (by omega)]
    rw [List.take_succ_eq_append_getElem (by simp; omega), List.take_succ_eq_append_getElem (by omega), List.take_set_of_le (by omega), ht]
    simp
theorem toInt64SS_eq (l : List (List Int)) (k : Nat) (hl : l.length ≤ 1048576) (hr : ∀ x ∈ l, x.length ≤ 1048576) (hk : 2097152 < k) : laws_toInt64SS.f k l = some l := by
  unfold laws_toInt64SS.f
  rw [if_pos (by omega), if_pos (by omega)]
  exact toInt64SS_l0 l (by omega) hr l.length 0 _ k (by simp) (by omega) (by simp) (by omega)

theorem toPresentation_eq (g : Int) (l : List (List Int)) (k : Nat) (hl : l.length ≤ 1048576) (hr : ∀ x ∈ l, x.length ≤ 1048576) (hk : 2097152 < k) : laws_toPresentation.f k g l = some (g, l) := by
  unfold laws_toPresentation.f
  rw [toInt64SS_eq l k hl hr hk]
  rfl

theorem eqInt64S_l0 (l r : List Int) (hr : r.length = l.length) (hl : l.length ≤ 4611686018427387904) : ∀ (d i k : Nat), i + d = l.length → d < k → laws_eqInt64S.l0 k l r (i : Int) = some (decide (l.drop i = r.drop i)) := by
  intro d
  induction d with
  | zero =>
    intro i k hd hk
    obtain ⟨k, rfl⟩ := succ_k hk
    simp only [laws_eqInt64S.l0]
    rw [if_neg (by omega), List.drop_of_length_le (by omega), List.drop_of_length_le (by omega)]
    simp
  | succ d ih =>
    intro i k hd hk
    obtain ⟨k, rfl⟩ := succ_k hk
    simp only [laws_eqInt64S.l0]
    rw [if_pos (by omega), if_pos (by omega), if_pos (by omega), w64 _ (by omega) (by omega), cast_succ, ih (i + 1) k (by omega) (by omega), drop_rd l i (by omega), drop_rd r i (by omega)]
    by_cases h : rd l (i : Int) = rd r (i : Int)
    · simp [h]
    · simp [h]
theorem eqInt64S_eq (l r : List Int) (k : Nat) (hl : l.length ≤ 4611686018427387904) (hk : l.length < k) : laws_eqInt64S.f k l r = some (decide (l = r)) := by
  unfold laws_eqInt64S.f
  by_cases h : l.length = r.length
  · rw [if_pos (by omega)]
    have := eqInt64S_l0 l r h.symm hl l.length 0 k (by omega) hk
    simpa using this
  · rw [if_neg (by omega)]
    have : ¬ l = r := fun e => h (by rw [e])
    simp [this]
theorem eqInt64S_self (l : List Int) (k : Nat) (hl : l.length ≤ 4611686018427387904) (hk : l.length < k) : laws_eqInt64S.f k l l = some true := by
  rw [eqInt64S_eq l l k hl hk]
  simp

theorem eqInt64SS_l0 (l : List (List Int)) (hl : l.length ≤ 4611686018427387904) (n : Nat) (hn : n ≤ 4611686018427387904) (hr : ∀ x ∈ l, x.length ≤ n) : ∀ (d i k : Nat), i + d = l.length → d + n < k → laws_eqInt64SS.l0 k l l (i : Int) = some true := by
  intro d
  induction d with
  | zero =>
    intro i k hd hk
    obtain ⟨k, rfl⟩ := succ_k hk
    simp only [laws_eqInt64SS.l0]
    rw [if_neg (by omega)]
  | succ d ih =>
    intro i k hd hk
    obtain ⟨k, rfl⟩ := succ_k hk
    simp only [laws_eqInt64SS.l0]
    have hm := hr _ (rdL1_mem l i (by omega))
    rw [if_pos (by omega), if_pos (by omega), if_pos (by omega), eqInt64S_self _ k (by omega) (by omega)]
    simp only [Option.bind_some, if_true]
    rw [w64 _ (by omega) (by omega), cast_succ, ih (i + 1) k (by omega) (by omega)]
theorem eqInt64SS_self (l : List (List Int)) (n k : Nat) (hl : l.length ≤ 1048576) (hn : n ≤ 1048576) (hr : ∀ x ∈ l, x.length ≤ n) (hk : 2097152 < k) : laws_eqInt64SS.f k l l = some true := by
  unfold laws_eqInt64SS.f
  rw [if_pos rfl]
  exact eqInt64SS_l0 l (by omega) n (by omega) hr l.length 0 k (by omega) (by omega)

theorem eqPresentation_self (g : Int) (l : List (List Int)) (n k : Nat) (hl : l.length ≤ 1048576) (hn : n ≤ 1048576) (hr : ∀ x ∈ l, x.length ≤ n) (hk : 2097152 < k) : laws_eqPresentation.f k g l g l = some true := by
  unfold laws_eqPresentation.f
  rw [if_pos rfl, eqInt64SS_self l n k hl hn hr hk]
  rfl

/-- The numbers from m on. -/
def marks : Int → Nat → List Int
  | _, 0 => []
  | m, n + 1 => m :: marks (m + 1) n
theorem marks_length : ∀ (m : Int) (n : Nat), (marks m n).length = n
  | _, 0 => rfl
  | m, n + 1 => by simp [marks, marks_length (m + 1) n]

theorem markInt64S_l0 : ∀ (d i k : Nat) (x0 : List Int) (x1 : Int), x0.length ≤ 4611686018427387904 → i + d = x0.length → 0 ≤ x1 → x1 + d ≤ 4611686018427387904 → d < k →
    laws_markInt64S.l0 k x0 x1 (i : Int) = some (x1 + d, x0.take i ++ marks x1 d) := by
  intro d
  induction d with
  | zero =>
    intro i k x0 x1 hl hd h0 h1 hk
    obtain ⟨k, rfl⟩ := succ_k hk
    simp only [laws_markInt64S.l0]
    rw [if_neg (by omega)]
    simp [marks, List.take_of_length_le (show x0.length ≤ i by omega)]
  | succ d ih =>
    intro i k x0 x1 hl hd h0 h1 hk
    obtain ⟨k, rfl⟩ := succ_k hk
    simp only [laws_markInt64S.l0]
    rw [if_pos (by omega), if_pos (by omega), w64 _ (by omega) (by omega), w64 _ (by omega) (by omega), cast_succ, Int.toNat_natCast]
    rw [ih (i + 1) k (x0.set i x1) (x1 + 1) (by simp; omega) (by simp; omega) (by omega) (by omega) (by omega)]
    rw [List.take_succ_eq_append_getElem (by simp; omega), List.take_set_of_le (by omega)]
    simp only [marks, List.getElem_set_self, List.append_assoc, List.singleton_append]
    rw [show x1 + 1 + (d : Int) = x1 + ((d + 1 : Nat) : Int) by omega]
theorem markInt64S_eq (l : List Int) (m : Int) (k : Nat) (hl : l.length ≤ 1048576) (h0 : 0 ≤ m) (h1 : m ≤ 4611686018426339328) (hk : l.length < k) :
    laws_markInt64S.f k l m = some (m + l.length, marks m l.length) := by
  unfold laws_markInt64S.f
  have := markInt64S_l0 l.length 0 k l m (by omega) (by omega) h0 (by omega) hk
  simpa using this

/-- With enough rounds, the answer is r. -/
def Evt {α : Type} (f : Nat → Option α) (r : α) : Prop := ∃ c, ∀ K, c ≤ K → f K = some r
theorem Evt.step {α : Type} {f g : Nat → Option α} {r : α} (h : Evt g r) (e : ∀ K, f (K + 1) = g K) : Evt f r := by
  obtain ⟨c, hc⟩ := h
  refine ⟨c + 1, fun K hK => ?_⟩
  obtain ⟨K, rfl⟩ : ∃ m, K = m + 1 := ⟨K - 1, by omega⟩
  rw [e K]
  exact hc K (by omega)
theorem Evt.same {α : Type} {f g : Nat → Option α} {r : α} (h : Evt g r) (e : ∀ K, f K = g K) : Evt f r := by
  obtain ⟨c, hc⟩ := h
  exact ⟨c, fun K hK => by rw [e K]; exact hc K hK⟩
theorem Evt.now {α : Type} {f : Nat → Option α} {r : α} (e : ∀ K, f (K + 1) = some r) : Evt f r := by
  refine ⟨1, fun K hK => ?_⟩
  obtain ⟨K, rfl⟩ : ∃ m, K = m + 1 := ⟨K - 1, by omega⟩
  exact e K
theorem Evt.const {α : Type} {f : Nat → Option α} {r : α} (e : ∀ K, f K = some r) : Evt f r := ⟨0, fun K _ => e K⟩
theorem Evt.bind {α β : Type} {f : Nat → Option β} {g : Nat → Option α} {h : Nat → α → Option β} {x : α} {r : β} (hg : Evt g x) (hh : Evt (fun K => h K x) r) (e : ∀ K, f K = (g K).bind (h K)) : Evt f r := by
  obtain ⟨c, hc⟩ := hg
  obtain ⟨d, hd⟩ := hh
  exact ⟨c + d, fun K hK => by rw [e K, hc K (by omega)]; exact hd K (by omega)⟩
theorem Evt.bind1 {α β : Type} {f : Nat → Option β} {g : Nat → Option α} {h : Nat → α → Option β} {x : α} {r : β} (hg : Evt g x) (hh : Evt (fun K => h K x) r) (e : ∀ K, f (K + 1) = (g K).bind (h K)) : Evt f r :=
  Evt.step (g := fun K => (g K).bind (h K)) (Evt.bind hg hh fun _ => rfl) e
/-- All that stands in the rows. -/
def tot : List (List Int) → Nat
  | [] => 0
  | r :: t => r.length + tot t
theorem tot_cons (r : List Int) (t : List (List Int)) : tot (r :: t) = r.length + tot t := rfl
theorem tot_le (n : Nat) : ∀ (l : List (List Int)), (∀ x ∈ l, x.length ≤ n) → tot l ≤ n * l.length
  | [], _ => Nat.zero_le _
  | r :: t, h => by
    have h1 := h r (by simp)
    have h2 := tot_le n t fun x hx => h x (List.mem_cons_of_mem _ hx)
    rw [List.length_cons, Nat.mul_succ]
    rw [tot_cons]
    omega
def marksSS : Int → List (List Int) → List (List Int)
  | _, [] => []
  | m, r :: t => marks m r.length :: marksSS (m + r.length) t
theorem markSS_l0 : ∀ (d i : Nat) (x : List (List Int)) (m : Int), x.length ≤ 1048576 → i + d = x.length → (∀ r ∈ x.drop i, r.length ≤ 1048576) → 0 ≤ m → m + tot (x.drop i) ≤ 4611686018426339328 →
    Evt (fun K => laws_markInt64SS.l0 K x m (i : Int)) (m + tot (x.drop i), x.take i ++ marksSS m (x.drop i))
  | 0, i, x, m, hl, hd, hr, h0, h1 => by
    refine Evt.now fun K => ?_
    rw [laws_markInt64SS.l0, if_neg (by omega), List.drop_of_length_le (by omega), List.take_of_length_le (by omega)]
    simp [tot, marksSS]
  | d + 1, i, x, m, hl, hd, hr, h0, h1 => by
    have hi : i < x.length := by omega
    have ei : wrap64 ((i : Int) + 1) = ((i + 1 : Nat) : Int) := w64n (i + 1) (by omega)
    have f1 : (i : Int) < (x.length : Int) := Int.ofNat_lt.2 hi
    have hg : x.getD i [] = x[i] := by rw [List.getD_eq_getElem?_getD, List.getElem?_eq_getElem hi]; rfl
    rw [List.drop_eq_getElem_cons hi] at hr h1 ⊢
    have hri := hr x[i] List.mem_cons_self
    rw [tot_cons] at h1
    have hm : Evt (fun K => laws_markInt64S.f K x[i] m) (m + (x[i]).length, marks m (x[i]).length) := ⟨(x[i]).length + 1, fun K hK => markInt64S_eq x[i] m K hri h0 (by omega) (by omega)⟩
    have e1 : (x.set i (marks m (x[i]).length)).drop (i + 1) = x.drop (i + 1) := by rw [List.drop_set_of_lt (by omega)]
    have e2 : (x.set i (marks m (x[i]).length)).take (i + 1) = x.take i ++ [marks m (x[i]).length] := by
      rw [List.take_succ_eq_append_getElem (by rw [List.length_set]; exact hi), List.take_set_of_le (Nat.le_refl _), List.getElem_set_self]
    have ih := markSS_l0 d (i + 1) (x.set i (marks m (x[i]).length)) (m + (x[i]).length) (by rw [List.length_set]; exact hl) (by rw [List.length_set]; omega) (by rw [e1]; exact fun r hr' => hr r (List.mem_cons_of_mem _ hr')) (by omega) (by rw [e1]; omega)
    rw [e1, e2, List.append_assoc, List.singleton_append] at ih
    have e3 : m + (tot (x[i] :: x.drop (i + 1)) : Int) = m + (x[i]).length + tot (x.drop (i + 1)) := by
      rw [tot_cons]
      omega
    rw [e3]
    refine Evt.bind1 (h := fun K t => laws_markInt64SS.l0 K (x.set i t.2) t.1 ((i + 1 : Nat) : Int)) hm ih fun K => by rw [laws_markInt64SS.l0, if_pos f1, if_pos (Int.natCast_nonneg i), Int.toNat_natCast, hg, ei]
theorem tot_small {l : List (List Int)} (hl : l.length ≤ 1048576) (hr : ∀ x ∈ l, x.length ≤ 1048576) : 1 + (tot l : Int) ≤ 4611686018426339328 := by
  have h1 := tot_le 1048576 l hr
  have h2 : 1048576 * l.length ≤ 1048576 * 1048576 := Nat.mul_le_mul_left _ hl
  have h3 : (1048576 * 1048576 : Nat) = 1099511627776 := by decide
  omega
theorem markSS_ev (l : List (List Int)) (hl : l.length ≤ 1048576) (hr : ∀ x ∈ l, x.length ≤ 1048576) : Evt (fun K => laws_markInt64SS.f K l 1) (1 + (tot l : Int), marksSS 1 l) := by
  have h := markSS_l0 l.length 0 l 1 hl (Nat.zero_add _) (by rw [List.drop_zero]; exact hr) (by decide) (by rw [List.drop_zero]; exact tot_small hl hr)
  rw [List.drop_zero, List.take_zero, List.nil_append] at h
  exact h

theorem heldInt64S_l0 : ∀ (d i k : Nat) (x0 : List Int) (x1 : Int), x0.length ≤ 4611686018427387904 → i + d = x0.length → x0.drop i = marks x1 d → 0 ≤ x1 → x1 + d ≤ 4611686018427387904 → d < k →
    laws_heldInt64S.l0 k x0 x1 (i : Int) = some (x1 + d) := by
  intro d
  induction d with
  | zero =>
    intro i k x0 x1 hl hd he h0 h1 hk
    obtain ⟨k, rfl⟩ := succ_k hk
    simp only [laws_heldInt64S.l0]
    rw [if_neg (by omega)]
    simp
  | succ d ih =>
    intro i k x0 x1 hl hd he h0 h1 hk
    obtain ⟨k, rfl⟩ := succ_k hk
    simp only [laws_heldInt64S.l0]
    rw [drop_rd x0 i (by omega)] at he
    simp only [marks, List.cons.injEq] at he
    rw [if_pos (by omega), if_pos (by omega), if_pos he.1, w64 _ (by omega) (by omega), w64 _ (by omega) (by omega), cast_succ, ih (i + 1) k x0 (x1 + 1) hl (by omega) he.2 (by omega) (by omega) (by omega)]
    rw [show x1 + 1 + (d : Int) = x1 + ((d + 1 : Nat) : Int) by omega]
theorem heldInt64S_marks (m : Int) (n k : Nat) (hl : n ≤ 1048576) (h0 : 0 ≤ m) (h1 : m ≤ 4611686018426339328) (hk : n < k) :
    laws_heldInt64S.f k (marks m n) m = some (m + n) := by
  unfold laws_heldInt64S.f
  exact heldInt64S_l0 n 0 k (marks m n) m (by rw [marks_length]; omega) (by rw [marks_length]; omega) (by simp) h0 (by omega) hk

theorem heldSS_l0 : ∀ (d i : Nat) (x : List (List Int)) (t : List (List Int)) (m : Int), x.length ≤ 1048576 → i + d = x.length → x.drop i = marksSS m t → (∀ r ∈ t, r.length ≤ 1048576) → 0 ≤ m → m + tot t ≤ 4611686018426339328 →
    Evt (fun K => laws_heldInt64SS.l0 K x m (i : Int)) (m + tot t)
  | 0, i, x, t, m, hl, hd, he, hr, h0, h1 => by
    refine Evt.now fun K => ?_
    rw [laws_heldInt64SS.l0, if_neg (by omega)]
    rw [List.drop_of_length_le (by omega)] at he
    match t, he with
    | [], _ => simp [tot]
  | d + 1, i, x, t, m, hl, hd, he, hr, h0, h1 => by
    have hi : i < x.length := by omega
    have ei : wrap64 ((i : Int) + 1) = ((i + 1 : Nat) : Int) := w64n (i + 1) (by omega)
    have f1 : (i : Int) < (x.length : Int) := Int.ofNat_lt.2 hi
    rw [List.drop_eq_getElem_cons hi] at he
    match t, he, hr, h1 with
    | q :: t, he, hr, h1 =>
      unfold marksSS at he
      injection he with he1 he2
      have hq := hr q (by simp)
      rw [tot_cons] at h1
      have hm : Evt (fun K => laws_heldInt64S.f K (rd_L1 x (i : Int)) m) (m + q.length) := ⟨q.length + 1, fun K hK => by rw [rdL1_nat x i hi, he1]; exact heldInt64S_marks m q.length K hq h0 (by omega) (by omega)⟩
      have ih := heldSS_l0 d (i + 1) x t (m + q.length) hl (by omega) he2 (fun r hr' => hr r (List.mem_cons_of_mem _ hr')) (by omega) (by omega)
      have e3 : m + (tot (q :: t) : Int) = m + q.length + tot t := by
        rw [tot_cons]
        omega
      rw [e3]
      refine Evt.bind1 (h := fun K z => if z < 0 then some (-1) else laws_heldInt64SS.l0 K x z ((i + 1 : Nat) : Int)) hm (Evt.same ih fun K => if_neg (by omega)) fun K => by rw [laws_heldInt64SS.l0, if_pos f1, if_pos (Int.natCast_nonneg i), ei]
theorem marksSS_len : ∀ (l : List (List Int)) (m : Int), (marksSS m l).length = l.length
  | [], _ => rfl
  | r :: t, m => by rw [marksSS, List.length_cons, List.length_cons, marksSS_len t]
theorem heldSS_ev (l : List (List Int)) (hl : l.length ≤ 1048576) (hr : ∀ x ∈ l, x.length ≤ 1048576) : Evt (fun K => laws_heldInt64SS.f K (marksSS 1 l) 1) (1 + (tot l : Int)) :=
  heldSS_l0 (marksSS 1 l).length 0 (marksSS 1 l) l 1 (by rw [marksSS_len]; exact hl) (Nat.zero_add _) (by rw [List.drop_zero]) hr (by decide) (tot_small hl hr)

theorem stabMark (l g : List (List Int)) (hl : l.length ≤ 1048576) (hr : ∀ x ∈ l, x.length ≤ 1048576) (hg : g.length ≤ 1048576) (hgr : ∀ x ∈ g, x.length ≤ 1048576) : Evt (fun K => laws_markInt64SS.f K g (1 + (tot l : Int))) (1 + (tot l : Int) + (tot g : Int), marksSS (1 + (tot l : Int)) g) := by
  have h1 := tot_le 1048576 l hr
  have h2 : 1048576 * l.length ≤ 1048576 * 1048576 := Nat.mul_le_mul_left _ hl
  have h3 : (1048576 * 1048576 : Nat) = 1099511627776 := by decide
  have h4 := tot_le 1048576 g hgr
  have h5 : 1048576 * g.length ≤ 1048576 * 1048576 := Nat.mul_le_mul_left _ hg
  have h := markSS_l0 g.length 0 g (1 + (tot l : Int)) hg (Nat.zero_add _) (by rw [List.drop_zero]; exact hgr) (by omega) (by rw [List.drop_zero]; omega)
  rw [List.drop_zero, List.take_zero, List.nil_append] at h
  exact h

theorem len_le_of_sub : ∀ (l m : List Int), l.Nodup → (∀ x ∈ l, x ∈ m) → l.length ≤ m.length
  | [], m, _, _ => Nat.zero_le _
  | a :: l, m, h, hs => by
    obtain ⟨h1, h2⟩ := List.nodup_cons.1 h
    have ha : a ∈ m := hs a (by simp)
    have := len_le_of_sub l (m.erase a) h2 (fun x hx => (List.mem_erase_of_ne (fun (e : x = a) => h1 (e ▸ hx))).2 (hs x (List.mem_cons_of_mem _ hx)))
    rw [List.length_erase_of_mem ha] at this
    have hp : 0 < m.length := List.length_pos_of_mem ha
    rw [List.length_cons]
    omega
/-- The numbers below n. -/
def rangeI (n : Nat) : List Int := (List.range n).map fun (i : Nat) => (i : Int)
theorem rangeI_len (n : Nat) : (rangeI n).length = n := by simp [rangeI]
theorem rangeI_mem (n : Nat) (x : Int) : x ∈ rangeI n ↔ 0 ≤ x ∧ x < n := by
  unfold rangeI
  rw [List.mem_map]
  constructor
  · rintro ⟨i, hi, rfl⟩
    rw [List.mem_range] at hi
    omega
  · rintro ⟨h0, h1⟩
    exact ⟨x.toNat, by rw [List.mem_range]; omega, by omega⟩
def InN (n : Nat) (q : List Int) : Prop := ∀ x ∈ q, 0 ≤ x ∧ x < n
theorem short_of {n : Nat} {q : List Int} (h : q.Nodup) (hr : InN n q) : q.length ≤ n := by
  have := len_le_of_sub q (rangeI n) h (fun x hx => (rangeI_mem n x).2 (hr x hx))
  rwa [rangeI_len] at this
theorem full_of {n : Nat} {q : List Int} (h : q.Nodup) (hr : InN n q) (hl : n ≤ q.length) (y : Int) (h0 : 0 ≤ y) (h1 : y < n) : y ∈ q := by
  by_cases c : y ∈ q
  · exact c
  · have := short_of (q := y :: q) (List.nodup_cons.2 ⟨c, h⟩) (fun x hx => by
      rcases List.mem_cons.1 hx with rfl | hx
      · exact ⟨h0, h1⟩
      · exact hr x hx)
    rw [List.length_cons] at this
    omega
/-- A permutation of the numbers below n. -/
def PermN (n : Nat) (g : List Int) : Prop := g.length = n ∧ g.Nodup ∧ InN n g
theorem rd_in (l : List Int) (y : Int) (h0 : 0 ≤ y) (h1 : y < l.length) : rd l y ∈ l := by
  obtain ⟨m, rfl⟩ : ∃ m : Nat, y = m := ⟨y.toNat, by omega⟩
  rw [rd_nat l m (by omega)]
  exact List.getElem_mem _
theorem PermN.at {n : Nat} {g : List Int} (h : PermN n g) {y : Int} (h0 : 0 ≤ y) (h1 : y < n) : 0 ≤ rd g y ∧ rd g y < n := h.2.2 _ (rd_in g y h0 (by have := h.1; omega))
theorem PermN.inj {n : Nat} {g : List Int} (h : PermN n g) {a b : Int} (a0 : 0 ≤ a) (a1 : a < n) (b0 : 0 ≤ b) (b1 : b < n) (e : rd g a = rd g b) : a = b := by
  obtain ⟨i, rfl⟩ : ∃ m : Nat, a = m := ⟨a.toNat, by omega⟩
  obtain ⟨j, rfl⟩ : ∃ m : Nat, b = m := ⟨b.toNat, by omega⟩
  have hl := h.1
  rw [rd_nat g i (by omega), rd_nat g j (by omega)] at e
  have hp := List.pairwise_iff_getElem.1 h.2.1
  rcases Nat.lt_trichotomy i j with c | c | c
  · exact absurd e (hp i j (by omega) (by omega) c)
  · rw [c]
  · exact absurd e.symm (hp j i (by omega) (by omega) c)
/-- What a permutation sends into a closed set came out of it. -/
theorem PermN.back {n : Nat} {g : List Int} (h : PermN n g) {S : List Int} (hS : S.Nodup) (hr : InN n S) (hc : ∀ y ∈ S, rd g y ∈ S) {y : Int} (h0 : 0 ≤ y) (h1 : y < n) (hy : rd g y ∈ S) : y ∈ S := by
  by_cases c : y ∈ S
  · exact c
  · have hn : ((y :: S).map fun z => rd g z).Nodup := by
      unfold List.Nodup
      rw [List.pairwise_map]
      refine List.Pairwise.imp_of_mem (fun {a b} ha hb hab e => ?_) (List.nodup_cons.2 ⟨c, hS⟩)
      have ia : 0 ≤ a ∧ a < n := by rcases List.mem_cons.1 ha with rfl | ha; exact ⟨h0, h1⟩; exact hr a ha
      have ib : 0 ≤ b ∧ b < n := by rcases List.mem_cons.1 hb with rfl | hb; exact ⟨h0, h1⟩; exact hr b hb
      exact hab (h.inj ia.1 ia.2 ib.1 ib.2 e)
    have := len_le_of_sub _ S hn (fun x hx => by
      obtain ⟨z, hz, rfl⟩ := List.mem_map.1 hx
      rcases List.mem_cons.1 hz with rfl | hz
      · exact hy
      · exact hc z hz)
    rw [List.length_map, List.length_cons] at this
    omega
/-- The marks of a list. -/
def mkB (n : Nat) (q : List Int) : List Bool := (List.range n).map fun (i : Nat) => decide ((i : Int) ∈ q)
theorem mkB_length (n : Nat) (q : List Int) : (mkB n q).length = n := by simp [mkB]
theorem rdB (n : Nat) (q : List Int) (c : Int) (h0 : 0 ≤ c) (h1 : c < n) : rdOf false (mkB n q) c = decide (c ∈ q) := by
  obtain ⟨m, rfl⟩ : ∃ m : Nat, c = m := ⟨c.toNat, by omega⟩
  unfold rdOf mkB
  rw [Int.toNat_natCast, List.getD_eq_getElem?_getD, List.getElem?_map, List.getElem?_range (by omega)]
  rfl
theorem mkB_set (n : Nat) (q : List Int) (c : Int) (h0 : 0 ≤ c) : (mkB n q).set c.toNat true = mkB n (q ++ [c]) := by
  refine List.ext_getElem (by simp [mkB]) fun i h1 h2 => ?_
  simp only [mkB, List.getElem_set, List.getElem_map, List.getElem_range]
  by_cases e : c.toNat = i
  · rw [if_pos e]
    have : (i : Int) ∈ q ++ [c] := by simp; omega
    simp [this]
  · rw [if_neg e]
    have : ((i : Int) ∈ q ++ [c]) ↔ ((i : Int) ∈ q) := by
      rw [List.mem_append, List.mem_singleton]
      constructor
      · rintro (h | h)
        · exact h
        · omega
      · exact Or.inl
    exact decide_eq_decide.2 this.symm
theorem mkB_nil (n : Nat) : List.replicate n false = mkB n [] := by
  refine List.ext_getElem (by simp [mkB]) fun i h1 h2 => ?_
  unfold mkB
  simp
/-- A number is put to the list, if it is not there. -/
def pushO (o q : List Int) (c : Int) : List Int := if c ∈ o ++ q then q else q ++ [c]
def Good (n : Nat) (o q : List Int) : Prop := (o ++ q).Nodup ∧ InN n (o ++ q)
theorem Good.push {n : Nat} {o q : List Int} (h : Good n o q) {c : Int} (h0 : 0 ≤ c) (h1 : c < n) : Good n o (pushO o q c) := by
  unfold pushO
  split
  · exact h
  · rename_i hc
    refine ⟨?_, fun x hx => ?_⟩
    · rw [← List.append_assoc]
      refine List.nodup_append.2 ⟨h.1, by simp, fun a ha b hb e => ?_⟩
      rw [List.mem_singleton] at hb
      exact hc (hb ▸ e ▸ ha)
    · rw [← List.append_assoc, List.mem_append, List.mem_singleton] at hx
      rcases hx with hx | rfl
      · exact h.2 x hx
      · exact ⟨h0, h1⟩
theorem pushO_pre (o q : List Int) (c : Int) : ∃ t, pushO o q c = q ++ t := by
  unfold pushO
  split
  · exact ⟨[], by simp⟩
  · exact ⟨[c], rfl⟩
theorem pushO_in (o q : List Int) (c : Int) : c ∈ o ++ pushO o q c := by
  unfold pushO
  split
  · assumption
  · simp
theorem pushO_mem (o q : List Int) (c x : Int) (h : x ∈ pushO o q c) : x ∈ q ∨ x = c := by
  unfold pushO at h
  split at h
  · exact .inl h
  · simpa using h
theorem foldO {n : Nat} {o : List Int} : ∀ (cs q : List Int), Good n o q → InN n cs → Good n o (cs.foldl (pushO o) q) ∧ (∃ t, cs.foldl (pushO o) q = q ++ t) ∧ (∀ c ∈ cs, c ∈ o ++ cs.foldl (pushO o) q) ∧ ∀ x ∈ cs.foldl (pushO o) q, x ∈ q ∨ x ∈ cs
  | [], q, h, _ => ⟨h, ⟨[], by simp⟩, fun _ hc => absurd hc (by simp), fun x hx => .inl hx⟩
  | c :: cs, q, h, hr => by
    have hc := hr c (by simp)
    obtain ⟨h1, ⟨t, h2⟩, h3, h4⟩ := foldO cs (pushO o q c) (h.push hc.1 hc.2) (fun x hx => hr x (List.mem_cons_of_mem _ hx))
    obtain ⟨t1, e1⟩ := pushO_pre o q c
    rw [List.foldl_cons]
    refine ⟨h1, ⟨t1 ++ t, by rw [h2, e1, List.append_assoc]⟩, fun x hx => ?_, fun x hx => ?_⟩
    · rcases List.mem_cons.1 hx with rfl | hx
      · have := pushO_in o q x
        rw [h2]
        rw [List.mem_append] at this ⊢
        rcases this with h | h
        · exact .inl h
        · exact .inr (List.mem_append_left _ h)
      · exact h3 x hx
    · rcases h4 x hx with h | h
      · rcases pushO_mem o q c x h with h | h
        · exact .inl h
        · exact .inr (by simp [h])
      · exact .inr (List.mem_cons_of_mem _ h)
/-- All that can be reached, first come, first served. -/
def bfsO (o : List Int) (cand : Int → List Int) : Nat → Nat → List Int → List Int
  | 0, _, q => q
  | d + 1, i, q => if i < q.length then bfsO o cand d (i + 1) ((cand (rd q (i : Int))).foldl (pushO o) q) else q
theorem rd_pre (q t : List Int) (i : Nat) (h : i < q.length) : rd (q ++ t) (i : Int) = rd q (i : Int) := by
  rw [rd_nat q i h, rd_nat (q ++ t) i (by simp; omega), List.getElem_append_left]
theorem mem_rd (q : List Int) (x : Int) (h : x ∈ q) : ∃ j : Nat, j < q.length ∧ rd q (j : Int) = x := by
  obtain ⟨j, hj, e⟩ := List.getElem_of_mem h
  exact ⟨j, hj, by rw [rd_nat q j hj, e]⟩
theorem Good.len {n : Nat} {o q : List Int} (h : Good n o q) : q.length ≤ n := by
  have := short_of h.1 h.2
  rw [List.length_append] at this
  omega
theorem Good.right {n : Nat} {o q : List Int} (h : Good n o q) : q.Nodup ∧ InN n q := ⟨(List.nodup_append.1 h.1).2.1, fun x hx => h.2 x (List.mem_append_right _ hx)⟩
theorem bfsO_facts {n : Nat} {o : List Int} {cand : Int → List Int} (hc : ∀ y : Int, 0 ≤ y → y < n → InN n (cand y)) : ∀ (d i : Nat) (q : List Int), Good n o q → i ≤ q.length → n < d + i →
    (∀ j : Nat, j < i → ∀ c ∈ cand (rd q (j : Int)), c ∈ o ++ q) →
    Good n o (bfsO o cand d i q) ∧ (∀ x ∈ q, x ∈ bfsO o cand d i q) ∧ (∀ y ∈ bfsO o cand d i q, ∀ c ∈ cand y, c ∈ o ++ bfsO o cand d i q) ∧
      ∀ P : Int → Prop, (∀ y : Int, 0 ≤ y → y < n → P y → ∀ c ∈ cand y, P c) → (∀ y ∈ q, P y) → ∀ y ∈ bfsO o cand d i q, P y
  | 0, i, q, h, hi, hd, _ => by
    have := h.len
    omega
  | d + 1, i, q, h, hi, hd, hp => by
    unfold bfsO
    by_cases c : i < q.length
    · rw [if_pos c]
      have hy := h.right.2 _ (rd_in q (i : Int) (by omega) (by omega))
      obtain ⟨h1, ⟨t, h2⟩, h3, h4⟩ := foldO (n := n) (o := o) (cand (rd q (i : Int))) q h (hc _ hy.1 hy.2)
      obtain ⟨g1, g2, g3, g4⟩ := bfsO_facts hc d (i + 1) _ h1 (by rw [h2]; simp; omega) (by omega) (fun j hj x hx => by
        by_cases e : j = i
        · subst e
          rw [h2, rd_pre q t j c] at hx
          exact h3 x hx
        · rw [h2, rd_pre q t j (by omega)] at hx
          have := hp j (by omega) x hx
          rw [h2, ← List.append_assoc]
          exact List.mem_append_left _ this)
      refine ⟨g1, fun x hx => g2 x (by rw [h2]; exact List.mem_append_left _ hx), g3, fun P hP hq => g4 P hP fun y hy2 => ?_⟩
      rcases h4 y hy2 with h | h
      · exact hq y h
      · exact hP _ hy.1 hy.2 (hq _ (rd_in q (i : Int) (by omega) (by omega))) y h
    · rw [if_neg c]
      refine ⟨h, fun x hx => hx, fun y hy x hx => ?_, fun P _ hq => hq⟩
      obtain ⟨j, hj, rfl⟩ := mem_rd q y hy
      exact hp j (by omega) x hx

/-- The place of a number in a list; -1, if it is not there. -/
def idxF : List Int → Int → Nat → Int
  | [], _, _ => -1
  | x :: t, y, i => if x = y then (i : Int) else idxF t y (i + 1)
theorem idxF_at : ∀ (t : List Int) (y : Int) (i : Nat), y ∈ t → ∃ m : Nat, m < t.length ∧ idxF t y i = ((i + m : Nat) : Int) ∧ rd t (m : Int) = y
  | [], y, i, h => absurd h (by simp)
  | x :: t, y, i, h => by
    unfold idxF
    by_cases c : x = y
    · rw [if_pos c]
      exact ⟨0, by simp, rfl, c⟩
    · rw [if_neg c]
      obtain ⟨m, h1, h2, h3⟩ := idxF_at t y (i + 1) (by
        rcases List.mem_cons.1 h with e | e
        · exact absurd e.symm c
        · exact e)
      refine ⟨m + 1, by rw [List.length_cons]; omega, by rw [h2]; congr 1; omega, ?_⟩
      rw [← h3]
      simp only [rd, Int.toNat_natCast]
      rfl
/-- Where a permutation comes from. -/
def invI (g : List Int) (y : Int) : Int := idxF g y 0
theorem invI_at {n : Nat} {g : List Int} (h : PermN n g) {y : Int} (h0 : 0 ≤ y) (h1 : y < n) : (0 ≤ invI g y ∧ invI g y < n) ∧ rd g (invI g y) = y := by
  obtain ⟨m, h2, h3, h4⟩ := idxF_at g y 0 (full_of h.2.1 h.2.2 (by rw [h.1]; exact Nat.le_refl _) y h0 h1)
  rw [h.1] at h2
  rw [Nat.zero_add] at h3
  unfold invI
  rw [h3]
  exact ⟨⟨by omega, by omega⟩, h4⟩

/-- Where a letter maps a point. -/
def actL (G : List (List Int)) (a x : Int) : Int := if 0 < a then rd (rd_L1 G (a - 1)) x else invI (rd_L1 G (-a - 1)) x
def actW (G : List (List Int)) (w : List Int) (x : Int) : Int := w.foldl (fun x a => actL G a x) x
/-- A letter for which there is a permutation. -/
def LetterIn (G : List (List Int)) (a : Int) : Prop := a ≠ 0 ∧ -(G.length : Int) ≤ a ∧ a ≤ (G.length : Int)
theorem LetterIn.cases {G : List (List Int)} {a : Int} (h : LetterIn G a) : ∃ j : Nat, j < G.length ∧ (a = ((j + 1 : Nat) : Int) ∨ a = -((j + 1 : Nat) : Int)) := by
  obtain ⟨h0, h1, h2⟩ := h
  by_cases c : 0 < a
  · exact ⟨(a - 1).toNat, by omega, .inl (by omega)⟩
  · exact ⟨(-a - 1).toNat, by omega, .inr (by omega)⟩
theorem actL_pos (G : List (List Int)) (j : Nat) (x : Int) : actL G ((j + 1 : Nat) : Int) x = rd (rd_L1 G (j : Int)) x := by
  unfold actL
  rw [if_pos (by omega), show ((j + 1 : Nat) : Int) - 1 = (j : Int) by omega]
theorem actL_neg (G : List (List Int)) (j : Nat) (x : Int) : actL G (-((j + 1 : Nat) : Int)) x = invI (rd_L1 G (j : Int)) x := by
  unfold actL
  rw [if_neg (by omega), show -(-((j + 1 : Nat) : Int)) - 1 = (j : Int) by omega]
theorem actL_in {n : Nat} {G : List (List Int)} (hG : ∀ g ∈ G, PermN n g) {a x : Int} (ha : LetterIn G a) (h0 : 0 ≤ x) (h1 : x < n) : 0 ≤ actL G a x ∧ actL G a x < n := by
  obtain ⟨j, hj, rfl | rfl⟩ := ha.cases
  · rw [actL_pos]
    exact (hG _ (rdL1_mem G j hj)).at h0 h1
  · rw [actL_neg]
    exact (invI_at (hG _ (rdL1_mem G j hj)) h0 h1).1
/-- Does a word map each point to itself? -/
def trivB (G : List (List Int)) (w : List Int) : Nat → Nat → Bool
  | 0, _ => true
  | d + 1, x => decide (actW G w (x : Int) = (x : Int)) && trivB G w d (x + 1)
theorem neg_letter (j : Nat) (hj : j ≤ 1048576) : wrap64 (wrap64 (-(-((j + 1 : Nat) : Int))) - 1) = (j : Int) := by
  rw [Int.neg_neg, w64n (j + 1) (by omega), show ((j + 1 : Nat) : Int) - 1 = (j : Int) by omega]
  exact w64n j (by omega)
theorem pos_letter (j : Nat) (hj : j ≤ 1048576) : wrap64 (((j + 1 : Nat) : Int) - 1) = (j : Int) := by
  rw [show ((j + 1 : Nat) : Int) - 1 = (j : Int) by omega]
  exact w64n j (by omega)

theorem index_l0 (y : Int) (g : List Int) (hl : g.length ≤ 1048576) : ∀ (d i : Nat), i + d = g.length → Evt (fun K => slices_Index_int64_int64.l0 K g y (g.length : Int) (i : Int)) (idxF (g.drop i) y i)
  | 0, i, hd => by
    refine Evt.now fun K => ?_
    rw [slices_Index_int64_int64.l0, if_neg (by omega), List.drop_of_length_le (by omega)]
    rfl
  | d + 1, i, hd => by
    have hi : i < g.length := by omega
    have hd2 : i + 1 + d = g.length := by omega
    have ei : wrap64 ((i : Int) + 1) = ((i + 1 : Nat) : Int) := w64n (i + 1) (by omega)
    have f1 : (i : Int) < (g.length : Int) := Int.ofNat_lt.2 hi
    rw [drop_rd g i hi]
    unfold idxF
    by_cases c : rd g (i : Int) = y
    · rw [if_pos c]
      exact Evt.now fun K => by rw [slices_Index_int64_int64.l0, if_pos f1, if_pos (Int.natCast_nonneg i), if_pos f1, if_pos c.symm]
    · rw [if_neg c]
      exact Evt.step (index_l0 y g hl d (i + 1) hd2) fun K => by rw [slices_Index_int64_int64.l0, if_pos f1, if_pos (Int.natCast_nonneg i), if_pos f1, if_neg (Ne.symm c), ei]
theorem back_ev (y : Int) (g : List Int) (hl : g.length ≤ 1048576) : Evt (fun K => impl_back.f K g y) (invI g y) := by
  have h := index_l0 y g hl g.length 0 (Nat.zero_add _)
  rw [List.drop_zero] at h
  exact Evt.bind h (h := fun _ t => some t) (Evt.const fun _ => rfl) fun _ => rfl
theorem act_ev {n : Nat} (hn : n ≤ 8) {G : List (List Int)} (hG : ∀ g ∈ G, PermN n g) (hl : G.length ≤ 1048576) {a x : Int} (ha : LetterIn G a) (h0 : 0 ≤ x) (h1 : x < n) : Evt (fun K => impl_act.f K G a x) (actL G a x) := by
  obtain ⟨j, hj, rfl | rfl⟩ := ha.cases
  · have hp := hG _ (rdL1_mem G j hj)
    have e1 := pos_letter j (by omega)
    rw [actL_pos]
    refine Evt.const fun K => ?_
    unfold impl_act.f
    rw [if_pos (by clear e1; omega), e1, if_pos (Int.natCast_nonneg j), if_pos (Int.ofNat_lt.2 hj), if_pos h0, if_pos (by rw [hp.1]; exact h1)]
  · have hp := hG _ (rdL1_mem G j hj)
    have e1 := neg_letter j (by omega)
    rw [actL_neg]
    refine Evt.bind (back_ev x (rd_L1 G (j : Int)) (by rw [hp.1]; exact Nat.le_trans hn (by decide))) (h := fun _ t => some t) (Evt.const fun _ => rfl) fun K => ?_
    unfold impl_act.f
    rw [w64 (-(-((j + 1 : Nat) : Int))) (by clear e1; omega) (by clear e1; omega)] at e1
    rw [if_neg (by clear e1; omega), w64 (-(-((j + 1 : Nat) : Int))) (by clear e1; omega) (by clear e1; omega), e1, if_pos (Int.natCast_nonneg j), if_pos (Int.ofNat_lt.2 hj)]
theorem actWord_l0 {n : Nat} (hn : n ≤ 8) {G : List (List Int)} (hG : ∀ g ∈ G, PermN n g) (hl : G.length ≤ 1048576) (w : List Int) (hw : ∀ a ∈ w, LetterIn G a) (hwl : w.length ≤ 1048576) : ∀ (d i : Nat) (x : Int), i + d = w.length → 0 ≤ x → x < n →
    Evt (fun K => impl_actWord.l0 K G x w (w.length : Int) (i : Int)) (actW G (w.drop i) x)
  | 0, i, x, hd, h0, h1 => by
    refine Evt.now fun K => ?_
    rw [impl_actWord.l0, if_neg (by omega), List.drop_of_length_le (by omega)]
    rfl
  | d + 1, i, x, hd, h0, h1 => by
    have hi : i < w.length := by omega
    have hd2 : i + 1 + d = w.length := by omega
    have ei : wrap64 ((i : Int) + 1) = ((i + 1 : Nat) : Int) := w64n (i + 1) (by omega)
    have f1 : (i : Int) < (w.length : Int) := Int.ofNat_lt.2 hi
    have ha := hw _ (rd_in w (i : Int) (Int.natCast_nonneg i) f1)
    have hx := actL_in hG ha h0 h1
    rw [drop_rd w i hi]
    refine Evt.bind1 (act_ev hn hG hl ha h0 h1) (h := fun K t => impl_actWord.l0 K G t w (w.length : Int) ((i + 1 : Nat) : Int)) (actWord_l0 hn hG hl w hw hwl d (i + 1) _ hd2 hx.1 hx.2) fun K => ?_
    rw [impl_actWord.l0, if_pos f1, if_pos (Int.natCast_nonneg i), if_pos f1, ei]
theorem actWord_ev {n : Nat} (hn : n ≤ 8) {G : List (List Int)} (hG : ∀ g ∈ G, PermN n g) (hl : G.length ≤ 1048576) (w : List Int) (hw : ∀ a ∈ w, LetterIn G a) (hwl : w.length ≤ 1048576) (x : Int) (h0 : 0 ≤ x) (h1 : x < n) :
    Evt (fun K => impl_actWord.f K G w x) (actW G w x) := by
  have h := actWord_l0 hn hG hl w hw hwl w.length 0 x (Nat.zero_add _) h0 h1
  rw [List.drop_zero] at h
  exact h

/-- The test of a permutation, entry by entry. -/
def goP (n len : Nat) : List Int → List Int → Bool
  | _, [] => decide (len = n)
  | q, x :: t => if 0 ≤ x ∧ x ≤ (n : Int) - 1 then (if x ∈ q then false else goP n len (q ++ [x]) t) else false
theorem goP_true (n len : Nat) : ∀ (t q : List Int), goP n len q t = true → q.Nodup → InN n q → (q ++ t).Nodup ∧ InN n (q ++ t) ∧ len = n
  | [], q, h, h1, h2 => by
    rw [List.append_nil]
    exact ⟨h1, h2, of_decide_eq_true h⟩
  | x :: t, q, h, h1, h2 => by
    unfold goP at h
    by_cases c : 0 ≤ x ∧ x ≤ (n : Int) - 1
    · rw [if_pos c] at h
      by_cases e : x ∈ q
      · rw [if_pos e] at h
        exact absurd h (by simp)
      · rw [if_neg e] at h
        have := goP_true n len t (q ++ [x]) h (List.nodup_append.2 ⟨h1, by simp, fun a ha b hb e2 => by
          rw [List.mem_singleton] at hb
          exact e (hb ▸ e2 ▸ ha)⟩) (fun y hy => by
          rw [List.mem_append, List.mem_singleton] at hy
          rcases hy with hy | rfl
          · exact h2 y hy
          · omega)
        rwa [List.append_assoc] at this
    · rw [if_neg c] at h
      exact absurd h (by simp)
theorem permN_of {n : Nat} {g : List Int} (h : goP n g.length [] g = true) : PermN n g := by
  obtain ⟨h1, h2, h3⟩ := goP_true n g.length g [] h (by simp) (fun x hx => absurd hx (by simp))
  exact ⟨h3, h1, h2⟩

/-- The test of a permutation, its bound and its last answer given. -/
def goQ (hi : Int) (fin : Bool) : List Int → List Int → Bool
  | _, [] => fin
  | q, x :: t => if 0 ≤ x ∧ x ≤ hi then (if x ∈ q then false else goQ hi fin (q ++ [x]) t) else false
theorem goQ_goP (n len : Nat) : ∀ (t q : List Int), goQ ((n : Int) - 1) (decide (len = n)) q t = goP n len q t
  | [], q => rfl
  | x :: t, q => by
    unfold goQ goP
    rw [goQ_goP n len t (q ++ [x])]
theorem has_l0 (q : List Int) (hl : q.length ≤ 1048576) (x : Int) : ∀ (d i : Nat), i + d = q.length → Evt (fun K => spec_l25Has.l0 K q x (i : Int)) (decide (x ∈ q.drop i))
  | 0, i, hd => by
    refine Evt.now fun K => ?_
    rw [spec_l25Has.l0, if_neg (by omega), List.drop_of_length_le (by omega)]
    simp
  | d + 1, i, hd => by
    have hi : i < q.length := by omega
    have hd2 : i + 1 + d = q.length := by omega
    have ei : wrap64 ((i : Int) + 1) = ((i + 1 : Nat) : Int) := w64n (i + 1) (by omega)
    have f1 : (i : Int) < (q.length : Int) := Int.ofNat_lt.2 hi
    rw [drop_rd q i hi]
    by_cases c : rd q (i : Int) = x
    · rw [decide_eq_true (by rw [c]; simp)]
      exact Evt.now fun K => by rw [spec_l25Has.l0, if_pos f1, if_pos (Int.natCast_nonneg i), if_pos c]
    · have e : decide (x ∈ rd q (i : Int) :: q.drop (i + 1)) = decide (x ∈ q.drop (i + 1)) := by
        refine decide_eq_decide.2 ?_
        rw [List.mem_cons]
        exact ⟨fun h => h.resolve_left (fun h => c h.symm), .inr⟩
      rw [e]
      exact Evt.step (has_l0 q hl x d (i + 1) hd2) fun K => by rw [spec_l25Has.l0, if_pos f1, if_pos (Int.natCast_nonneg i), if_neg c, ei]
theorem sp_l0 (n : Int) (l : List Int) (hl : l.length ≤ 1048576) : ∀ (d i : Nat), i + d = l.length → Evt (fun K => spec_l05Permutation.l0 K l n (i : Int)) (goQ (wrap64 (n - 1)) ((l.length : Int) == n) (l.take i) (l.drop i))
  | 0, i, hd => by
    refine Evt.now fun K => ?_
    rw [spec_l05Permutation.l0, if_neg (by omega), List.drop_of_length_le (by omega)]
    rfl
  | d + 1, i, hd => by
    have hi : i < l.length := by omega
    have hd2 : i + 1 + d = l.length := by omega
    have ei : wrap64 ((i : Int) + 1) = ((i + 1 : Nat) : Int) := w64n (i + 1) (by omega)
    have f1 : (i : Int) < (l.length : Int) := Int.ofNat_lt.2 hi
    have f2 : (i : Int) ≤ (l.length : Int) := Int.le_of_lt f1
    have hq := has_l0 (l.take i) (by rw [List.length_take]; omega) (rd l (i : Int)) (l.take i).length 0 (Nat.zero_add _)
    rw [List.drop_zero] at hq
    have ih := sp_l0 n l hl d (i + 1) hd2
    rw [List.take_succ_eq_append_getElem hi, ← rd_nat l i hi] at ih
    rw [drop_rd l i hi]
    obtain ⟨x, hx⟩ : ∃ x, x = rd l (i : Int) := ⟨_, rfl⟩
    obtain ⟨hb, hh⟩ : ∃ hb, hb = wrap64 (n - 1) := ⟨_, rfl⟩
    rw [← hx] at hq ih
    rw [← hh] at ih
    rw [← hx, ← hh]
    have hf : ∀ K, spec_l05Permutation.l0 (K + 1) l n (i : Int) = (if 0 ≤ x ∧ x ≤ hb then (spec_l25Has.f K (l.take i) x).bind fun t => if t = true then some false else spec_l05Permutation.l0 K l n ((i + 1 : Nat) : Int) else some false) := by
      intro K
      rw [spec_l05Permutation.l0, if_pos f1, if_pos (Int.natCast_nonneg i), if_pos f2, ← hx, ← hh, ei, Int.toNat_natCast]
      clear hq ih ei hh hx
      unfold spec_l01In.f
      by_cases c0 : x ≥ 0
      · rw [if_pos c0, Option.bind_some]
        by_cases c1 : x ≤ hb
        · rw [if_pos (decide_eq_true c1), if_pos ⟨c0, c1⟩]
        · rw [if_neg (by simpa using c1), if_neg (fun h => c1 h.2)]
      · rw [if_neg c0, Option.bind_some, if_neg (by simp), if_neg (fun h => c0 h.1)]
    unfold goQ
    by_cases c : 0 ≤ x ∧ x ≤ hb
    · rw [if_pos c]
      refine Evt.bind1 (g := fun K => spec_l25Has.f K (l.take i) x) (h := fun K t => if t = true then some false else spec_l05Permutation.l0 K l n ((i + 1 : Nat) : Int)) hq ?_ fun K => by rw [hf, if_pos c]
      by_cases e : x ∈ l.take i
      · rw [if_pos e]
        exact Evt.const fun K => if_pos (decide_eq_true e)
      · rw [if_neg e]
        exact Evt.same ih fun K => if_neg (by simpa using e)
    · rw [if_neg c]
      exact Evt.now fun K => by rw [hf, if_neg c]
def permS (n : Int) (l : List Int) : Bool := goQ (wrap64 (n - 1)) ((l.length : Int) == n) [] l
theorem sp_ev (n : Int) (l : List Int) (hl : l.length ≤ 1048576) : Evt (fun K => spec_l05Permutation.f K l n) (permS n l) := by
  have h := sp_l0 n l hl l.length 0 (Nat.zero_add _)
  rw [List.take_zero, List.drop_zero] at h
  exact h
theorem permS_goP (n : Nat) (hn : n ≤ 8) (l : List Int) : permS (n : Int) l = goP n l.length [] l := by
  unfold permS
  rw [w64 ((n : Int) - 1) (by omega) (by omega), ← goQ_goP]
  congr 1
  rw [show ((l.length : Int) == (n : Int)) = decide ((l.length : Int) = (n : Int)) from rfl]
  exact decide_eq_decide.2 (by omega)
theorem deg_l0 (n : Int) (G : List (List Int)) (hl : G.length ≤ 1048576) (hr : ∀ g ∈ G, g.length ≤ 1048576) : ∀ (d j : Nat), j + d = G.length → Evt (fun K => spec_l05Degree.l0 K n G (j : Int)) ((G.drop j).all (permS n) && decide (1 ≤ n ∧ n ≤ 4))
  | 0, j, hd => by
    refine Evt.now fun K => ?_
    rw [spec_l05Degree.l0, if_neg (by omega), List.drop_of_length_le (by omega), List.all_nil, Bool.true_and]
    unfold spec_l01In.f
    by_cases c : n ≥ 1
    · rw [if_pos c, Option.bind_some]
      exact congrArg some (decide_eq_decide.2 ⟨fun h => ⟨c, h⟩, fun h => h.2⟩)
    · rw [if_neg c, Option.bind_some, decide_eq_false (fun h : 1 ≤ n ∧ n ≤ 4 => c h.1)]
  | d + 1, j, hd => by
    have hj : j < G.length := by omega
    have hd2 : j + 1 + d = G.length := by omega
    have ej : wrap64 ((j : Int) + 1) = ((j + 1 : Nat) : Int) := w64n (j + 1) (by omega)
    have f1 : (j : Int) < (G.length : Int) := Int.ofNat_lt.2 hj
    have hm := rdL1_mem G j hj
    have h := sp_ev n (rd_L1 G (j : Int)) (hr _ hm)
    rw [drop_rdL1 G j hj, List.all_cons]
    refine Evt.bind1 (h := fun K t => if t = true then spec_l05Degree.l0 K n G ((j + 1 : Nat) : Int) else some false) h ?_ fun K => by rw [spec_l05Degree.l0, if_pos f1, if_pos (Int.natCast_nonneg j), ej]
    by_cases c : permS n (rd_L1 G (j : Int)) = true
    · rw [c, Bool.true_and]
      exact Evt.same (deg_l0 n G hl hr d (j + 1) hd2) fun K => if_pos rfl
    · rw [Bool.not_eq_true] at c
      rw [c, Bool.false_and, Bool.false_and]
      exact Evt.const fun K => if_neg (by simp)
theorem deg_ev (n : Int) (G : List (List Int)) (hl : G.length ≤ 1048576) (hr : ∀ g ∈ G, g.length ≤ 1048576) : Evt (fun K => spec_l05Degree.f K n G) (G.all (permS n) && decide (1 ≤ n ∧ n ≤ 4)) := by
  have h := deg_l0 n G hl hr G.length 0 (Nat.zero_add _)
  rw [List.drop_zero] at h
  exact h

/-- The search that both do: the numbers found, the pairs of the tree. -/
def cS (G : List (List Int)) (i g : Nat) (s : List Int × List (Nat × Nat)) : List Int × List (Nat × Nat) :=
  if rd (rd_L1 G (g : Int)) (rd s.1 (i : Int)) ∈ s.1 then s else (s.1 ++ [rd (rd_L1 G (g : Int)) (rd s.1 (i : Int))], s.2 ++ [((rd s.1 (i : Int)).toNat, g)])
def cIn (G : List (List Int)) (i : Nat) : Nat → Nat → List Int × List (Nat × Nat) → List Int × List (Nat × Nat)
  | 0, _, s => s
  | d + 1, g, s => cIn G i d (g + 1) (cS G i g s)
def cOut (G : List (List Int)) : Nat → Nat → List Int × List (Nat × Nat) → List Int × List (Nat × Nat)
  | 0, _, s => s
  | d + 1, i, s => if i < s.1.length then cOut G d (i + 1) (cIn G i G.length 0 s) else s
def okS (n m : Nat) (s : List Int × List (Nat × Nat)) : Prop := s.1.Nodup ∧ InN n s.1 ∧ ∀ p ∈ s.2, p.1 < n ∧ p.2 < m
theorem cS_ok {n : Nat} {G : List (List Int)} (hG : ∀ g ∈ G, PermN n g) {i g : Nat} {s : List Int × List (Nat × Nat)} (h : okS n G.length s) (hi : i < s.1.length) (hg : g < G.length) : okS n G.length (cS G i g s) ∧ s.1.length ≤ (cS G i g s).1.length := by
  have hx := h.2.1 _ (rd_mem s.1 i hi)
  have hy := (hG _ (rdL1_mem G g hg)).at hx.1 hx.2
  unfold cS
  by_cases c : rd (rd_L1 G (g : Int)) (rd s.1 (i : Int)) ∈ s.1
  · rw [if_pos c]
    exact ⟨h, Nat.le_refl _⟩
  · rw [if_neg c]
    refine ⟨⟨?_, fun x hx => ?_, fun p hp => ?_⟩, by simp⟩
    · refine List.nodup_append.2 ⟨h.1, List.nodup_cons.2 ⟨by simp, List.nodup_nil⟩, fun a ha b hb => ?_⟩
      rw [List.mem_singleton.1 hb]
      exact fun e => c (e ▸ ha)
    · rcases List.mem_append.1 hx with h1 | h1
      · exact h.2.1 x h1
      · rw [List.mem_singleton.1 h1]
        exact hy
    · rcases List.mem_append.1 hp with h1 | h1
      · exact h.2.2 p h1
      · rw [List.mem_singleton.1 h1]
        exact ⟨by show (rd s.1 (i : Int)).toNat < n; omega, hg⟩
theorem cIn_ok {n : Nat} {G : List (List Int)} (hG : ∀ g ∈ G, PermN n g) {i : Nat} : ∀ (d g : Nat) (s : List Int × List (Nat × Nat)), okS n G.length s → i < s.1.length → g + d ≤ G.length → okS n G.length (cIn G i d g s) ∧ s.1.length ≤ (cIn G i d g s).1.length
  | 0, _, s, h, _, _ => ⟨h, Nat.le_refl _⟩
  | d + 1, g, s, h, hi, hd => by
    have h1 := cS_ok hG h hi (show g < G.length by omega)
    have h2 := cIn_ok hG (i := i) d (g + 1) (cS G i g s) h1.1 (Nat.lt_of_lt_of_le hi h1.2) (by omega)
    exact ⟨h2.1, Nat.le_trans h1.2 h2.2⟩
/-- The impl's rows of a tree: 0 at a pair of the tree, -1 elsewhere. -/
def Lof (n m : Nat) (T : List (Nat × Nat)) : List (List Int) := (List.range n).map fun x => (List.range m).map fun g => if (x, g) ∈ T then (0 : Int) else -1
theorem Lof_row {n m : Nat} {T : List (Nat × Nat)} {x : Nat} (hx : x < n) : (Lof n m T).getD x [] = (List.range m).map fun g => if (x, g) ∈ T then (0 : Int) else -1 := by
  unfold Lof
  rw [List.getD_eq_getElem?_getD, List.getElem?_map, List.getElem?_range hx]
  rfl
theorem Lof_set {n m : Nat} (T : List (Nat × Nat)) {x g : Nat} (hx : x < n) (hg : g < m) : (Lof n m T).set x (((Lof n m T).getD x []).set g 0) = Lof n m (T ++ [(x, g)]) := by
  rw [Lof_row hx]
  apply List.ext_getElem
  · simp [Lof]
  · intro j h1 h2
    have hj : j < n := by simpa [Lof] using h2
    rw [List.getElem_set]
    by_cases e : x = j
    · rw [if_pos e]
      subst e
      apply List.ext_getElem
      · simp [Lof]
      · intro q h3 h4
        have hq : q < m := by simpa [Lof] using h4
        rw [List.getElem_set]
        by_cases e2 : g = q
        · rw [if_pos e2]
          subst e2
          simp [Lof]
        · rw [if_neg e2]
          have : ¬ q = g := fun h => e2 h.symm
          simp [Lof, this]
    · rw [if_neg e]
      have : ¬ j = x := fun h => e h.symm
      simp [Lof, this]
theorem has_ev (q : List Int) (hl : q.length ≤ 1048576) (x : Int) : Evt (fun K => spec_l25Has.f K q x) (decide (x ∈ q)) := has_l0 q hl x q.length 0 (by omega)
theorem idxF_neg : ∀ (t : List Int) (y : Int) (i : Nat), y ∉ t → idxF t y i = -1
  | [], _, _, _ => rfl
  | x :: t, y, i, h => by
    unfold idxF
    rw [if_neg (fun e => h (by rw [e]; simp)), idxF_neg t y (i + 1) (fun h' => h (List.mem_cons_of_mem _ h'))]
theorem contains_ev (q : List Int) (hl : q.length ≤ 1048576) (y : Int) : Evt (fun K => slices_Contains_int64_int64.f K q y) (decide (y ∈ q)) := by
  have h := index_l0 y q hl q.length 0 (by omega)
  rw [List.drop_zero] at h
  refine Evt.bind h (h := fun _ t => some (decide (t ≥ 0))) (Evt.const fun K => ?_) fun K => rfl
  congr 1
  refine decide_eq_decide.2 ?_
  by_cases c : y ∈ q
  · obtain ⟨m, _, h2, _⟩ := idxF_at q y 0 c
    rw [h2]
    exact ⟨fun _ => c, fun _ => by omega⟩
  · rw [idxF_neg q y 0 c]
    exact ⟨fun h => by omega, fun h => absurd h c⟩
theorem plS_ev {n : Nat} (hn : n ≤ 8) {G : List (List Int)} (hG : ∀ g ∈ G, PermN n g) {i g : Nat} {s : List Int × List (Nat × Nat)} (h : okS n G.length s) (hi : i < s.1.length) (hg : g < G.length) :
    Evt (fun K => plS K G i g (s.1, Lof n G.length s.2)) ((cS G i g s).1, Lof n G.length (cS G i g s).2) := by
  have hlen := short_of h.1 h.2.1
  have hx := h.2.1 _ (rd_mem s.1 i hi)
  have hr : G.getD g [] = rd_L1 G (g : Int) := by simp [rd_L1]
  refine Evt.bind (contains_ev s.1 (by omega) (rd (rd_L1 G (g : Int)) (rd s.1 (i : Int)))) (h := fun _ b => if b = true then some (s.1, Lof n G.length s.2) else if s.1.length ≤ 1000000 then some (s.1 ++ [rd (rd_L1 G (g : Int)) (rd s.1 (i : Int))], (Lof n G.length s.2).set (rd s.1 (i : Int)).toNat (((Lof n G.length s.2).getD (rd s.1 (i : Int)).toNat []).set g 0)) else none) (Evt.const fun K => ?_) fun K => by simp only [plS, hr]
  unfold cS
  by_cases c : rd (rd_L1 G (g : Int)) (rd s.1 (i : Int)) ∈ s.1
  · rw [if_pos (decide_eq_true c), if_pos c]
  · rw [if_neg (by simpa using c), if_neg c, if_pos (by omega), Lof_set s.2 (by omega) hg]
theorem plIn_ev {n : Nat} (hn : n ≤ 8) {G : List (List Int)} (hG : ∀ g ∈ G, PermN n g) {i : Nat} : ∀ (d g : Nat) (s : List Int × List (Nat × Nat)), okS n G.length s → i < s.1.length → g + d ≤ G.length →
    Evt (fun K => plIn K G i d g (s.1, Lof n G.length s.2)) ((cIn G i d g s).1, Lof n G.length (cIn G i d g s).2)
  | 0, _, s, _, _, _ => Evt.const fun K => rfl
  | d + 1, g, s, h, hi, hd => by
    have h1 := cS_ok hG h hi (show g < G.length by omega)
    exact Evt.bind (plS_ev hn hG h hi (show g < G.length by omega)) (h := fun K s' => plIn K G i d (g + 1) s') (plIn_ev hn hG d (g + 1) (cS G i g s) h1.1 (Nat.lt_of_lt_of_le hi h1.2) (by omega)) fun K => rfl
theorem plOut_ev {n : Nat} (hn : n ≤ 8) {G : List (List Int)} (hG : ∀ g ∈ G, PermN n g) : ∀ (d i : Nat) (s : List Int × List (Nat × Nat)), okS n G.length s → i ≤ s.1.length → n < i + d →
    ∃ c, ∀ K, c ≤ K → ∀ D, d ≤ D → plOut K G D i (s.1, Lof n G.length s.2) = some ((cOut G d i s).1, Lof n G.length (cOut G d i s).2)
  | 0, i, s, h, hi, hd => by have := short_of h.1 h.2.1; omega
  | d + 1, i, s, h, hi, hd => by
    by_cases c : i < s.1.length
    · have h1 := cIn_ok hG (i := i) G.length 0 s h c (by omega)
      obtain ⟨c1, e1⟩ := plIn_ev hn hG (i := i) G.length 0 s h c (by omega)
      obtain ⟨c2, e2⟩ := plOut_ev hn hG d (i + 1) (cIn G i G.length 0 s) h1.1 (by omega) (by omega)
      refine ⟨c1 + c2, fun K hK D hD => ?_⟩
      obtain ⟨D, rfl⟩ : ∃ q, D = q + 1 := ⟨D - 1, by omega⟩
      have e1' := e1 K (by omega)
      simp only at e1'
      rw [plOut, if_pos c, e1', Option.bind_some, e2 K (by omega) D (by omega), cOut, if_pos c]
    · refine ⟨0, fun K hK D hD => ?_⟩
      obtain ⟨D, rfl⟩ : ∃ q, D = q + 1 := ⟨D - 1, by omega⟩
      rw [plOut, if_neg c, cOut, if_neg c]

/-- The reference's flags of a tree. -/
def Fof (n m : Nat) (T : List (Nat × Nat)) : List Bool := (List.range (n * m)).map fun q => decide ((q / m, q % m) ∈ T)
theorem Fof_len (n m : Nat) (T : List (Nat × Nat)) : (Fof n m T).length = n * m := by simp [Fof]
theorem place {n m x g : Nat} (hx : x < n) (hg : g < m) : x * m + g < n * m ∧ (x * m + g) / m = x ∧ (x * m + g) % m = g := by
  have h0 : 0 < m := by omega
  have h1 : (x + 1) * m ≤ n * m := Nat.mul_le_mul_right m (by omega)
  rw [Nat.add_mul, Nat.one_mul] at h1
  refine ⟨by omega, ?_, ?_⟩
  · rw [Nat.mul_comm x m, Nat.mul_add_div h0, Nat.div_eq_of_lt hg, Nat.add_zero]
  · rw [Nat.mul_comm x m, Nat.mul_add_mod, Nat.mod_eq_of_lt hg]
theorem Fof_at {n m : Nat} (T : List (Nat × Nat)) {x g : Nat} (hx : x < n) (hg : g < m) : rdOf false (Fof n m T) ((x * m + g : Nat) : Int) = decide ((x, g) ∈ T) := by
  obtain ⟨h1, h2, h3⟩ := place hx hg
  unfold rdOf Fof
  rw [Int.toNat_natCast, List.getD_eq_getElem?_getD, List.getElem?_map, List.getElem?_range h1, Option.map_some, h2, h3]
  rfl
theorem Fof_set {n m : Nat} (T : List (Nat × Nat)) {x g : Nat} (hx : x < n) (hg : g < m) : (Fof n m T).set (x * m + g) true = Fof n m (T ++ [(x, g)]) := by
  obtain ⟨h1, h2, h3⟩ := place hx hg
  apply List.ext_getElem
  · simp [Fof]
  · intro q h4 h5
    rw [List.getElem_set]
    by_cases e : x * m + g = q
    · rw [if_pos e]
      subst e
      simp [Fof, h2, h3]
    · rw [if_neg e]
      have : ¬ (q / m = x ∧ q % m = g) := fun h => e (by rw [← h.1, ← h.2, Nat.mul_comm]; exact Nat.div_add_mod q m)
      simp only [Fof, List.getElem_map, List.getElem_range, List.mem_append, List.mem_singleton, Prod.mk.injEq, this, or_false]
theorem flat_ix (x g m : Nat) (hx : x ≤ 8) (hm : m ≤ 1000) (hg : g < m) : wrap64 (wrap64 ((x : Int) * (m : Int)) + (g : Int)) = ((x * m + g : Nat) : Int) := by
  have hb : x * m ≤ 8 * 1000 := Nat.mul_le_mul hx hm
  have e1 : wrap64 ((x : Int) * (m : Int)) = ((x * m : Nat) : Int) := by
    rw [← Int.natCast_mul]
    exact w64n (x * m) (by omega)
  rw [e1, ← Int.natCast_add]
  exact w64n (x * m + g) (by omega)
theorem names_l1 {n : Nat} (hn : n ≤ 8) {G : List (List Int)} (hG : ∀ g ∈ G, PermN n g) (hm : G.length ≤ 1000) {i : Nat} (r : List (List Int) × Int) : ∀ (d g : Nat) (s : List Int × List (Nat × Nat)), okS n G.length s → i < s.1.length → g + d = G.length →
    Evt (fun K => spec_l05Names.l0 K (n : Int) G (Fof n G.length (cIn G i d g s).2) (cIn G i d g s).1 ((i + 1 : Nat) : Int)) r → Evt (fun K => spec_l05Names.l1 K (n : Int) G (Fof n G.length s.2) s.1 (i : Int) (g : Int)) r
  | 0, g, s, h, hi, hd, ih => by
    have hlen := short_of h.1 h.2.1
    have ei : wrap64 ((i : Int) + 1) = ((i + 1 : Nat) : Int) := w64n (i + 1) (by omega)
    refine Evt.step ih fun K => ?_
    rw [spec_l05Names.l1, if_neg (by omega), ei]
    rfl
  | d + 1, g, s, h, hi, hd, ih => by
    have hlen := short_of h.1 h.2.1
    have hg : g < G.length := by omega
    have hx := h.2.1 _ (rd_mem s.1 i hi)
    have h1 := cS_ok hG h hi hg
    have ih2 := names_l1 hn hG hm r d (g + 1) (cS G i g s) h1.1 (by omega) (by omega) ih
    have hrow := (hG _ (rdL1_mem G g hg)).1
    obtain ⟨x, hxe⟩ : ∃ x : Nat, rd s.1 (i : Int) = x := ⟨(rd s.1 (i : Int)).toNat, by omega⟩
    have hxn : x < n := by omega
    have ei : wrap64 ((g : Int) + 1) = ((g + 1 : Nat) : Int) := w64n (g + 1) (by omega)
    have ex : wrap64 (wrap64 ((x : Int) * (G.length : Int)) + (g : Int)) = ((x * G.length + g : Nat) : Int) := flat_ix x g G.length (by omega) hm hg
    obtain ⟨p1, _, _⟩ := place hxn hg
    have hset := Fof_set s.2 hxn hg
    refine Evt.bind1 (has_ev s.1 (by omega) (rd (rd_L1 G (g : Int)) (rd s.1 (i : Int)))) (h := fun K t198 => if t198 = true then (spec_l05Names.l1 K (n : Int) G (Fof n G.length s.2) s.1 (i : Int) (wrap64 ((g : Int) + 1))) else (if s.1.length < 17592186044416 then ((some (s.1 ++ [rd (rd_L1 G (g : Int)) (rd s.1 (i : Int))] : List Int)).bind fun y199 => (if (i : Int) < (y199.length : Int) then (if 0 ≤ (wrap64 ((wrap64 ((rd y199 (i : Int)) * (G.length : Int))) + (g : Int))) then (if (wrap64 ((wrap64 ((rd y199 (i : Int)) * (G.length : Int))) + (g : Int))) < ((Fof n G.length s.2).length : Int) then (spec_l05Names.l1 K (n : Int) G ((Fof n G.length s.2).set ((wrap64 ((wrap64 ((rd y199 (i : Int)) * (G.length : Int))) + (g : Int))) : Int).toNat true) y199 (i : Int) (wrap64 ((g : Int) + 1))) else (none)) else (none)) else (none))) else (none))) ?_ fun K => ?_
    · refine Evt.same ih2 fun K => ?_
      unfold cS
      by_cases c : rd (rd_L1 G (g : Int)) (rd s.1 (i : Int)) ∈ s.1
      · rw [if_pos (decide_eq_true c), if_pos c, ei]
      · rw [if_neg (by simpa using c), if_neg c, if_pos (by omega), Option.bind_some, if_pos (by rw [List.length_append]; simp only [List.length_singleton]; omega), rd_app s.1 _ i hi, hxe, ex, if_pos (Int.natCast_nonneg _), if_pos (by rw [Fof_len]; exact Int.ofNat_lt.2 p1), Int.toNat_natCast, Int.toNat_natCast, hset, ei]
    · rw [spec_l05Names.l1, if_pos (by omega), if_pos (Int.natCast_nonneg g), if_pos (Int.natCast_nonneg i), if_pos (by omega), if_pos hx.1, if_pos (by rw [hrow]; exact hx.2)]
theorem names_l0 {n : Nat} (hn : n ≤ 8) {G : List (List Int)} (hG : ∀ g ∈ G, PermN n g) (hm : G.length ≤ 1000) (r : List (List Int) × Int) : ∀ (d i : Nat) (s : List Int × List (Nat × Nat)), okS n G.length s → i ≤ s.1.length → n < i + d →
    Evt (fun K => spec_l05Names.l2 K (n : Int) G (Fof n G.length (cOut G d i s).2) [] 0 0) r → Evt (fun K => spec_l05Names.l0 K (n : Int) G (Fof n G.length s.2) s.1 (i : Int)) r
  | 0, i, s, h, hi, hd, _ => by have := short_of h.1 h.2.1; omega
  | d + 1, i, s, h, hi, hd, ih => by
    rw [cOut] at ih
    by_cases c : i < s.1.length
    · rw [if_pos c] at ih
      have h1 := cIn_ok hG (i := i) G.length 0 s h c (by omega)
      have h2 := names_l0 hn hG hm r d (i + 1) (cIn G i G.length 0 s) h1.1 (by omega) (by omega) ih
      refine Evt.step (names_l1 hn hG hm r G.length 0 s h c (by omega) h2) fun K => ?_
      rw [spec_l05Names.l0, if_pos (by omega)]
      rfl
    · rw [if_neg c] at ih
      refine Evt.step ih fun K => ?_
      rw [spec_l05Names.l0, if_neg (by omega)]

/-- One row of the impl's. -/
def Rw (m : Nat) (T : List (Nat × Nat)) (x : Nat) : List Int := (List.range m).map fun g => if (x, g) ∈ T then (0 : Int) else -1
theorem Rw_drop {m : Nat} (T : List (Nat × Nat)) (x : Nat) {g : Nat} (hg : g < m) : (Rw m T x).drop g = (if (x, g) ∈ T then (0 : Int) else -1) :: (Rw m T x).drop (g + 1) := by
  rw [List.drop_eq_getElem_cons (by simpa [Rw] using hg)]
  simp [Rw]
theorem Lof_drop {n m : Nat} (T : List (Nat × Nat)) {x : Nat} (hx : x < n) : (Lof n m T).drop x = Rw m T x :: (Lof n m T).drop (x + 1) := by
  rw [List.drop_eq_getElem_cons (by simpa [Lof] using hx)]
  simp [Lof, Rw]
theorem plCnt_le : ∀ (l : List Int) (c : Int), c ≤ (plCnt l c).2 ∧ (plCnt l c).2 ≤ c + l.length ∧ (plCnt l c).1.length = l.length ∧ ∀ y ∈ (plCnt l c).1, y = 0 ∨ c < y ∧ y ≤ (plCnt l c).2
  | [], c => ⟨Int.le_refl _, by simp [plCnt], rfl, fun y hy => by cases hy⟩
  | z :: l, c => by
    rw [plCnt]
    by_cases h : z = 0
    · rw [if_pos h]
      have ih := plCnt_le l c
      refine ⟨ih.1, by simp only [List.length_cons]; omega, by simp [ih.2.2.1], fun y hy => ?_⟩
      rcases List.mem_cons.1 hy with e | e
      · exact .inl e
      · exact ih.2.2.2 y e
    · rw [if_neg h]
      have ih := plCnt_le l (c + 1)
      refine ⟨by simp only; omega, by simp only [List.length_cons]; omega, by simp [ih.2.2.1], fun y hy => ?_⟩
      rcases List.mem_cons.1 hy with e | e
      · exact .inr ⟨by omega, by simp only; omega⟩
      · rcases ih.2.2.2 y e with h0 | h0
        · exact .inl h0
        · exact .inr ⟨by omega, h0.2⟩
theorem names_l3 {n : Nat} (hn : n ≤ 8) {G : List (List Int)} (hm : G.length ≤ 1000) (T : List (Nat × Nat)) (out : List (List Int)) (hout : out.length ≤ 1000) {x : Nat} (hx : x < n) (r : List (List Int) × Int) : ∀ (d g : Nat) (row : List Int) (c : Int), g + d = G.length → row.length = g → 0 ≤ c → c + d ≤ 20000 →
    Evt (fun K => spec_l05Names.l2 K (n : Int) G (Fof n G.length T) (out ++ [row ++ (plCnt ((Rw G.length T x).drop g) c).1]) (plCnt ((Rw G.length T x).drop g) c).2 ((x + 1 : Nat) : Int)) r → Evt (fun K => spec_l05Names.l3 K (n : Int) G (Fof n G.length T) out c (x : Int) row (g : Int)) r
  | 0, g, row, c, hd, hr, h0, h1, ih => by
    have hgg : ¬ (g : Int) < (G.length : Int) := by omega
    have hol : out.length < 5864062014805 := Nat.lt_of_le_of_lt hout (by decide)
    have ei : wrap64 ((x : Int) + 1) = ((x + 1 : Nat) : Int) := w64n (x + 1) (Nat.le_trans (show x + 1 ≤ 8 by omega) (by decide))
    rw [List.drop_of_length_le (by simp [Rw]; omega), plCnt, List.append_nil] at ih
    refine Evt.step ih fun K => ?_
    rw [spec_l05Names.l3, if_neg hgg, if_pos hol, ei]
  | d + 1, g, row, c, hd, hr, h0, h1, ih => by
    have hg : g < G.length := by omega
    have hrl : row.length < 17592186044416 := Nat.lt_of_le_of_lt (show row.length ≤ 1000 by omega) (by decide)
    obtain ⟨p1, _, _⟩ := place hx hg
    have hp : ((x * G.length + g : Nat) : Int) < ((Fof n G.length T).length : Int) := by rw [Fof_len]; exact Int.ofNat_lt.2 p1
    have hgi : (g : Int) < (G.length : Int) := Int.ofNat_lt.2 hg
    have a1 : g + 1 + d = G.length := by omega
    have a2 : 0 ≤ c + 1 := by omega
    have a3 : c + 1 + d ≤ 20000 := by omega
    have a4 : c + d ≤ 20000 := by omega
    have ec : wrap64 (c + 1) = c + 1 := w64 _ (by omega) (by omega)
    have ei : wrap64 ((g : Int) + 1) = ((g + 1 : Nat) : Int) := w64n (g + 1) (Nat.le_trans (show g + 1 ≤ 1000 from Nat.le_trans hg hm) (by decide))
    have ex := flat_ix x g G.length (Nat.le_trans (Nat.le_of_lt hx) hn) hm hg
    rw [Rw_drop T x hg] at ih
    by_cases ht : (x, g) ∈ T
    · rw [if_pos ht, plCnt, if_pos rfl] at ih
      have ih2 := names_l3 hn hm T out hout hx r d (g + 1) (row ++ [0]) c a1 (by simp [hr]) h0 a4 (by rw [List.append_assoc]; exact ih)
      refine Evt.step ih2 fun K => ?_
      rw [spec_l05Names.l3, if_pos hgi, ex, if_pos (Int.natCast_nonneg _), if_pos hp, Fof_at T hx hg, if_pos (decide_eq_true ht), if_pos hrl, ei]
    · rw [if_neg ht, plCnt, if_neg (by decide)] at ih
      have ih2 := names_l3 hn hm T out hout hx r d (g + 1) (row ++ [c + 1]) (c + 1) a1 (by simp [hr]) a2 a3 (by rw [List.append_assoc]; exact ih)
      refine Evt.step ih2 fun K => ?_
      rw [spec_l05Names.l3, if_pos hgi, ex, if_pos (Int.natCast_nonneg _), if_pos hp, Fof_at T hx hg, if_neg (by simpa using ht), if_pos hrl, ei, ec]
theorem names_l2 {n : Nat} (hn : n ≤ 8) {G : List (List Int)} (hm : G.length ≤ 1000) (T : List (Nat × Nat)) : ∀ (d x : Nat) (out : List (List Int)) (c : Int), x + d = n → out.length = x → 0 ≤ c → c + (d * 1000 : Nat) ≤ 10000 →
    Evt (fun K => spec_l05Names.l2 K (n : Int) G (Fof n G.length T) out c (x : Int)) (out ++ (plAll ((Lof n G.length T).drop x) c).1, (plAll ((Lof n G.length T).drop x) c).2)
  | 0, x, out, c, hd, ho, h0, h1 => by
    rw [List.drop_of_length_le (by simp [Lof]; omega), plAll, List.append_nil]
    refine Evt.now fun K => ?_
    rw [spec_l05Names.l2, if_neg (by omega)]
  | d + 1, x, out, c, hd, ho, h0, h1 => by
    have hx : x < n := by omega
    have hb := plCnt_le (Rw G.length T x) c
    have hrl : (Rw G.length T x).length = G.length := by simp [Rw]
    rw [hrl] at hb
    have ih := names_l2 hn hm T d (x + 1) (out ++ [(plCnt (Rw G.length T x) c).1]) (plCnt (Rw G.length T x) c).2 (by omega) (by simp [ho]) (by omega) (by omega)
    rw [Lof_drop T hx, plAll]
    rw [List.append_assoc] at ih
    have h3 := names_l3 hn hm T out (by omega) hx _ G.length 0 [] c (by omega) rfl h0 (by omega) (by rw [List.drop_zero, List.nil_append]; exact ih)
    refine Evt.step h3 fun K => ?_
    rw [spec_l05Names.l2, if_pos (by omega)]
    rfl
theorem pair_both {n : Nat} (h1 : 1 ≤ n) (hn : n ≤ 8) {G : List (List Int)} (hG : ∀ g ∈ G, PermN n g) (hm : G.length ≤ 1000) : ∃ T, Evt (fun K => spec_l05Names.f K (n : Int) G) (plAll (Lof n G.length T) 0) ∧ Evt (fun K => impl_pairLetters.f K (n : Int) G) (plAll (Lof n G.length T) 0) := by
  have hs : okS n G.length ([0], []) := ⟨List.nodup_cons.2 ⟨by simp, List.nodup_nil⟩, fun x hx => by rw [List.mem_singleton.1 hx]; omega, fun p hp => by cases hp⟩
  refine ⟨(cOut G (n + 1) 0 ([0], [])).2, ?_, ?_⟩
  · have h2 := names_l2 hn hm (cOut G (n + 1) 0 ([0], [])).2 n 0 [] 0 (by omega) rfl (by omega) (by omega)
    rw [List.drop_zero, List.nil_append] at h2
    have h3 := names_l0 hn hG hm _ (n + 1) 0 ([0], []) hs (by simp) (by omega) h2
    have hb : n * G.length ≤ 8 * 1000 := Nat.mul_le_mul hn hm
    have e1 : wrap64 ((n : Int) * (G.length : Int)) = ((n * G.length : Nat) : Int) := by
      rw [← Int.natCast_mul]
      exact w64n (n * G.length) (by omega)
    refine Evt.same h3 fun K => ?_
    have e2 : List.replicate (n * G.length) false = Fof n G.length [] := by simp [Fof, List.map_const']
    rw [spec_l05Names.f, e1, if_pos (Int.natCast_nonneg _), Int.toNat_natCast, if_pos (by omega), e2]
    rfl
  · obtain ⟨c, h2⟩ := plOut_ev hn hG (n + 1) 0 ([0], []) hs (by simp) (by omega)
    refine ⟨c + n + 1, fun K hK => ?_⟩
    have hok : plOk (n : Int) G := ⟨by omega, by omega, hm, fun r hr => ⟨by rw [(hG r hr).1], (hG r hr).2.2⟩⟩
    have e2 : List.replicate (n : Int).toNat (List.replicate G.length (-1 : Int)) = Lof n G.length [] := by
      rw [Int.toNat_natCast]
      simp [Lof, List.map_const']
    simp only
    rw [impl_pairLetters.f, if_pos hok, e2, h2 K (by omega) K (by omega), Option.bind_some]

theorem l05Letter_l0 (G : List (List Int)) (j : Nat) (hj : j < G.length) (hl : G.length ≤ 1048576) (y : Int) (hg : (rd_L1 G (j : Int)).length ≤ 1048576) : ∀ (d i : Nat), i + d = (rd_L1 G (j : Int)).length → y ∈ (rd_L1 G (j : Int)).drop i →
    Evt (fun K => spec_l05Letter.l0 K G (-((j + 1 : Nat) : Int)) y (i : Int)) (idxF ((rd_L1 G (j : Int)).drop i) y i)
  | 0, i, hd, hy => by
    rw [List.drop_of_length_le (by omega)] at hy
    exact absurd hy (by simp)
  | d + 1, i, hd, hy => by
    have hi : i < (rd_L1 G (j : Int)).length := by omega
    have hd2 : i + 1 + d = (rd_L1 G (j : Int)).length := by omega
    have ei : wrap64 ((i : Int) + 1) = ((i + 1 : Nat) : Int) := w64n (i + 1) (by omega)
    have f1 : (i : Int) < ((rd_L1 G (j : Int)).length : Int) := Int.ofNat_lt.2 hi
    have e1 := neg_letter j (by omega)
    rw [drop_rd _ i hi] at hy ⊢
    unfold idxF
    by_cases c : rd (rd_L1 G (j : Int)) (i : Int) = y
    · rw [if_pos c]
      exact Evt.now fun K => by rw [spec_l05Letter.l0, e1, if_pos (Int.natCast_nonneg j), if_pos (Int.ofNat_lt.2 hj), if_pos (Int.natCast_nonneg i), if_pos f1, if_pos c]
    · rw [if_neg c]
      have hy2 : y ∈ (rd_L1 G (j : Int)).drop (i + 1) := by
        rcases List.mem_cons.1 hy with e | e
        · exact absurd e.symm c
        · exact e
      exact Evt.step (l05Letter_l0 G j hj hl y hg d (i + 1) hd2 hy2) fun K => by rw [spec_l05Letter.l0, e1, if_pos (Int.natCast_nonneg j), if_pos (Int.ofNat_lt.2 hj), if_pos (Int.natCast_nonneg i), if_pos f1, if_neg c, ei]
theorem l05Letter_ev {n : Nat} (hn : n ≤ 8) {G : List (List Int)} (hG : ∀ g ∈ G, PermN n g) (hl : G.length ≤ 1048576) {a x : Int} (ha : LetterIn G a) (h0 : 0 ≤ x) (h1 : x < n) : Evt (fun K => spec_l05Letter.f K G a x) (actL G a x) := by
  obtain ⟨j, hj, rfl | rfl⟩ := ha.cases
  · have hp := hG _ (rdL1_mem G j hj)
    have e1 := pos_letter j (by omega)
    rw [actL_pos]
    refine Evt.const fun K => ?_
    unfold spec_l05Letter.f
    rw [if_pos (by clear e1; omega), e1, if_pos (Int.natCast_nonneg j), if_pos (Int.ofNat_lt.2 hj), if_pos h0, if_pos (by rw [hp.1]; exact h1)]
  · have hp := hG _ (rdL1_mem G j hj)
    rw [actL_neg]
    have hy := full_of hp.2.1 hp.2.2 (by rw [hp.1]; exact Nat.le_refl _) x h0 h1
    refine Evt.same (l05Letter_l0 G j hj hl x (by rw [hp.1]; exact Nat.le_trans hn (by decide)) _ 0 (Nat.zero_add _) (by rw [List.drop_zero]; exact hy)) fun K => ?_
    unfold spec_l05Letter.f
    rw [if_neg (by omega)]
    rfl
theorem l05Move_l0 {n : Nat} (hn : n ≤ 8) {G : List (List Int)} (hG : ∀ g ∈ G, PermN n g) (hl : G.length ≤ 1048576) (w : List Int) (hw : ∀ a ∈ w, LetterIn G a) (hwl : w.length ≤ 1048576) : ∀ (d i : Nat) (x : Int), i + d = w.length → 0 ≤ x → x < n →
    Evt (fun K => spec_l05Move.l0 K G w x (i : Int)) (actW G (w.drop i) x)
  | 0, i, x, hd, h0, h1 => by
    refine Evt.now fun K => ?_
    rw [spec_l05Move.l0, if_neg (by omega), List.drop_of_length_le (by omega)]
    rfl
  | d + 1, i, x, hd, h0, h1 => by
    have hi : i < w.length := by omega
    have hd2 : i + 1 + d = w.length := by omega
    have ei : wrap64 ((i : Int) + 1) = ((i + 1 : Nat) : Int) := w64n (i + 1) (by omega)
    have f1 : (i : Int) < (w.length : Int) := Int.ofNat_lt.2 hi
    have ha := hw _ (rd_in w (i : Int) (Int.natCast_nonneg i) f1)
    have hx := actL_in hG ha h0 h1
    rw [drop_rd w i hi]
    refine Evt.bind1 (l05Letter_ev hn hG hl ha h0 h1) (h := fun K t => spec_l05Move.l0 K G w t ((i + 1 : Nat) : Int)) (l05Move_l0 hn hG hl w hw hwl d (i + 1) _ hd2 hx.1 hx.2) fun K => ?_
    rw [spec_l05Move.l0, if_pos f1, if_pos (Int.natCast_nonneg i), ei]
theorem l05Move_ev {n : Nat} (hn : n ≤ 8) {G : List (List Int)} (hG : ∀ g ∈ G, PermN n g) (hl : G.length ≤ 1048576) (w : List Int) (hw : ∀ a ∈ w, LetterIn G a) (hwl : w.length ≤ 1048576) (x : Int) (h0 : 0 ≤ x) (h1 : x < n) :
    Evt (fun K => spec_l05Move.f K G w x) (actW G w x) := by
  have h := l05Move_l0 hn hG hl w hw hwl w.length 0 x (Nat.zero_add _) h0 h1
  rw [List.drop_zero] at h
  exact h

/-- One more letter behind a reduced word. -/
def redStep (out : List Int) (x : Int) : List Int :=
  if 0 < out.length ∧ rd out (((out.length - 1 : Nat) : Int)) = wrap64 (-x) then out.take (out.length - 1) else out ++ [x]
def redOf (l : List Int) : List Int := l.foldl redStep []
theorem redStep_length (out : List Int) (x : Int) : (redStep out x).length ≤ out.length + 1 := by
  unfold redStep
  split
  · simp; omega
  · simp
theorem foldl_length : ∀ (l out : List Int), (l.foldl redStep out).length ≤ out.length + l.length
  | [], out => by simp
  | x :: r, out => by
    have h1 := foldl_length r (redStep out x)
    have h2 := redStep_length out x
    simp only [List.foldl_cons, List.length_cons]
    omega
theorem redOf_length (l : List Int) : (redOf l).length ≤ l.length := by
  have := foldl_length l []
  simpa [redOf] using this

theorem specReduce_l0 (l : List Int) (hl : l.length ≤ 1099511627776) : ∀ (d i k : Nat) (out : List Int), i + d = l.length → out.length ≤ i → d < k →
    spec_l04Reduce.l0 k l out (i : Int) = some ((l.drop i).foldl redStep out) := by
  intro d
  induction d with
  | zero =>
    intro i k out hd ho hk
    obtain ⟨k, rfl⟩ := succ_k hk
    simp only [spec_l04Reduce.l0]
    rw [if_neg (by omega), List.drop_of_length_le (by omega)]
    rfl
  | succ d ih =>
    intro i k out hd ho hk
    obtain ⟨k, rfl⟩ := succ_k hk
    have hs := redStep_length out (rd l (i : Int))
    simp only [spec_l04Reduce.l0]
    rw [if_pos (by omega), drop_rd l i (by omega), List.foldl_cons, w64 ((i : Int) + 1) (by omega) (by omega), cast_succ]
    by_cases h0 : 0 < out.length
    · have e1 : wrap64 ((out.length : Int) - 1) = ((out.length - 1 : Nat) : Int) := by rw [w64 _ (by omega) (by omega)]; omega
      rw [if_pos (by omega), e1, if_pos (by omega), if_pos (by omega), if_pos (by omega)]
      by_cases h1 : rd out (((out.length - 1 : Nat) : Int)) = wrap64 (-(rd l (i : Int)))
      · have e2 : redStep out (rd l (i : Int)) = out.take (out.length - 1) := if_pos ⟨h0, h1⟩
        rw [if_pos h1, if_pos (by omega), Int.toNat_natCast, e2, ih (i + 1) k _ (by omega) (by simp; omega) (by omega)]
      · have e2 : redStep out (rd l (i : Int)) = out ++ [rd l (i : Int)] := if_neg fun h => h1 h.2
        rw [if_neg h1, if_pos (by omega), e2, ih (i + 1) k _ (by omega) (by simp; omega) (by omega)]
    · have e2 : redStep out (rd l (i : Int)) = out ++ [rd l (i : Int)] := if_neg fun h => h0 h.1
      rw [if_neg (by omega), if_pos (by omega), if_pos (by omega), e2, ih (i + 1) k _ (by omega) (by simp; omega) (by omega)]
theorem specReduce_eq (l : List Int) (k : Nat) (hl : l.length ≤ 1099511627776) (hk : l.length < k) : spec_l04Reduce.f k l = some (redOf l) := by
  have := specReduce_l0 l hl l.length 0 k [] (by omega) (by simp) hk
  unfold spec_l04Reduce.f redOf
  simpa using this

def nmOf (G N : List (List Int)) (a x : Int) : Int := if 0 < a then rd (rd_L1 N x) (a - 1) else -(rd (rd_L1 N (actL G a x)) (-a - 1))
def rwF (G N : List (List Int)) : List Int → Int → List Int
  | [], _ => []
  | a :: w, x => (if nmOf G N a x = 0 then [] else [nmOf G N a x]) ++ rwF G N w (actL G a x)
def okN (n m : Nat) (N : List (List Int)) : Prop := N.length = n ∧ ∀ r ∈ N, r.length = m ∧ ∀ y ∈ r, 0 ≤ y ∧ y ≤ 20000
theorem okN_at {n m : Nat} {N : List (List Int)} (h : okN n m N) {x j : Nat} (hx : x < n) (hj : j < m) : (rd_L1 N (x : Int)).length = m ∧ 0 ≤ rd (rd_L1 N (x : Int)) (j : Int) ∧ rd (rd_L1 N (x : Int)) (j : Int) ≤ 20000 := by
  have h1 := h.2 _ (rdL1_mem N x (by rw [h.1]; exact hx))
  exact ⟨h1.1, h1.2 _ (rd_mem _ j (by rw [h1.1]; exact hj))⟩
theorem neg_small (v : Int) (h0 : 0 ≤ v) (h1 : v ≤ 20000) : wrap64 (-v) = -v := w64 _ (by omega) (by omega)
theorem hneg (j : Nat) : ¬ -((j + 1 : Nat) : Int) > 0 := by omega
theorem rew_l0 {n : Nat} (hn : n ≤ 8) {G N : List (List Int)} (hG : ∀ g ∈ G, PermN n g) (hm : G.length ≤ 1000) (hN : okN n G.length N) (w : List Int) (hw : ∀ a ∈ w, LetterIn G a) (hwl : w.length ≤ 1000) : ∀ (d i : Nat) (x : Nat) (acc : List Int), i + d = w.length → x < n → acc.length ≤ i →
    Evt (fun K => spec_l05Rewrite.l0 K G N w (x : Int) acc (i : Int)) (redOf (acc ++ rwF G N (w.drop i) (x : Int)))
  | 0, i, x, acc, hd, hx, ha => by
    have hi : ¬ (i : Int) < (w.length : Int) := by omega
    rw [List.drop_of_length_le (by omega), rwF, List.append_nil]
    refine Evt.bind1 (⟨acc.length + 1, fun K hK => specReduce_eq acc K (Nat.le_trans (show acc.length ≤ 1000 by omega) (by decide)) (by omega)⟩ : Evt (fun K => spec_l04Reduce.f K acc) (redOf acc)) (h := fun _ t => some t) (Evt.const fun K => rfl) fun K => ?_
    rw [spec_l05Rewrite.l0, if_neg hi]
  | d + 1, i, x, acc, hd, hx, ha => by
    have hi : i < w.length := by omega
    have hiz : (i : Int) < (w.length : Int) := Int.ofNat_lt.2 hi
    have hL := hw _ (rd_mem w i hi)
    have hy := actL_in hG hL (show (0 : Int) ≤ (x : Int) by omega) (show (x : Int) < n by omega)
    obtain ⟨y, hye⟩ : ∃ y : Nat, actL G (rd w (i : Int)) (x : Int) = y := ⟨(actL G (rd w (i : Int)) (x : Int)).toNat, by omega⟩
    have hyn : y < n := by omega
    obtain ⟨c, hc⟩ := l05Letter_ev hn hG (Nat.le_trans hm (by decide)) hL (show (0 : Int) ≤ (x : Int) by omega) (show (x : Int) < n by omega)
    have hal : acc.length < 17592186044416 := Nat.lt_of_le_of_lt (show acc.length ≤ 1000 by omega) (by decide)
    rw [drop_rd w i hi, rwF, ← List.append_assoc, hye]
    rw [hye] at hc
    obtain ⟨c2, h2⟩ := rew_l0 hn hG hm hN w hw hwl d (i + 1) y (acc ++ (if nmOf G N (rd w (i : Int)) (x : Int) = 0 then [] else [nmOf G N (rd w (i : Int)) (x : Int)])) (by omega) hyn (by split <;> simp <;> omega)
    refine ⟨c + c2 + 1, fun K hK => ?_⟩
    obtain ⟨K, rfl⟩ : ∃ q, K = q + 1 := ⟨K - 1, by omega⟩
    have e1 : spec_l05Letter.f K G (rd w (i : Int)) (x : Int) = some (y : Int) := hc K (by omega)
    have e2 := h2 K (by omega)
    simp only at e2 ⊢
    have hxl : (x : Int) < (N.length : Int) := by rw [hN.1]; omega
    have hyl : (y : Int) < (N.length : Int) := by rw [hN.1]; omega
    have ei : wrap64 ((i : Int) + 1) = ((i + 1 : Nat) : Int) := w64n (i + 1) (Nat.le_trans (show i + 1 ≤ 1000 by omega) (by decide))
    rw [spec_l05Rewrite.l0, if_pos hiz, if_pos (Int.natCast_nonneg i), e1, Option.bind_some]
    obtain ⟨j, hj, hj2⟩ := hL.cases
    rcases hj2 with hj2 | hj2
    · have o := okN_at hN hx hj
      have en : nmOf G N (rd w (i : Int)) (x : Int) = rd (rd_L1 N (x : Int)) (j : Int) := by
        unfold nmOf
        rw [hj2, if_pos (by omega), show ((j + 1 : Nat) : Int) - 1 = (j : Int) by omega]
      rw [en] at e2 ⊢
      have ep := pos_letter j (Nat.le_trans (Nat.le_of_lt (Nat.lt_of_lt_of_le hj hm)) (by decide))
      rw [hj2, if_pos (show ((j + 1 : Nat) : Int) > 0 from Int.natCast_pos.2 (Nat.succ_pos j)), if_pos (Int.natCast_nonneg x), if_pos hxl, ep, if_pos (Int.natCast_nonneg j), if_pos (by rw [o.1]; exact Int.ofNat_lt.2 hj), ei]
      by_cases z : rd (rd_L1 N (x : Int)) (j : Int) = 0
      · rw [if_pos z]
        rw [if_pos z, List.append_nil] at e2
        rw [e2]
        rw [if_pos z, List.append_nil]
      · rw [if_neg z, if_pos hal]
        rw [if_neg z] at e2
        rw [e2]
        rw [if_neg z]
    · have o := okN_at hN hyn hj
      have en : nmOf G N (rd w (i : Int)) (x : Int) = -(rd (rd_L1 N (y : Int)) (j : Int)) := by
        unfold nmOf
        rw [hye, hj2, if_neg (by omega), show - -((j + 1 : Nat) : Int) - 1 = (j : Int) by omega]
      rw [en] at e2 ⊢
      have ep := neg_letter j (Nat.le_trans (Nat.le_of_lt (Nat.lt_of_lt_of_le hj hm)) (by decide))
      have ew := neg_small _ o.2.1 o.2.2
      rw [hj2, if_neg (hneg j), if_pos (Int.natCast_nonneg y), if_pos hyl, ep, if_pos (Int.natCast_nonneg j), if_pos (by rw [o.1]; exact Int.ofNat_lt.2 hj), ei, ew]
      by_cases z : -(rd (rd_L1 N (y : Int)) (j : Int)) = 0
      · rw [if_pos z]
        rw [if_pos z, List.append_nil] at e2
        rw [e2]
        rw [if_pos z, List.append_nil]
      · rw [if_neg z, if_pos hal]
        rw [if_neg z] at e2
        rw [e2]
        rw [if_neg z]

theorem plAll_ok (m : Nat) : ∀ (L : List (List Int)) (c : Int), 0 ≤ c → (∀ r ∈ L, r.length = m) → c + ((L.length * m : Nat) : Int) ≤ 20000 →
    (plAll L c).1.length = L.length ∧ (∀ r ∈ (plAll L c).1, r.length = m ∧ ∀ y ∈ r, 0 ≤ y ∧ y ≤ 20000) ∧ 0 ≤ (plAll L c).2 ∧ (plAll L c).2 ≤ 20000
  | [], c, h0, _, h1 => ⟨rfl, (fun r hr => absurd hr (by simp [plAll])), h0, by simp at h1; exact h1⟩
  | r :: L, c, h0, hr, h1 => by
    have hb := plCnt_le r c
    have hrl := hr r (List.mem_cons_self ..)
    have hmul : (r :: L).length * m = L.length * m + m := by rw [List.length_cons, Nat.add_mul, Nat.one_mul]
    rw [hmul] at h1
    have ih := plAll_ok m L (plCnt r c).2 (by omega) (fun q hq => hr q (List.mem_cons_of_mem _ hq)) (by omega)
    rw [plAll]
    refine ⟨by simp [ih.1], fun q hq => ?_, ih.2.2⟩
    rcases List.mem_cons.1 hq with e | e
    · subst e
      refine ⟨by rw [hb.2.2.1, hrl], fun y hy => ?_⟩
      rcases hb.2.2.2 y hy with h | h
      · omega
      · omega
    · exact ih.2.1 q e
theorem pair_ok {n m : Nat} (hn : n ≤ 8) (hm : m ≤ 1000) (T : List (Nat × Nat)) : okN n m (plAll (Lof n m T) 0).1 ∧ 0 ≤ (plAll (Lof n m T) 0).2 ∧ (plAll (Lof n m T) 0).2 ≤ 20000 := by
  have hl : (Lof n m T).length = n := by simp [Lof]
  have hb : n * m ≤ 8 * 1000 := Nat.mul_le_mul hn hm
  have h := plAll_ok m (Lof n m T) 0 (by omega) (fun r hr => by
    unfold Lof at hr
    obtain ⟨x, _, rfl⟩ := List.mem_map.1 hr
    simp) (by rw [hl]; omega)
  exact ⟨⟨by rw [h.1, hl], h.2.1⟩, h.2.2⟩

theorem implReduced_l0 (l : List Int) (hl : l.length ≤ 1099511627776) : ∀ (d i k : Nat) (out : List Int), i + d = l.length → out.length ≤ i → d < k →
    impl_reduced.l0 k out l (l.length : Int) (i : Int) = some ((l.drop i).foldl redStep out) := by
  intro d
  induction d with
  | zero =>
    intro i k out hd ho hk
    obtain ⟨k, rfl⟩ := succ_k hk
    simp only [impl_reduced.l0]
    rw [if_neg (by omega), List.drop_of_length_le (by omega)]
    rfl
  | succ d ih =>
    intro i k out hd ho hk
    obtain ⟨k, rfl⟩ := succ_k hk
    have hs := redStep_length out (rd l (i : Int))
    simp only [impl_reduced.l0]
    rw [if_pos (by omega), if_pos (by omega), if_pos (by omega), drop_rd l i (by omega), List.foldl_cons, w64 ((i : Int) + 1) (by omega) (by omega), cast_succ]
    by_cases h0 : 0 < out.length
    · have e1 : wrap64 ((out.length : Int) - 1) = ((out.length - 1 : Nat) : Int) := by rw [w64 _ (by omega) (by omega)]; omega
      rw [if_pos (by omega), e1, if_pos (by omega), if_pos (by omega)]
      by_cases h1 : rd out (((out.length - 1 : Nat) : Int)) = wrap64 (-(rd l (i : Int)))
      · have e2 : redStep out (rd l (i : Int)) = out.take (out.length - 1) := if_pos ⟨h0, h1⟩
        rw [if_pos h1, if_pos (by omega), Int.toNat_natCast, e2, ih (i + 1) k _ (by omega) (by simp; omega) (by omega)]
      · have e2 : redStep out (rd l (i : Int)) = out ++ [rd l (i : Int)] := if_neg fun h => h1 h.2
        rw [if_neg h1, if_pos (by omega), e2, ih (i + 1) k _ (by omega) (by simp; omega) (by omega)]
    · have e2 : redStep out (rd l (i : Int)) = out ++ [rd l (i : Int)] := if_neg fun h => h0 h.1
      rw [if_neg (by omega), if_pos (by omega), e2, ih (i + 1) k _ (by omega) (by simp; omega) (by omega)]
theorem implReduced_eq (l : List Int) (k : Nat) (hl : l.length ≤ 1099511627776) (hk : l.length < k) : impl_reduced.f k l = some (redOf l) := by
  have := implReduced_l0 l hl l.length 0 k [] (by omega) (by simp) hk
  unfold impl_reduced.f redOf
  simpa using this

theorem mx_neg (j : Nat) : mx (-((j + 1 : Nat) : Int)) 1 = 1 := by
  unfold mx
  rw [if_pos (by omega)]
theorem mx_pos (j : Nat) : mx ((j + 1 : Nat) : Int) 1 = ((j + 1 : Nat) : Int) := by
  unfold mx
  rw [if_neg (by omega)]
theorem impRew_l2 {n : Nat} (hn : n ≤ 8) {G N : List (List Int)} (hG : ∀ g ∈ G, PermN n g) (hm : G.length ≤ 1000) (hN : okN n G.length N) (w : List Int) (hw : ∀ a ∈ w, LetterIn G a) (hwl : w.length ≤ 1000) (xx nn X Rl i a0 cnt : Int) (R R' out : List (List Int)) (ho : out.length < 5864062014805) (r : Int × List (List Int) × Int) : ∀ (d j : Nat) (x : Nat) (acc : List Int), j + d = w.length → x < n → acc.length ≤ j →
    Evt (fun K => impl_StabilizerPresentation.l1 K G N xx nn X R Rl (wrap64 (i + 1)) a0 R' cnt (out ++ [redOf (acc ++ rwF G N (w.drop j) (x : Int))])) r →
    Evt (fun K => impl_StabilizerPresentation.l2 K G N xx acc (x : Int) nn X R Rl i w (w.length : Int) (j : Int) a0 R' cnt out) r
  | 0, j, x, acc, hd, hx, ha, hc => by
    have hi : ¬ (j : Int) < (w.length : Int) := by omega
    rw [List.drop_of_length_le (by omega), rwF, List.append_nil] at hc
    refine Evt.bind1 (⟨acc.length + 1, fun K hK => implReduced_eq acc K (Nat.le_trans (show acc.length ≤ 1000 by omega) (by decide)) (by omega)⟩ : Evt (fun K => impl_reduced.f K acc) (redOf acc)) (h := fun K t => if out.length < 5864062014805 then impl_StabilizerPresentation.l1 K G N xx nn X R Rl (wrap64 (i + 1)) a0 R' cnt (out ++ [t]) else none) (Evt.same hc fun K => if_pos ho) fun K => ?_
    rw [impl_StabilizerPresentation.l2, if_neg hi]
  | d + 1, j, x, acc, hd, hx, ha, hc => by
    have hi : j < w.length := by omega
    have hiz : (j : Int) < (w.length : Int) := Int.ofNat_lt.2 hi
    have hL := hw _ (rd_mem w j hi)
    have hy := actL_in hG hL (show (0 : Int) ≤ (x : Int) by omega) (show (x : Int) < n by omega)
    obtain ⟨y, hye⟩ : ∃ y : Nat, actL G (rd w (j : Int)) (x : Int) = y := ⟨(actL G (rd w (j : Int)) (x : Int)).toNat, by omega⟩
    have hyn : y < n := by omega
    have hact := act_ev hn hG (Nat.le_trans hm (by decide)) hL (show (0 : Int) ≤ (x : Int) by omega) (show (x : Int) < n by omega)
    have hal : acc.length < 17592186044416 := Nat.lt_of_le_of_lt (show acc.length ≤ 1000 by omega) (by decide)
    rw [drop_rd w j hi, rwF, ← List.append_assoc, hye] at hc
    rw [hye] at hact
    have h2 := impRew_l2 hn hG hm hN w hw hwl xx nn X Rl i a0 cnt R R' out ho r d (j + 1) y (acc ++ (if nmOf G N (rd w (j : Int)) (x : Int) = 0 then [] else [nmOf G N (rd w (j : Int)) (x : Int)])) (by omega) hyn (by split <;> simp <;> omega) hc
    obtain ⟨c, hact⟩ := hact
    obtain ⟨c2, h2⟩ := h2
    refine ⟨c + c2 + 1, fun K hK => ?_⟩
    obtain ⟨K, rfl⟩ : ∃ q, K = q + 1 := ⟨K - 1, by omega⟩
    have e1 : impl_act.f K G (rd w (j : Int)) (x : Int) = some (y : Int) := hact K (by omega)
    have e2 := h2 K (by omega)
    simp only at e2 ⊢
    have hxl : (x : Int) < (N.length : Int) := by rw [hN.1]; omega
    have hyl : (y : Int) < (N.length : Int) := by rw [hN.1]; omega
    have ei : wrap64 ((j : Int) + 1) = ((j + 1 : Nat) : Int) := w64n (j + 1) (Nat.le_trans (show j + 1 ≤ 1000 by omega) (by decide))
    rw [impl_StabilizerPresentation.l2, if_pos hiz, if_pos (Int.natCast_nonneg j), if_pos hiz, e1, Option.bind_some, if_pos (Int.natCast_nonneg x), if_pos hxl]
    clear hc h2 hact e1
    obtain ⟨q, hq, hq2⟩ := hL.cases
    rcases hq2 with hq2 | hq2
    · have o := okN_at hN hx hq
      have en : nmOf G N (rd w (j : Int)) (x : Int) = rd (rd_L1 N (x : Int)) (q : Int) := by
        unfold nmOf
        rw [hq2, if_pos (by omega), show ((q + 1 : Nat) : Int) - 1 = (q : Int) by omega]
      rw [en] at e2
      have ep := pos_letter q (Nat.le_trans (Nat.le_of_lt (Nat.lt_of_lt_of_le hq hm)) (by decide))
      have hng : ¬ ((q + 1 : Nat) : Int) < 0 := Int.not_lt.2 (Int.natCast_nonneg _)
      rw [hq2, mx_pos, ep, if_pos (Int.natCast_nonneg q), if_pos (by rw [o.1]; exact Int.ofNat_lt.2 hq), if_neg hng, ei]
      by_cases z : rd (rd_L1 N (x : Int)) (q : Int) = 0
      · rw [if_pos z]
        rw [if_pos z, List.append_nil] at e2
        exact e2
      · rw [if_neg z, if_pos hal]
        rw [if_neg z] at e2
        exact e2
    · have o := okN_at hN hyn hq
      have o0 := okN_at hN hx hq
      have en : nmOf G N (rd w (j : Int)) (x : Int) = -(rd (rd_L1 N (y : Int)) (q : Int)) := by
        unfold nmOf
        rw [hye, hq2, if_neg (by omega), show - -((q + 1 : Nat) : Int) - 1 = (q : Int) by omega]
      rw [en] at e2
      have ep := neg_letter q (Nat.le_trans (Nat.le_of_lt (Nat.lt_of_lt_of_le hq hm)) (by decide))
      have ew := neg_small _ o.2.1 o.2.2
      have hng : -((q + 1 : Nat) : Int) < 0 := Int.neg_neg_of_pos (Int.natCast_pos.2 (Nat.succ_pos q))
      have e10 : wrap64 ((1 : Int) - 1) = ((0 : Nat) : Int) := w64n 0 (by decide)
      rw [hq2, mx_neg, e10, if_pos (Int.natCast_nonneg 0), if_pos (by rw [o0.1]; exact Int.ofNat_lt.2 (Nat.lt_of_le_of_lt (Nat.zero_le _) hq)), if_pos hng, if_pos (Int.natCast_nonneg y), if_pos hyl, ep, if_pos (Int.natCast_nonneg q), if_pos (by rw [o.1]; exact Int.ofNat_lt.2 hq), ei, ew]
      by_cases z : -(rd (rd_L1 N (y : Int)) (q : Int)) = 0
      · rw [if_pos z]
        rw [if_pos z, List.append_nil] at e2
        exact e2
      · rw [if_neg z, if_pos hal]
        rw [if_neg z] at e2
        exact e2

/-- Is a list a word? -/
def letters (g : Int) (l : List Int) : Bool := l.all fun x => decide (x ≠ 0) && (decide (-g ≤ x) && decide (x ≤ g))
/-- No letter of l cancels the one before it, out being what stands before. -/
def chainB : List Int → List Int → Bool
  | _, [] => true
  | out, x :: r => !(decide (0 < out.length) && decide (rd out ((out.length - 1 : Nat) : Int) = wrap64 (-x))) && chainB (out ++ [x]) r
theorem chain_iff : ∀ (l out : List Int), ((l.foldl redStep out).length = out.length + l.length) ↔ chainB out l = true
  | [], out => by simp [chainB]
  | x :: r, out => by
    simp only [List.foldl_cons, List.length_cons, chainB]
    by_cases h : 0 < out.length ∧ rd out ((out.length - 1 : Nat) : Int) = wrap64 (-x)
    · have e : redStep out x = out.take (out.length - 1) := if_pos h
      have hb : (decide (0 < out.length) && decide (rd out ((out.length - 1 : Nat) : Int) = wrap64 (-x))) = true := by
        rw [decide_eq_true h.1, decide_eq_true h.2]
        rfl
      rw [hb, e]
      have := foldl_length r (out.take (out.length - 1))
      rw [List.length_take] at this
      simp
      omega
    · have e : redStep out x = out ++ [x] := if_neg h
      have hb : (decide (0 < out.length) && decide (rd out ((out.length - 1 : Nat) : Int) = wrap64 (-x))) = false := by
        by_cases h0 : 0 < out.length
        · rw [decide_eq_false fun h1 => h ⟨h0, h1⟩, Bool.and_false]
        · rw [decide_eq_false h0]
          rfl
      rw [hb, e]
      have ih := chain_iff r (out ++ [x])
      simp only [List.length_append, List.length_singleton] at ih
      simp only [Bool.not_false, Bool.true_and]
      rw [← ih]
      omega
/-- A reduced word with letters up to g. -/
def redB (g : Int) (x : List Int) : Bool := letters g x && decide (x.length ≤ 120) && chainB [] x

theorem neg_swap (a b : Int) (ha : (Lit.int .i64 a).wf = true) (hb : (Lit.int .i64 b).wf = true) : a = wrap64 (-b) ↔ b = wrap64 (-a) := by
  have h1 : -9223372036854775808 ≤ a ∧ a ≤ 9223372036854775807 := by simpa [Lit.wf, IntKind.min, IntKind.max, IntKind.signed, IntKind.bits] using ha
  have h2 : -9223372036854775808 ≤ b ∧ b ≤ 9223372036854775807 := by simpa [Lit.wf, IntKind.min, IntKind.max, IntKind.signed, IntKind.bits] using hb
  unfold wrap64
  omega
theorem rd_wf (l : List Int) (hw : ∀ x ∈ l, (Lit.int .i64 x).wf = true) (i : Nat) (h : i < l.length) : (Lit.int .i64 (rd l (i : Int))).wf = true := by
  rw [rd_nat l i h]
  exact hw _ (List.getElem_mem h)
theorem rd_take (l : List Int) (n i : Nat) (h : i < n) (hn : n ≤ l.length) : rd (l.take n) (i : Int) = rd l (i : Int) := by
  rw [rd_nat _ i (by simp; omega), rd_nat l i (by omega)]
  simp
theorem specLetters_l0 (l : List Int) (hw : ∀ x ∈ l, (Lit.int .i64 x).wf = true) (g : Int) (hg : 0 ≤ g) (hg1 : g ≤ 4611686018427387904) (hl : l.length ≤ 4611686018427387904) : ∀ (d i k : Nat), i + d = l.length → d < k →
    spec_l04Letters.l0 k l g (i : Int) = some (letters g (l.drop i) && decide (l.length ≤ 120) && chainB (l.take i) (l.drop i)) := by
  intro d
  induction d with
  | zero =>
    intro i k hd hk
    obtain ⟨k, rfl⟩ := succ_k hk
    simp only [spec_l04Letters.l0]
    rw [if_neg (by omega), List.drop_of_length_le (by omega)]
    simp [letters, chainB]
    omega
  | succ d ih =>
    intro i k hd hk
    obtain ⟨k, rfl⟩ := succ_k hk
    have hc : (l.take i) ++ [rd l (i : Int)] = l.take (i + 1) := by
      rw [List.take_succ_eq_append_getElem (by omega), rd_nat l i (by omega)]
    have hwi := rd_wf l hw i (by omega)
    simp only [spec_l04Letters.l0]
    rw [if_pos (by omega), if_pos (by omega), w64 (-g) (by omega) (by omega), w64 ((i : Int) + 1) (by omega) (by omega), cast_succ, ih (i + 1) k (by omega) (by omega), drop_rd l i (by omega)]
    simp only [chainB, hc]
    unfold spec_l01In.f
    have hlen : (l.take i).length = i := by simp; omega
    rw [hlen]
    have hl2 : letters g (rd l (i : Int) :: l.drop (i + 1)) = ((decide (rd l (i : Int) ≠ 0) && (decide (-g ≤ rd l (i : Int)) && decide (rd l (i : Int) ≤ g))) && letters g (l.drop (i + 1))) := rfl
    rw [hl2]
    by_cases h0 : rd l (i : Int) = 0
    · simp [h0]
    · rw [if_neg h0]
      by_cases h1 : -g ≤ rd l (i : Int) <;> by_cases h2 : rd l (i : Int) ≤ g
      · by_cases hi : 0 < i
        · have e1 : wrap64 ((i : Int) - 1) = ((i - 1 : Nat) : Int) := by rw [w64 _ (by omega) (by omega)]; omega
          have hwj := rd_wf l hw (i - 1) (by omega)
          have hn := neg_swap _ _ hwi hwj
          have hi1 : (0 : Int) ≤ ((i - 1 : Nat) : Int) := by omega
          have hi2 : ((i - 1 : Nat) : Int) < (l.length : Int) := by omega
          have hi3 : (i : Int) > 0 := by omega
          rw [e1, rd_take l i (i - 1) (by omega) (by omega)]
          generalize rd l (i : Int) = a at h0 h1 h2 hn
          generalize rd l ((i - 1 : Nat) : Int) = b at hn
          generalize ((i - 1 : Nat) : Int) = m at hi1 hi2
          by_cases h3 : b = wrap64 (-a)
          · have h4 : (a = wrap64 (-b)) = True := eq_true (hn.mpr h3)
            have h5 : (b = wrap64 (-a)) = True := eq_true h3
            clear h3 hn
            simp [h0, h1, h2, hi, h4, h5, hi1, hi2, hi3]
          · have h4 : (a = wrap64 (-b)) = False := eq_false fun e => h3 (hn.mp e)
            have h5 : (b = wrap64 (-a)) = False := eq_false h3
            clear h3 hn
            simp [h0, h1, h2, hi, h4, h5, hi1, hi2, hi3]
        · have hi0 : i = 0 := by omega
          subst hi0
          simp at h0 h1 h2
          simp [h0, h1, h2]
      · simp [h0, h1, h2]
      · simp [h0, h1, h2]
      · simp [h0, h1, h2]
theorem specLetters_eq (l : List Int) (hw : ∀ x ∈ l, (Lit.int .i64 x).wf = true) (g : Int) (hg : 0 ≤ g) (hg1 : g ≤ 4611686018427387904) (k : Nat) (hl : l.length ≤ 4611686018427387904) (hk : l.length < k) : spec_l04Letters.f k l g = some (redB g l) := by
  have := specLetters_l0 l hw g hg hg1 hl l.length 0 k (by omega) hk
  unfold spec_l04Letters.f redB
  simpa using this

def presB (g : Int) (l : List (List Int)) : Bool := decide (0 ≤ g) && decide (g ≤ 24) && decide (l.length ≤ 48) && l.all (redB g)

theorem specPres_l0 (g : Int) (hg : 0 ≤ g) (hg1 : g ≤ 24) (l : List (List Int)) (n : Nat) (hn : n ≤ 1048576) (hl : l.length ≤ 1048576) (hr : ∀ x ∈ l, x.length ≤ n) (hw : ∀ x ∈ l, ∀ y ∈ x, (Lit.int .i64 y).wf = true) : ∀ (d i k : Nat), i + d = l.length → d + n < k →
    spec_IsPresentation.l0 k (i : Int) g l = some ((l.drop i).all (redB g)) := by
  intro d
  induction d with
  | zero =>
    intro i k hd hk
    obtain ⟨k, rfl⟩ := succ_k hk
    simp only [spec_IsPresentation.l0]
    rw [if_neg (by omega), List.drop_of_length_le (by omega)]
    rfl
  | succ d ih =>
    intro i k hd hk
    obtain ⟨k, rfl⟩ := succ_k hk
    simp only [spec_IsPresentation.l0]
    have hm := rdL1_mem l i (by omega)
    have hlen := hr _ hm
    rw [if_pos (by omega), if_pos (by omega), specLetters_eq _ (hw _ hm) g hg (by omega) k (by omega) (by omega), w64 _ (by omega) (by omega), cast_succ, ih (i + 1) k (by omega) (by omega), drop_rdL1 l i (by omega), List.all_cons]
    simp only [Option.bind_some]
    by_cases h : redB g (rd_L1 l (i : Int)) = true
    · simp [h]
    · simp [h]
theorem specPres_eq (g : Int) (l : List (List Int)) (n k : Nat) (hn : n ≤ 1048576) (hl : l.length ≤ 1048576) (hr : ∀ x ∈ l, x.length ≤ n) (hw : ∀ x ∈ l, ∀ y ∈ x, (Lit.int .i64 y).wf = true) (hk : 2097200 < k) :
    spec_IsPresentation.f k g l = some (presB g l) := by
  obtain ⟨k, rfl⟩ := succ_k hk
  unfold spec_IsPresentation.f spec_l01In.f presB
  simp only [spec_IsPresentation.j0]
  by_cases h1 : 0 ≤ g
  · by_cases h2 : g ≤ 24
    · by_cases h3 : l.length ≤ 48
      · have := specPres_l0 g h1 h2 l n hn hl hr hw l.length 0 k (by omega) (by omega)
        have h3' : ¬ (l.length : Int) > 48 := by omega
        simp only [List.drop_zero] at this
        simp [h1, h2, h3, h3']
        exact this
      · have h3' : (l.length : Int) > 48 := by omega
        simp [h1, h2, h3, h3']
    · simp [h1, h2]
  · simp [h1]

theorem wf64 {x : Int} (h : (Lit.int .i64 x).wf = true) : -9223372036854775808 ≤ x ∧ x ≤ 9223372036854775807 := by
  simpa [Lit.wf, IntKind.min, IntKind.max, IntKind.signed, IntKind.bits] using h
theorem bad_iff (g x : Int) (hg : 0 ≤ g) (hg1 : g ≤ 4611686018427387904) (h : (Lit.int .i64 x).wf = true) : isWord_bad g x = !(decide (x ≠ 0) && (decide (-g ≤ x) && decide (x ≤ g))) := by
  have hx := wf64 h
  have e : (!(decide (x ≠ 0) && (decide (-g ≤ x) && decide (x ≤ g)))) = decide (x = 0 ∨ ¬ (-g ≤ x ∧ x ≤ g)) := by
    by_cases h0 : x = 0 <;> by_cases h1 : -g ≤ x <;> by_cases h2 : x ≤ g <;> simp [h0, h1, h2]
  rw [e]
  unfold isWord_bad abs64
  rw [w64 (-g) (by omega) (by omega)]
  have e2 : (x == 0 || (decide (g < if x < 0 then wrap64 (-x) else x) || decide (x < -g))) = decide (x = 0 ∨ (g < (if x < 0 then wrap64 (-x) else x) ∨ x < -g)) := by
    show (decide (x = 0) || _) = _
    simp [Bool.decide_or]
  rw [e2]
  apply decide_eq_decide.mpr
  by_cases hn : x < 0
  · rw [if_pos hn]
    by_cases hm : x = -9223372036854775808
    · subst hm
      have : wrap64 (-(-9223372036854775808)) = -9223372036854775808 := by unfold wrap64; omega
      rw [this]
      omega
    · rw [w64 (-x) (by omega) (by omega)]
      omega
  · rw [if_neg hn]
    omega
theorem any_bad (g : Int) (hg : 0 ≤ g) (hg1 : g ≤ 4611686018427387904) (l : List Int) (h : ∀ x ∈ l, (Lit.int .i64 x).wf = true) : (!(l.any (isWord_bad g))) = letters g l := by
  unfold letters
  induction l with
  | nil => rfl
  | cons x r ih =>
    rw [List.any_cons, List.all_cons, Bool.not_or, ih fun y hy => h y (List.mem_cons_of_mem _ hy), bad_iff g x hg hg1 (h x List.mem_cons_self)]
    simp
theorem implisWord_eq (g : Int) (hg : 0 ≤ g) (hg1 : g ≤ 4611686018427387904) (l : List Int) (h : ∀ x ∈ l, (Lit.int .i64 x).wf = true) : impl_isWord.f l g = some (letters g l && decide (l.length ≤ 120)) := by
  unfold impl_isWord.f
  rw [any_bad g hg hg1 l h, Bool.and_comm]

theorem implisReduced_eq (g : Int) (hg : 0 ≤ g) (hg1 : g ≤ 4611686018427387904) (x : List Int) (k : Nat) (h : ∀ y ∈ x, (Lit.int .i64 y).wf = true) (hx : x.length ≤ 1099511627776) (hk : x.length < k) :
    impl_isReduced.f k x g = some (redB g x) := by
  unfold impl_isReduced.f redB
  rw [implisWord_eq g hg hg1 x h]
  simp only [Option.bind_some]
  by_cases hw : (letters g x && decide (x.length ≤ 120)) = true
  · rw [if_pos hw, hw, implReduced_eq x k hx hk]
    simp only [Option.bind_some, Bool.true_and]
    have := chain_iff x []
    simp only [List.length_nil, Nat.zero_add] at this
    congr 1
    rw [Bool.eq_iff_iff, ← this]
    simp [redOf]
    omega
  · rw [if_neg hw]
    have : (letters g x && decide (x.length ≤ 120)) = false := by simpa using hw
    rw [this]
    rfl

theorem anyO_all (g : Int) (hg : 0 ≤ g) (hg1 : g ≤ 24) (n k : Nat) (hn : n ≤ 1048576) (hk : n < k) : ∀ (l : List (List Int)), (∀ x ∈ l, x.length ≤ n) → (∀ x ∈ l, ∀ y ∈ x, (Lit.int .i64 y).wf = true) → anyO (impl_isPresentation.q k g) l = some (!(l.all (redB g)))
  | [], _, _ => rfl
  | x :: t, hr, hw => by
    simp only [anyO, impl_isPresentation.q]
    have hx := hr x List.mem_cons_self
    rw [implisReduced_eq g hg (by omega) x k (hw x List.mem_cons_self) (by omega) (by omega)]
    simp only [Option.bind_some]
    rw [anyO_all g hg hg1 n k hn hk t (fun y hy => hr y (List.mem_cons_of_mem _ hy)) (fun y hy => hw y (List.mem_cons_of_mem _ hy))]
    by_cases h : redB g x = true
    · simp [h]
    · simp [h]
theorem implisPres_eq (g : Int) (l : List (List Int)) (n k : Nat) (hn : n ≤ 1048576) (hr : ∀ x ∈ l, x.length ≤ n) (hw : ∀ x ∈ l, ∀ y ∈ x, (Lit.int .i64 y).wf = true) (hk : n < k) :
    impl_isPresentation.f k g l = some (presB g l) := by
  unfold impl_isPresentation.f presB
  by_cases h1 : 0 ≤ g ∧ g ≤ 24
  · rw [if_pos h1]
    by_cases h3 : l.length ≤ 48
    · rw [if_pos h3, anyO_all g h1.1 h1.2 n k hn hk l hr hw]
      simp [h1.1, h1.2, h3]
    · rw [if_neg h3]
      simp [h3]
  · rw [if_neg h1]
    by_cases h0 : 0 ≤ g <;> by_cases h4 : g ≤ 24 <;> simp [h0, h4]
    exact absurd ⟨h0, h4⟩ h1

/-- The rewritten relators of one number, of all numbers from x on. -/
def stRow (G N : List (List Int)) (R : List (List Int)) (x : Nat) : List (List Int) := R.map fun w => redOf (rwF G N w (x : Int))
def stAll (G N R : List (List Int)) : Nat → Nat → List (List Int)
  | 0, _ => []
  | d + 1, x => stRow G N R x ++ stAll G N R d (x + 1)
theorem specRew_f {n : Nat} (hn : n ≤ 8) {G N : List (List Int)} (hG : ∀ g ∈ G, PermN n g) (hm : G.length ≤ 1000) (hN : okN n G.length N) (w : List Int) (hw : ∀ a ∈ w, LetterIn G a) (hwl : w.length ≤ 1000) (x : Nat) (hx : x < n) : Evt (fun K => spec_l05Rewrite.f K G N w (x : Int)) (redOf (rwF G N w (x : Int))) := by
  have h := rew_l0 hn hG hm hN w hw hwl w.length 0 x [] (by omega) hx (by simp)
  rw [List.drop_zero, List.nil_append] at h
  exact h
theorem len_ok {a b : Nat} (h : a ≤ b) (hb : b ≤ 100000) : a < 5864062014805 := Nat.lt_of_le_of_lt (Nat.le_trans h hb) (by decide)
theorem specSt_l1 {n : Nat} (hn : n ≤ 8) {G N R : List (List Int)} (hG : ∀ g ∈ G, PermN n g) (hm : G.length ≤ 1000) (hN : okN n G.length N) (hw : ∀ w ∈ R, ∀ a ∈ w, LetterIn G a) (hwl : ∀ w ∈ R, w.length ≤ 1000) (hR : R.length ≤ 1000) (a0 cnt : Int) (x : Nat) (hx : x < n) (r : Int × List (List Int) × Int) : ∀ (d i : Nat) (out : List (List Int)), i + d = R.length → out.length + d ≤ 100000 →
    Evt (fun K => spec_StabilizerPresentation.l0 K (n : Int) G N (wrap64 ((x : Int) + 1)) a0 R cnt (out ++ stRow G N (R.drop i) x)) r → Evt (fun K => spec_StabilizerPresentation.l1 K (n : Int) G N (x : Int) (i : Int) a0 R cnt out) r
  | 0, i, out, hd, ho, hc => by
    have hi : ¬ (i : Int) < (R.length : Int) := by omega
    rw [List.drop_of_length_le (by omega), stRow, List.map_nil, List.append_nil] at hc
    refine Evt.step hc fun K => ?_
    rw [spec_StabilizerPresentation.l1, if_neg hi]
  | d + 1, i, out, hd, ho, hc => by
    have hi : i < R.length := by omega
    have hiz : (i : Int) < (R.length : Int) := Int.ofNat_lt.2 hi
    have hmem := rdL1_mem R i hi
    rw [drop_rdL1 R i hi, stRow, List.map_cons, List.append_cons] at hc
    have ih := specSt_l1 hn hG hm hN hw hwl hR a0 cnt x hx r d (i + 1) (out ++ [redOf (rwF G N (rd_L1 R (i : Int)) (x : Int))]) (by omega) (by simp; omega) hc
    have ei : wrap64 ((i : Int) + 1) = ((i + 1 : Nat) : Int) := w64n (i + 1) (Nat.le_trans (show i + 1 ≤ 1000 by omega) (by decide))
    refine Evt.bind1 (specRew_f hn hG hm hN (rd_L1 R (i : Int)) (hw _ hmem) (hwl _ hmem) x hx) (h := fun K t270 => (if out.length < 5864062014805 then (spec_StabilizerPresentation.l1 K (n : Int) G N (x : Int) (wrap64 ((i : Int) + 1)) a0 R cnt (out ++ [t270])) else (none))) (Evt.same ih fun K => by rw [if_pos (len_ok (Nat.le_add_right _ _) ho), ei]) fun K => ?_
    rw [spec_StabilizerPresentation.l1, if_pos hiz, if_pos (Int.natCast_nonneg i)]
theorem stRow_len (G N R : List (List Int)) (x : Nat) : (stRow G N R x).length = R.length := by simp [stRow]
theorem specSt_l0 {n : Nat} (hn : n ≤ 8) {G N R : List (List Int)} (hG : ∀ g ∈ G, PermN n g) (hm : G.length ≤ 1000) (hN : okN n G.length N) (hw : ∀ w ∈ R, ∀ a ∈ w, LetterIn G a) (hwl : ∀ w ∈ R, w.length ≤ 1000) (hR : R.length ≤ 1000) (a0 cnt : Int) (b : Bool) (L : List (List Int)) (hb : Evt (fun K => spec_IsPresentation.f K cnt L) b) : ∀ (d x : Nat) (out : List (List Int)), x + d = n → out.length + d * 1000 ≤ 90000 → L = out ++ stAll G N R d x →
    Evt (fun K => spec_StabilizerPresentation.l0 K (n : Int) G N (x : Int) a0 R cnt out) (if b = true then (cnt, L, 0) else (0, [], 3))
  | 0, x, out, hd, ho, hL => by
    have hi : ¬ (x : Int) < (n : Int) := by omega
    rw [stAll, List.append_nil] at hL
    subst hL
    refine Evt.bind1 hb (h := fun _ t268 => (if t268 = true then (some (cnt, L, 0)) else (some (0, ([] : List (List Int)), 3)))) (Evt.const fun K => by split <;> rfl) fun K => ?_
    rw [spec_StabilizerPresentation.l0, if_neg hi]
  | d + 1, x, out, hd, ho, hL => by
    have hx : x < n := by omega
    have hiz : (x : Int) < (n : Int) := Int.ofNat_lt.2 hx
    have ex : wrap64 ((x : Int) + 1) = ((x + 1 : Nat) : Int) := w64n (x + 1) (Nat.le_trans (show x + 1 ≤ 1000 by omega) (by decide))
    have hl : (out ++ stRow G N R x).length = out.length + R.length := by rw [List.length_append, stRow_len]
    have ih := specSt_l0 hn hG hm hN hw hwl hR a0 cnt b L hb d (x + 1) (out ++ stRow G N R x) (by omega) (by rw [hl]; omega) (by rw [hL, stAll, List.append_assoc])
    have h1 := specSt_l1 hn hG hm hN hw hwl hR a0 cnt x hx _ R.length 0 out (by omega) (by omega) (by rw [ex, List.drop_zero]; exact ih)
    refine Evt.step h1 fun K => ?_
    rw [spec_StabilizerPresentation.l0, if_pos hiz]
    rfl
theorem impSt_l1 {n : Nat} (hn : n ≤ 8) {G N R : List (List Int)} (hG : ∀ g ∈ G, PermN n g) (hm : G.length ≤ 1000) (hN : okN n G.length N) (hw : ∀ w ∈ R, ∀ a ∈ w, LetterIn G a) (hwl : ∀ w ∈ R, w.length ≤ 1000) (hR : R.length ≤ 1000) (a0 cnt : Int) (x : Nat) (hx : x < n) (r : Int × List (List Int) × Int) : ∀ (d i : Nat) (out : List (List Int)), i + d = R.length → out.length + d ≤ 100000 →
    Evt (fun K => impl_StabilizerPresentation.l0 K G N (n : Int) (wrap64 ((x : Int) + 1)) a0 R cnt (out ++ stRow G N (R.drop i) x)) r → Evt (fun K => impl_StabilizerPresentation.l1 K G N (x : Int) (n : Int) (x : Int) R (R.length : Int) (i : Int) a0 R cnt out) r
  | 0, i, out, hd, ho, hc => by
    have hi : ¬ (i : Int) < (R.length : Int) := by omega
    rw [List.drop_of_length_le (by omega), stRow, List.map_nil, List.append_nil] at hc
    refine Evt.step hc fun K => ?_
    rw [impl_StabilizerPresentation.l1, if_neg hi]
  | d + 1, i, out, hd, ho, hc => by
    have hi : i < R.length := by omega
    have hiz : (i : Int) < (R.length : Int) := Int.ofNat_lt.2 hi
    have hmem := rdL1_mem R i hi
    rw [drop_rdL1 R i hi, stRow, List.map_cons, List.append_cons] at hc
    have ei : wrap64 ((i : Int) + 1) = ((i + 1 : Nat) : Int) := w64n (i + 1) (Nat.le_trans (show i + 1 ≤ 1000 by omega) (by decide))
    have ih := impSt_l1 hn hG hm hN hw hwl hR a0 cnt x hx r d (i + 1) (out ++ [redOf (rwF G N (rd_L1 R (i : Int)) (x : Int))]) (by omega) (by simp; omega) hc
    have h2 := impRew_l2 hn hG hm hN (rd_L1 R (i : Int)) (hw _ hmem) (hwl _ hmem) (x : Int) (n : Int) (x : Int) (R.length : Int) (i : Int) a0 cnt R R out (len_ok (Nat.le_add_right _ _) ho) r (rd_L1 R (i : Int)).length 0 x [] (by omega) hx (by simp) (by rw [List.drop_zero, List.nil_append, ei]; exact ih)
    refine Evt.step h2 fun K => ?_
    rw [impl_StabilizerPresentation.l1, if_pos hiz, if_pos (Int.natCast_nonneg i), if_pos hiz]
    rfl
theorem impSt_l0 {n : Nat} (hn : n ≤ 8) {G N R : List (List Int)} (hG : ∀ g ∈ G, PermN n g) (hm : G.length ≤ 1000) (hN : okN n G.length N) (hw : ∀ w ∈ R, ∀ a ∈ w, LetterIn G a) (hwl : ∀ w ∈ R, w.length ≤ 1000) (hR : R.length ≤ 1000) (a0 cnt : Int) (b : Bool) (L : List (List Int)) (hb : Evt (fun K => impl_isPresentation.f K cnt L) b) : ∀ (d x : Nat) (out : List (List Int)), x + d = n → out.length + d * 1000 ≤ 90000 → L = out ++ stAll G N R d x →
    Evt (fun K => impl_StabilizerPresentation.l0 K G N (n : Int) (x : Int) a0 R cnt out) (if b = true then (cnt, L, 0) else (0, [], 3))
  | 0, x, out, hd, ho, hL => by
    have hi : ¬ (x : Int) < (n : Int) := by omega
    rw [stAll, List.append_nil] at hL
    subst hL
    refine Evt.bind1 hb (h := fun _ t268 => (if t268 = true then (some (cnt, L, 0)) else (some (0, ([] : List (List Int)), 3)))) (Evt.const fun K => by split <;> rfl) fun K => ?_
    rw [impl_StabilizerPresentation.l0, if_neg hi]
  | d + 1, x, out, hd, ho, hL => by
    have hx : x < n := by omega
    have hiz : (x : Int) < (n : Int) := Int.ofNat_lt.2 hx
    have ex : wrap64 ((x : Int) + 1) = ((x + 1 : Nat) : Int) := w64n (x + 1) (Nat.le_trans (show x + 1 ≤ 1000 by omega) (by decide))
    have hl : (out ++ stRow G N R x).length = out.length + R.length := by rw [List.length_append, stRow_len]
    have ih := impSt_l0 hn hG hm hN hw hwl hR a0 cnt b L hb d (x + 1) (out ++ stRow G N R x) (by omega) (by rw [hl]; omega) (by rw [hL, stAll, List.append_assoc])
    have h1 := impSt_l1 hn hG hm hN hw hwl hR a0 cnt x hx _ R.length 0 out (by omega) (by omega) (by rw [ex, List.drop_zero]; exact ih)
    refine Evt.step h1 fun K => ?_
    rw [impl_StabilizerPresentation.l0, if_pos hiz]
    rfl

theorem isTrivial_l0 {n : Nat} (hn : n ≤ 8) {G : List (List Int)} (hG : ∀ g ∈ G, PermN n g) (hl : G.length ≤ 1048576) (w : List Int) (hw : ∀ a ∈ w, LetterIn G a) (hwl : w.length ≤ 1048576) : ∀ (d x : Nat), x + d = n →
    Evt (fun K => impl_isTrivial.l0 K G w (n : Int) (x : Int)) (trivB G w d x)
  | 0, x, hd => by
    refine Evt.now fun K => ?_
    rw [impl_isTrivial.l0, if_neg (by omega)]
    rfl
  | d + 1, x, hd => by
    have hx : x < n := by omega
    have hd2 : x + 1 + d = n := by omega
    have ei : wrap64 ((x : Int) + 1) = ((x + 1 : Nat) : Int) := w64n (x + 1) (by omega)
    have f1 : (x : Int) < (n : Int) := Int.ofNat_lt.2 hx
    unfold trivB
    refine Evt.bind1 (actWord_ev hn hG hl w hw hwl (x : Int) (Int.natCast_nonneg x) f1) (h := fun K t => if t = (x : Int) then impl_isTrivial.l0 K G w (n : Int) ((x + 1 : Nat) : Int) else some false) ?_ fun K => ?_
    · by_cases c : actW G w (x : Int) = (x : Int)
      · rw [decide_eq_true c, Bool.true_and]
        exact Evt.same (isTrivial_l0 hn hG hl w hw hwl d (x + 1) hd2) fun K => if_pos c
      · rw [decide_eq_false c, Bool.false_and]
        exact Evt.const fun K => if_neg c
    · rw [impl_isTrivial.l0, if_pos f1, ei]
theorem isTrivial_ev {n : Nat} (hn : n ≤ 8) {G : List (List Int)} (hG : ∀ g ∈ G, PermN n g) (hl : G.length ≤ 1048576) (w : List Int) (hw : ∀ a ∈ w, LetterIn G a) (hwl : w.length ≤ 1048576) :
    Evt (fun K => impl_isTrivial.f K (n : Int) G w) (trivB G w n 0) := isTrivial_l0 hn hG hl w hw hwl n 0 (Nat.zero_add _)

theorem l05Trivial_l1 {n : Nat} (hn : n ≤ 8) {G : List (List Int)} (hG : ∀ g ∈ G, PermN n g) (hl : G.length ≤ 1048576) (a : Int) (R : List (List Int)) (j : Nat) (hj : j < R.length) (hw : ∀ b ∈ rd_L1 R (j : Int), LetterIn G b) (hwl : (rd_L1 R (j : Int)).length ≤ 1048576) (hR : R.length ≤ 1048576) (r : Bool)
    (h : Evt (fun K => spec_l05Trivial.l0 K (n : Int) G ((j + 1 : Nat) : Int) a R) r) : ∀ (d x : Nat), x + d = n →
    Evt (fun K => spec_l05Trivial.l1 K (n : Int) G (j : Int) (x : Int) a R) (trivB G (rd_L1 R (j : Int)) d x && r)
  | 0, x, hd => by
    have ej : wrap64 ((j : Int) + 1) = ((j + 1 : Nat) : Int) := w64n (j + 1) (by omega)
    unfold trivB
    rw [Bool.true_and]
    refine Evt.step h fun K => ?_
    rw [spec_l05Trivial.l1, if_neg (by clear ej; omega), ej]
  | d + 1, x, hd => by
    have hx : x < n := by omega
    have hd2 : x + 1 + d = n := by omega
    have ei : wrap64 ((x : Int) + 1) = ((x + 1 : Nat) : Int) := w64n (x + 1) (by omega)
    have f1 : (x : Int) < (n : Int) := Int.ofNat_lt.2 hx
    unfold trivB
    refine Evt.bind1 (l05Move_ev hn hG hl (rd_L1 R (j : Int)) hw hwl (x : Int) (Int.natCast_nonneg x) f1) (h := fun K t => if t = (x : Int) then spec_l05Trivial.l1 K (n : Int) G (j : Int) ((x + 1 : Nat) : Int) a R else some false) ?_ fun K => ?_
    · by_cases c : actW G (rd_L1 R (j : Int)) (x : Int) = (x : Int)
      · rw [decide_eq_true c, Bool.true_and]
        exact Evt.same (l05Trivial_l1 hn hG hl a R j hj hw hwl hR r h d (x + 1) hd2) fun K => if_pos c
      · rw [decide_eq_false c, Bool.false_and]
        exact Evt.const fun K => if_neg c
    · rw [spec_l05Trivial.l1, if_pos f1, if_pos (Int.natCast_nonneg j), if_pos (Int.ofNat_lt.2 hj), ei]
theorem l05Trivial_l0 {n : Nat} (hn : n ≤ 8) {G : List (List Int)} (hG : ∀ g ∈ G, PermN n g) (hl : G.length ≤ 1048576) (a : Int) (R : List (List Int)) (hw : ∀ w ∈ R, ∀ b ∈ w, LetterIn G b) (hwl : ∀ w ∈ R, w.length ≤ 1048576) (hR : R.length ≤ 1048576) : ∀ (d j : Nat), j + d = R.length →
    Evt (fun K => spec_l05Trivial.l0 K (n : Int) G (j : Int) a R) ((R.drop j).all fun w => trivB G w n 0)
  | 0, j, hd => by
    refine Evt.now fun K => ?_
    rw [spec_l05Trivial.l0, if_neg (by omega), List.drop_of_length_le (by omega)]
    rfl
  | d + 1, j, hd => by
    have hj : j < R.length := by omega
    have hd2 : j + 1 + d = R.length := by omega
    have f1 : (j : Int) < (R.length : Int) := Int.ofNat_lt.2 hj
    have hm := rdL1_mem R j hj
    rw [drop_rdL1 R j hj, List.all_cons]
    refine Evt.step (l05Trivial_l1 hn hG hl a R j hj (hw _ hm) (hwl _ hm) hR _ (l05Trivial_l0 hn hG hl a R hw hwl hR d (j + 1) hd2) n 0 (Nat.zero_add _)) fun K => ?_
    rw [spec_l05Trivial.l0, if_pos f1]
    rfl
theorem l05Trivial_ev {n : Nat} (hn : n ≤ 8) {G : List (List Int)} (hG : ∀ g ∈ G, PermN n g) (hl : G.length ≤ 1048576) (a : Int) (R : List (List Int)) (hw : ∀ w ∈ R, ∀ b ∈ w, LetterIn G b) (hwl : ∀ w ∈ R, w.length ≤ 1048576) (hR : R.length ≤ 1048576) :
    Evt (fun K => spec_l05Trivial.f K a R (n : Int) G) (R.all fun w => trivB G w n 0) := by
  have h := l05Trivial_l0 hn hG hl a R hw hwl hR R.length 0 (Nat.zero_add _)
  rw [List.drop_zero] at h
  exact h

theorem implIsPerm_l0 (n : Nat) (hn : n ≤ 8) (l : List Int) (hl : l.length ≤ 1048576) : ∀ (d i : Nat) (q : List Int), i + d = l.length → Evt (fun K => impl_isPermutation.l0 K l (n : Int) (mkB n q) l (l.length : Int) (i : Int)) (goP n l.length q (l.drop i))
  | 0, i, q, hd => by
    refine Evt.now fun K => ?_
    rw [impl_isPermutation.l0, if_neg (by omega), List.drop_of_length_le (by omega)]
    unfold impl_size_int64_110.f goP
    rw [Option.bind_some]
    refine congrArg some ?_
    rw [show ((l.length : Int) == (n : Int)) = decide ((l.length : Int) = (n : Int)) from rfl]
    exact decide_eq_decide.2 (by omega)
  | d + 1, i, q, hd => by
    have e1 : wrap64 ((n : Int) - 1) = (n : Int) - 1 := w64 _ (by omega) (by omega)
    have e2 : wrap64 ((i : Int) + 1) = ((i + 1 : Nat) : Int) := w64n (i + 1) (by omega)
    rw [drop_rd l i (by omega)]
    obtain ⟨x, hx⟩ : ∃ x, x = rd l (i : Int) := ⟨_, rfl⟩
    have hf : ∀ K, impl_isPermutation.l0 (K + 1) l (n : Int) (mkB n q) l (l.length : Int) (i : Int) = (if 0 ≤ x ∧ x ≤ (n : Int) - 1 then (if x ∈ q then some false else impl_isPermutation.l0 K l (n : Int) ((mkB n q).set x.toNat true) l (l.length : Int) ((i + 1 : Nat) : Int)) else some false) := by
      intro K
      rw [impl_isPermutation.l0, if_pos (by omega), if_pos (by omega), if_pos (by omega), ← hx, e1, e2]
      unfold impl_inRange.f
      by_cases c : 0 ≤ x ∧ x ≤ (n : Int) - 1
      · rw [if_pos c]
        have c1 : (0 : Int) ≤ x := c.1
        have c3 : x < ((mkB n q).length : Int) := by rw [mkB_length]; omega
        have c4 := c.2
        rw [rdB n q x c.1 (by omega)]
        simp only [c1, c3, c4, decide_true, Bool.and_self, if_true, Option.bind_some, ge_iff_le, decide_eq_true_eq]
      · rw [if_neg c]
        by_cases c0 : 0 ≤ x
        · have c4 : ¬ x ≤ (n : Int) - 1 := fun h => c ⟨c0, h⟩
          simp [c0, c4]
        · simp [c0]
    rw [← hx]
    unfold goP
    by_cases c : 0 ≤ x ∧ x ≤ (n : Int) - 1
    · rw [if_pos c]
      by_cases e : x ∈ q
      · rw [if_pos e]
        exact Evt.now fun K => by rw [hf, if_pos c, if_pos e]
      · rw [if_neg e]
        have ih := implIsPerm_l0 n hn l hl d (i + 1) (q ++ [x]) (by omega)
        refine Evt.step ih fun K => ?_
        rw [hf, if_pos c, if_neg e, mkB_set n q x c.1]
    · rw [if_neg c]
      exact Evt.now fun K => by rw [hf, if_neg c]
theorem implIsPerm_ev (n : Nat) (hn : n ≤ 8) (l : List Int) (hl : l.length ≤ 1048576) : Evt (fun K => impl_isPermutation.f K l (n : Int)) (goP n l.length [] l) := by
  have h := implIsPerm_l0 n hn l hl l.length 0 [] (by omega)
  rw [List.drop_zero, ← mkB_nil] at h
  refine Evt.same h fun K => ?_
  unfold impl_isPermutation.f
  rw [if_pos (by omega), Int.toNat_natCast, if_pos (by omega)]
  rfl

theorem anyO_perm {n : Nat} (hn : n ≤ 8) : ∀ (G : List (List Int)), (∀ g ∈ G, g.length ≤ 1048576) → Evt (fun K => anyO (impl_arePermutations.q K (n : Int)) G) (!(G.all fun g => goP n g.length [] g))
  | [], _ => Evt.const fun _ => rfl
  | g :: G, hr => by
    have h := implIsPerm_ev n hn g (hr g List.mem_cons_self)
    have hq : Evt (fun K => impl_arePermutations.q K (n : Int) g) (!(goP n g.length [] g)) := Evt.bind h (h := fun _ b => some (!b)) (Evt.const fun _ => rfl) fun _ => rfl
    rw [List.all_cons]
    refine Evt.bind hq (h := fun K b => if b = true then some true else anyO (impl_arePermutations.q K (n : Int)) G) ?_ fun _ => rfl
    by_cases c : goP n g.length [] g = true
    · rw [c, Bool.true_and]
      exact Evt.same (anyO_perm hn G fun x hx => hr x (List.mem_cons_of_mem _ hx)) fun K => if_neg (by simp)
    · rw [Bool.not_eq_true] at c
      rw [c, Bool.false_and]
      exact Evt.const fun K => if_pos rfl
theorem are_ev (a0 : Int) (G : List (List Int)) (hr : ∀ g ∈ G, g.length ≤ 1048576) : Evt (fun K => impl_arePermutations.f K a0 G) (G.all (permS a0) && decide (1 ≤ a0 ∧ a0 ≤ 4)) := by
  by_cases c : 1 ≤ a0 ∧ a0 ≤ 4
  · obtain ⟨n, rfl⟩ : ∃ n : Nat, a0 = n := ⟨a0.toNat, by omega⟩
    have hn : n ≤ 8 := by omega
    rw [decide_eq_true c, Bool.and_true, show permS (n : Int) = fun g => goP n g.length [] g from funext fun g => permS_goP n hn g]
    refine Evt.bind (anyO_perm hn G hr) (h := fun _ b => some (!b)) (Evt.const fun _ => by rw [Bool.not_not]) fun K => ?_
    unfold impl_arePermutations.f
    rw [if_pos c]
  · rw [decide_eq_false c, Bool.and_false]
    refine Evt.const fun K => ?_
    unfold impl_arePermutations.f
    rw [if_neg c]
/-- The lists are permutations of a degree that is allowed. -/
theorem perms_of {a0 : Int} {G : List (List Int)} (h : (G.all (permS a0) && decide (1 ≤ a0 ∧ a0 ≤ 4)) = true) : ∃ n : Nat, a0 = n ∧ 1 ≤ n ∧ n ≤ 4 ∧ ∀ g ∈ G, PermN n g := by
  rw [Bool.and_eq_true] at h
  have hc := of_decide_eq_true h.2
  obtain ⟨n, rfl⟩ : ∃ n : Nat, a0 = n := ⟨a0.toNat, by omega⟩
  have hn : n ≤ 8 := by omega
  exact ⟨n, rfl, by omega, by omega, fun g hg => permN_of (by rw [← permS_goP n hn g]; exact List.all_eq_true.1 h.1 g hg)⟩

theorem letters_mem {g : Int} {w : List Int} (h : letters g w = true) : ∀ a ∈ w, a ≠ 0 ∧ -g ≤ a ∧ a ≤ g := by
  intro a ha
  have := List.all_eq_true.1 h a ha
  simpa using this

theorem letters_in {g : Int} {R G : List (List Int)} (h : presB g R = true) (hG : (G.length : Int) = g) : ∀ w ∈ R, ∀ b ∈ w, LetterIn G b := by
  intro w hw b hb
  unfold presB at h
  rw [Bool.and_eq_true] at h
  have h1 := List.all_eq_true.1 h.2 w hw
  unfold redB at h1
  rw [Bool.and_eq_true, Bool.and_eq_true] at h1
  have := letters_mem h1.1.1 b hb
  unfold LetterIn
  rw [hG]
  exact this

theorem anyO_triv {n : Nat} (hn : n ≤ 8) {G : List (List Int)} (hG : ∀ g ∈ G, PermN n g) (hl : G.length ≤ 1048576) : ∀ (R : List (List Int)), (∀ w ∈ R, ∀ b ∈ w, LetterIn G b) → (∀ w ∈ R, w.length ≤ 1048576) → Evt (fun K => anyO (impl_IsRepresentation.q K (n : Int) G) R) (!(R.all fun w => trivB G w n 0))
  | [], _, _ => Evt.const fun _ => rfl
  | w :: R, hw, hwl => by
    have h := isTrivial_ev hn hG hl w (hw w List.mem_cons_self) (hwl w List.mem_cons_self)
    have hq : Evt (fun K => impl_IsRepresentation.q K (n : Int) G w) (!(trivB G w n 0)) := Evt.bind h (h := fun _ b => some (!b)) (Evt.const fun _ => rfl) fun _ => rfl
    rw [List.all_cons]
    refine Evt.bind hq (h := fun K b => if b = true then some true else anyO (impl_IsRepresentation.q K (n : Int) G) R) ?_ fun _ => rfl
    by_cases c : trivB G w n 0 = true
    · rw [c, Bool.true_and]
      exact Evt.same (anyO_triv hn hG hl R (fun x hx => hw x (List.mem_cons_of_mem _ hx)) fun x hx => hwl x (List.mem_cons_of_mem _ hx)) fun K => if_neg (by simp)
    · rw [Bool.not_eq_true] at c
      rw [c, Bool.false_and]
      exact Evt.const fun K => if_pos rfl
theorem isRep_both (a0 a1 : Int) (R G : List (List Int)) (hR : R.length ≤ 1048576) (hRl : ∀ w ∈ R, w.length ≤ 1048576) (hRw : ∀ w ∈ R, ∀ y ∈ w, (Lit.int .i64 y).wf = true) (hl : G.length ≤ 1048576) (hr : ∀ g ∈ G, g.length ≤ 1048576) :
    ∃ b, Evt (fun K => spec_IsRepresentation.f K a0 R a1 G) b ∧ Evt (fun K => impl_IsRepresentation.f K a0 R a1 G) b ∧ (b = true → presB a0 R = true ∧ (G.length : Int) = a0 ∧ (∃ n : Nat, a1 = n ∧ 1 ≤ n ∧ n ≤ 4 ∧ (∀ g ∈ G, PermN n g) ∧ (R.all fun w => trivB G w n 0) = true)) := by
  have p1 : Evt (fun K => spec_IsPresentation.f K a0 R) (presB a0 R) := ⟨2097201, fun K hK => specPres_eq a0 R 1048576 K (Nat.le_refl _) hR hRl hRw (by omega)⟩
  have p2 : Evt (fun K => impl_isPresentation.f K a0 R) (presB a0 R) := ⟨1048577, fun K hK => implisPres_eq a0 R 1048576 K (Nat.le_refl _) hRl hRw (by omega)⟩
  have d1 := deg_ev a1 G hl hr
  have d2 := are_ev a1 G hr
  by_cases c1 : presB a0 R = true
  · rw [c1] at p1 p2
    by_cases c2 : (G.length : Int) = a0
    · by_cases c3 : (G.all (permS a1) && decide (1 ≤ a1 ∧ a1 ≤ 4)) = true
      · rw [c3] at d1 d2
        obtain ⟨n, rfl, hn1, hn4, hG⟩ := perms_of c3
        have hw := letters_in c1 c2
        have t1 := l05Trivial_ev (by omega : n ≤ 8) hG hl a0 R hw hRl hR
        have t2 := anyO_triv (by omega : n ≤ 8) hG hl R hw hRl
        refine ⟨R.all fun w => trivB G w n 0, ?_, ?_, fun hb => ⟨c1, c2, n, rfl, hn1, hn4, hG, hb⟩⟩
        · refine Evt.bind p1 (h := fun K t => if t = true then (if (G.length : Int) = a0 then ((spec_l05Degree.f K (n : Int) G).bind fun t161 => (if t161 = true then ((spec_l05Trivial.f K a0 R (n : Int) G).bind fun t162 => (some t162)) else (some false))) else (some false)) else (some false)) ?_ fun _ => rfl
          refine Evt.bind d1 (h := fun K t => if t = true then ((spec_l05Trivial.f K a0 R (n : Int) G).bind fun t162 => (some t162)) else (some false)) ?_ fun K => by rw [if_pos rfl, if_pos c2]
          exact Evt.bind t1 (h := fun _ t => some t) (Evt.const fun _ => rfl) fun K => if_pos rfl
        · refine Evt.bind p2 (h := fun K b1 => if b1 = true then (impl_arePermutations.f K (n : Int) G).bind fun b2 => if b2 = true then (if (G.length : Int) = a0 then (anyO (impl_IsRepresentation.q K (n : Int) G) R).bind fun b => some (!b) else some false) else some false else some false) ?_ fun _ => rfl
          refine Evt.bind d2 (h := fun K b2 => if b2 = true then (if (G.length : Int) = a0 then (anyO (impl_IsRepresentation.q K (n : Int) G) R).bind fun b => some (!b) else some false) else some false) ?_ fun K => if_pos rfl
          exact Evt.bind t2 (h := fun _ b => some (!b)) (Evt.const fun _ => by rw [Bool.not_not]) fun K => by rw [if_pos rfl, if_pos c2]
      · rw [Bool.not_eq_true] at c3
        rw [c3] at d1 d2
        refine ⟨false, ?_, ?_, fun hb => absurd hb (by simp)⟩
        · refine Evt.bind p1 (h := fun K t => if t = true then (if (G.length : Int) = a0 then ((spec_l05Degree.f K a1 G).bind fun t161 => (if t161 = true then ((spec_l05Trivial.f K a0 R a1 G).bind fun t162 => (some t162)) else (some false))) else (some false)) else (some false)) ?_ fun _ => rfl
          exact Evt.bind d1 (h := fun K t => if t = true then ((spec_l05Trivial.f K a0 R a1 G).bind fun t162 => (some t162)) else (some false)) (Evt.const fun K => if_neg (by simp)) fun K => by rw [if_pos rfl, if_pos c2]
        · refine Evt.bind p2 (h := fun K b1 => if b1 = true then (impl_arePermutations.f K a1 G).bind fun b2 => if b2 = true then (if (G.length : Int) = a0 then (anyO (impl_IsRepresentation.q K a1 G) R).bind fun b => some (!b) else some false) else some false else some false) ?_ fun _ => rfl
          exact Evt.bind d2 (h := fun K b2 => if b2 = true then (if (G.length : Int) = a0 then (anyO (impl_IsRepresentation.q K a1 G) R).bind fun b => some (!b) else some false) else some false) (Evt.const fun K => if_neg (by simp)) fun K => if_pos rfl
    · refine ⟨false, ?_, ?_, fun hb => absurd hb (by simp)⟩
      · exact Evt.bind p1 (h := fun K t => if t = true then (if (G.length : Int) = a0 then ((spec_l05Degree.f K a1 G).bind fun t161 => (if t161 = true then ((spec_l05Trivial.f K a0 R a1 G).bind fun t162 => (some t162)) else (some false))) else (some false)) else (some false)) (Evt.const fun K => by rw [if_pos rfl, if_neg c2]) fun _ => rfl
      · refine Evt.bind p2 (h := fun K b1 => if b1 = true then (impl_arePermutations.f K a1 G).bind fun b2 => if b2 = true then (if (G.length : Int) = a0 then (anyO (impl_IsRepresentation.q K a1 G) R).bind fun b => some (!b) else some false) else some false else some false) ?_ fun _ => rfl
        exact Evt.bind d2 (h := fun K b2 => if b2 = true then (if (G.length : Int) = a0 then (anyO (impl_IsRepresentation.q K a1 G) R).bind fun b => some (!b) else some false) else some false) (Evt.const fun K => by
          by_cases cc : (G.all (permS a1) && decide (1 ≤ a1 ∧ a1 ≤ 4)) = true
          · rw [if_pos cc, if_neg c2]
          · rw [if_neg cc]) fun K => if_pos rfl
  · rw [Bool.not_eq_true] at c1
    rw [c1] at p1 p2
    refine ⟨false, ?_, ?_, fun hb => absurd hb (by simp)⟩
    · exact Evt.bind p1 (h := fun K t => if t = true then (if (G.length : Int) = a0 then ((spec_l05Degree.f K a1 G).bind fun t161 => (if t161 = true then ((spec_l05Trivial.f K a0 R a1 G).bind fun t162 => (some t162)) else (some false))) else (some false)) else (some false)) (Evt.const fun K => if_neg (by simp)) fun _ => rfl
    · exact Evt.bind p2 (h := fun K b1 => if b1 = true then (impl_arePermutations.f K a1 G).bind fun b2 => if b2 = true then (if (G.length : Int) = a0 then (anyO (impl_IsRepresentation.q K a1 G) R).bind fun b => some (!b) else some false) else some false else some false) (Evt.const fun K => if_neg (by simp)) fun _ => rfl

theorem rdSet (l : List Int) (p q : Nat) (h : p < l.length) (v : Int) : rd (l.set p v) (q : Int) = if q = p then v else rd l (q : Int) := by
  unfold rd
  rw [Int.toNat_natCast, List.getD_eq_getElem?_getD, List.getD_eq_getElem?_getD]
  by_cases e : p = q
  · subst e
    rw [if_pos rfl, List.getElem?_set_self h]
    rfl
  · rw [if_neg (Ne.symm e), List.getElem?_set_ne e]
/-- The first entries stand in order. -/
def SortedTo (i : Nat) (x : List Int) : Prop := ∀ a b : Nat, a < b → b < i → rd x (a : Int) ≤ rd x (b : Int)
theorem less_eq (a b : Int) : cmp_Less_int64.f a b = some (decide (a < b)) := by
  unfold cmp_Less_int64.f cmp_isNaN_int64.f
  simp
theorem sort_l1 (L i : Nat) (hL : L ≤ 1000) (hi : i < L) (Q : List Int → Prop) : ∀ (j : Nat) (x : List Int), j ≤ i → x.length = L → (∀ a b : Nat, a < b → b ≤ i → b ≠ j → rd x (a : Int) ≤ rd x (b : Int)) →
    (∀ x' : List Int, x'.Perm x → SortedTo (i + 1) x' → ∃ r, Evt (fun K => slices_insertionSortOrdered_int64.l0 K x' 0 (L : Int) ((i + 1 : Nat) : Int)) r ∧ Q r) →
    ∃ r, Evt (fun K => slices_insertionSortOrdered_int64.l1 K x 0 (L : Int) (i : Int) (j : Int)) r ∧ Q r
  | 0, x, hj, hx, hs, hk => by
    obtain ⟨r, h1, h2⟩ := hk x (List.Perm.refl _) (fun a b hab hb => hs a b hab (by omega) (by omega))
    have e2 : wrap64 ((i : Int) + 1) = ((i + 1 : Nat) : Int) := w64n (i + 1) (by omega)
    refine ⟨r, Evt.step h1 fun K => ?_, h2⟩
    rw [slices_insertionSortOrdered_int64.l1, if_neg (by simp), e2]
  | j + 1, x, hj, hx, hs, hk => by
    have e2 : wrap64 ((i : Int) + 1) = ((i + 1 : Nat) : Int) := w64n (i + 1) (by omega)
    have e1 : wrap64 (((j + 1 : Nat) : Int) - 1) = (j : Int) := by rw [show ((j + 1 : Nat) : Int) - 1 = (j : Int) by omega]; exact w64n j (by omega)
    have hf : ∀ K, slices_insertionSortOrdered_int64.l1 (K + 1) x 0 (L : Int) (i : Int) ((j + 1 : Nat) : Int) = (if rd x ((j + 1 : Nat) : Int) < rd x (j : Int) then slices_insertionSortOrdered_int64.l1 K ((x.set (j + 1) (rd x (j : Int))).set j (rd x ((j + 1 : Nat) : Int))) 0 (L : Int) (i : Int) (j : Int) else slices_insertionSortOrdered_int64.l0 K x 0 (L : Int) ((i + 1 : Nat) : Int)) := by
      intro K
      rw [slices_insertionSortOrdered_int64.l1, if_pos (by omega), if_pos (by omega), if_pos (by omega), e1, if_pos (by omega), if_pos (by omega), less_eq, Option.bind_some, e2, Int.toNat_natCast, Int.toNat_natCast]
      by_cases c : rd x ((j + 1 : Nat) : Int) < rd x (j : Int)
      · rw [if_pos c, if_pos (decide_eq_true c)]
      · rw [if_neg c, if_neg (by simpa using c)]
    by_cases c : rd x ((j + 1 : Nat) : Int) < rd x (j : Int)
    · have hp : ((x.set (j + 1) (rd x (j : Int))).set j (rd x ((j + 1 : Nat) : Int))).Perm x := by
        rw [rd_nat x j (by omega), rd_nat x (j + 1) (by omega)]
        exact List.set_set_perm (by omega) (by omega)
      have hv : ∀ q : Nat, rd ((x.set (j + 1) (rd x (j : Int))).set j (rd x ((j + 1 : Nat) : Int))) (q : Int) = if q = j then rd x ((j + 1 : Nat) : Int) else if q = j + 1 then rd x (j : Int) else rd x (q : Int) := by
        intro q
        rw [rdSet _ j q (by simp; omega), rdSet x (j + 1) q (by omega)]
      obtain ⟨r, h1, h2⟩ := sort_l1 L i hL hi Q j _ (by omega) (by simp [hx]) (fun a b hab hb hne => by
        rw [hv a, hv b, if_neg hne]
        by_cases b1 : b = j + 1
        · rw [if_pos b1]
          by_cases a1 : a = j
          · rw [if_pos a1]
            omega
          · rw [if_neg a1, if_neg (by omega)]
            exact hs a j (by omega) (by omega) (by omega)
        · rw [if_neg b1]
          have h3 := hs a b hab hb b1
          by_cases a1 : a = j
          · rw [if_pos a1]
            exact hs (j + 1) b (by omega) hb b1
          · rw [if_neg a1]
            by_cases a2 : a = j + 1
            · rw [if_pos a2]
              exact hs j b (by omega) hb b1
            · rw [if_neg a2]
              exact h3) (fun x' hx' hs' => hk x' (hx'.trans hp) hs')
      exact ⟨r, Evt.step h1 fun K => by rw [hf, if_pos c], h2⟩
    · obtain ⟨r, h1, h2⟩ := hk x (List.Perm.refl _) (fun a b hab hb => by
        by_cases b1 : b = j + 1
        · subst b1
          by_cases a1 : a = j
          · subst a1
            omega
          · have := hs a j (by omega) (by omega) (by omega)
            omega
        · exact hs a b hab (by omega) b1)
      exact ⟨r, Evt.step h1 fun K => by rw [hf, if_neg c], h2⟩
theorem sort_l0 (L : Nat) (hL : L ≤ 1000) : ∀ (d i : Nat) (x : List Int), i + d = L → x.length = L → SortedTo i x →
    ∃ r, Evt (fun K => slices_insertionSortOrdered_int64.l0 K x 0 (L : Int) (i : Int)) r ∧ r.Perm x ∧ SortedTo L r
  | 0, i, x, hd, hx, hs => by
    refine ⟨x, Evt.now fun K => ?_, List.Perm.refl _, by rw [← hd]; exact hs⟩
    rw [slices_insertionSortOrdered_int64.l0, if_neg (by omega)]
  | d + 1, i, x, hd, hx, hs => by
    obtain ⟨r, h1, h2⟩ := sort_l1 L i hL (by omega) (fun r => r.Perm x ∧ SortedTo L r) i x (Nat.le_refl _) hx (fun a b hab hb hne => hs a b hab (by omega)) (fun x' hp hs' => by
      obtain ⟨r, g1, g2, g3⟩ := sort_l0 L hL d (i + 1) x' (by omega) (by rw [hp.length_eq, hx]) hs'
      exact ⟨r, g1, g2.trans hp, g3⟩)
    refine ⟨r, Evt.step h1 fun K => ?_, h2⟩
    rw [slices_insertionSortOrdered_int64.l0, if_pos (by omega)]
theorem sort_ev (l : List Int) (hl : l.length ≤ 12) : ∃ r, Evt (fun K => slices_Sort_int64_int64.f K l) r ∧ r.Perm l ∧ SortedTo l.length r := by
  have e01 : wrap64 (0 + 1) = ((1 : Nat) : Int) := w64n 1 (by omega)
  by_cases c : l.length = 0
  · refine ⟨l, Evt.now fun K => ?_, List.Perm.refl _, fun a b _ hb => by omega⟩
    unfold slices_Sort_int64_int64.f slices_insertionSortOrdered_int64.f
    rw [if_pos hl, slices_insertionSortOrdered_int64.l0, if_neg (by rw [c, e01]; omega)]
  · obtain ⟨r, h1, h2⟩ := sort_l0 l.length (by omega) (l.length - 1) 1 l (by omega) rfl (fun a b h1 h2 => by omega)
    refine ⟨r, Evt.same h1 fun K => ?_, h2⟩
    unfold slices_Sort_int64_int64.f slices_insertionSortOrdered_int64.f
    rw [if_pos hl, e01]

/-- The images of a point. -/
def candI (G : List (List Int)) (y : Int) : List Int := G.map fun g => rd g y
theorem candI_in {n : Nat} {G : List (List Int)} (hG : ∀ g ∈ G, PermN n g) (y : Int) (h0 : 0 ≤ y) (h1 : y < n) : InN n (candI G y) := by
  intro x hx
  obtain ⟨g, hg, rfl⟩ := List.mem_map.1 hx
  exact (hG g hg).at h0 h1
theorem orb_l2 {n : Nat} (hn : n ≤ 8) {G : List (List Int)} (hG : ∀ g ∈ G, PermN n g) (hl : G.length ≤ 1048576) (out : List (List Int)) (o : List Int) (X x : Int) (i : Nat) (y : Int) (h0 : 0 ≤ y) (h1 : y < n) (r : List (List Int)) :
    ∀ (d j : Nat) (q : List Int), j + d = G.length → i < q.length → rd q (i : Int) = y → Good n o q →
      Evt (fun K => impl_orbits.l1 K G out (mkB n (o ++ ((G.drop j).map fun g => rd g y).foldl (pushO o) q)) (((G.drop j).map fun g => rd g y).foldl (pushO o) q) ((i + 1 : Nat) : Int) X x) r →
      Evt (fun K => impl_orbits.l2 K G out (mkB n (o ++ q)) q (i : Int) X x G (G.length : Int) (j : Int)) r
  | 0, j, q, hd, hi, hy, hg, h => by
    rw [List.drop_of_length_le (by omega)] at h
    refine Evt.step h fun K => ?_
    have hq := hg.len
    have ei : wrap64 ((i : Int) + 1) = ((i + 1 : Nat) : Int) := w64n (i + 1) (by omega)
    rw [impl_orbits.l2, if_neg (by omega), ei]
    rfl
  | d + 1, j, q, hd, hi, hy, hg, h => by
    have hq := hg.len
    have hj : j < G.length := by omega
    have hd2 : (j + 1) + d = G.length := by omega
    have ej : wrap64 ((j : Int) + 1) = ((j + 1 : Nat) : Int) := w64n (j + 1) (by omega)
    have f1 : (j : Int) < (G.length : Int) := Int.ofNat_lt.2 hj
    have f2 : (0 : Int) ≤ (j : Int) := Int.natCast_nonneg j
    have f3 : (0 : Int) ≤ (i : Int) := Int.natCast_nonneg i
    have f4 : (i : Int) < (q.length : Int) := Int.ofNat_lt.2 hi
    have f7 : q.length < 17592186044416 := Nat.lt_of_le_of_lt (Nat.le_trans hq hn) (by decide)
    have hm := rdL1_mem G j hj
    obtain ⟨g, hge⟩ : ∃ g, g = rd_L1 G (j : Int) := ⟨_, rfl⟩
    rw [drop_rdL1 G j hj, ← hge, List.map_cons, List.foldl_cons] at h
    rw [← hge] at hm
    have hp := hG g hm
    have hc := hp.at h0 h1
    have f5 : y < (g.length : Int) := by rw [hp.1]; exact h1
    obtain ⟨c, hce⟩ : ∃ c, c = rd g y := ⟨_, rfl⟩
    rw [← hce] at h hc
    have f6 : c < ((mkB n (o ++ q)).length : Int) := by rw [mkB_length]; exact hc.2
    obtain ⟨t, ht⟩ := pushO_pre o q c
    have hi2 : i < (pushO o q c).length := by rw [ht, List.length_append]; exact Nat.lt_of_lt_of_le hi (Nat.le_add_right _ _)
    have ih := orb_l2 hn hG hl out o X x i y h0 h1 r d (j + 1) (pushO o q c) hd2 hi2 (by rw [ht, rd_pre q t i hi, hy]) (hg.push hc.1 hc.2) h
    refine Evt.step ih fun K => ?_
    clear ih h
    rw [impl_orbits.l2, if_pos f1, if_pos f2, if_pos f1, if_pos f3, if_pos f4, hy, ← hge, if_pos h0, if_pos f5, ← hce, if_pos hc.1, if_pos f6, rdB n _ c hc.1 hc.2, ej]
    by_cases e : c ∈ o ++ q
    · have e1 : pushO o q c = q := if_pos e
      rw [e1, if_pos (decide_eq_true e)]
    · have e1 : pushO o q c = q ++ [c] := if_neg e
      rw [e1, if_neg (by simpa using e), if_pos f7, mkB_set n _ c hc.1, List.append_assoc]
theorem orb_l1 {n : Nat} (hn : n ≤ 8) {G : List (List Int)} (hG : ∀ g ∈ G, PermN n g) (hl : G.length ≤ 1048576) (out : List (List Int)) (o : List Int) (X x : Int) (r : List (List Int)) :
    ∀ (d i : Nat) (q : List Int), Good n o q → i ≤ q.length → n < d + i →
      Evt (fun K => (slices_Sort_int64_int64.f K (bfsO o (candI G) d i q)).bind fun t => if out.length < 5864062014805 then impl_orbits.l0 K G (out ++ [t]) (mkB n (o ++ bfsO o (candI G) d i q)) X (wrap64 (x + 1)) else none) r →
      Evt (fun K => impl_orbits.l1 K G out (mkB n (o ++ q)) q (i : Int) X x) r
  | 0, i, q, hg, hi, hd, _ => by
    have := hg.len
    omega
  | d + 1, i, q, hg, hi, hd, h => by
    unfold bfsO at h
    by_cases c : i < q.length
    · rw [if_pos c] at h
      have hy := hg.right.2 _ (rd_in q (i : Int) (by omega) (by omega))
      obtain ⟨g1, ⟨t, g2⟩, g3, g4⟩ := foldO (n := n) (o := o) (candI G (rd q (i : Int))) q hg (candI_in hG _ hy.1 hy.2)
      have ih := orb_l1 hn hG hl out o X x r d (i + 1) _ g1 (by rw [g2]; simp; omega) (by omega) h
      have h2 := orb_l2 hn hG hl out o X x i (rd q (i : Int)) hy.1 hy.2 r G.length 0 q (by omega) c rfl hg ih
      refine Evt.step h2 fun K => ?_
      rw [impl_orbits.l1, if_pos (by omega)]
      rfl
    · rw [if_neg c] at h
      refine Evt.step h fun K => ?_
      rw [impl_orbits.l1, if_neg (by omega)]
/-- The orbits that are found from x on, each in the order in which it was found. -/
def orbL (n : Nat) (G : List (List Int)) : Nat → Nat → List Int → List (List Int)
  | 0, _, _ => []
  | d + 1, x, o => if (x : Int) ∈ o then orbL n G d (x + 1) o else bfsO o (candI G) (n + 1) 0 [(x : Int)] :: orbL n G d (x + 1) (o ++ bfsO o (candI G) (n + 1) 0 [(x : Int)])
/-- The same lists, each sorted. -/
def Like : List (List Int) → List (List Int) → Prop
  | [], [] => True
  | a :: s, b :: t => (a.Perm b ∧ SortedTo b.length a) ∧ Like s t
  | _, _ => False
theorem Like.len : ∀ {s t : List (List Int)}, Like s t → s.length = t.length
  | [], [], _ => rfl
  | _ :: s, _ :: t, h => by rw [List.length_cons, List.length_cons, Like.len h.2]
  | [], _ :: _, h => h.elim
  | _ :: _, [], h => h.elim
theorem good_one {n : Nat} {o : List Int} (hg : Good n o []) {x : Int} (h0 : 0 ≤ x) (h1 : x < n) (c : x ∉ o) : Good n o [x] := by
  have := hg.push (c := x) h0 h1
  unfold pushO at this
  rw [List.append_nil, if_neg c] at this
  exact this
theorem orb_l0 {n : Nat} (hn : n ≤ 8) {G : List (List Int)} (hG : ∀ g ∈ G, PermN n g) (hl : G.length ≤ 1048576) :
    ∀ (d x : Nat) (o : List Int) (out : List (List Int)), x + d = n → Good n o [] → out.length ≤ x →
      ∃ more, Evt (fun K => impl_orbits.l0 K G out (mkB n o) (n : Int) (x : Int)) (out ++ more) ∧ Like more (orbL n G d x o)
  | 0, x, o, out, hd, hg, ho => by
    refine ⟨[], Evt.now fun K => ?_, trivial⟩
    rw [impl_orbits.l0, if_neg (by omega), List.append_nil]
  | d + 1, x, o, out, hd, hg, ho => by
    have hxn : (x : Int) < (n : Int) := by omega
    have ho2 : out.length < 5864062014805 := Nat.lt_of_le_of_lt (show out.length ≤ 8 by omega) (by decide)
    have ex : wrap64 ((x : Int) + 1) = ((x + 1 : Nat) : Int) := w64n (x + 1) (by omega)
    have hf : ∀ K, impl_orbits.l0 (K + 1) G out (mkB n o) (n : Int) (x : Int) = (if (x : Int) ∈ o then impl_orbits.l0 K G out (mkB n o) (n : Int) ((x + 1 : Nat) : Int) else impl_orbits.l1 K G out (mkB n (o ++ [(x : Int)])) [(x : Int)] 0 (n : Int) (x : Int)) := by
      intro K
      rw [impl_orbits.l0, if_pos hxn, if_pos (Int.natCast_nonneg x), if_pos (by rw [mkB_length]; exact hxn), rdB n o (x : Int) (Int.natCast_nonneg x) hxn, ex, mkB_set n o (x : Int) (Int.natCast_nonneg x)]
      by_cases c : (x : Int) ∈ o
      · rw [if_pos c, if_pos (decide_eq_true c)]
      · rw [if_neg c, if_neg (by simpa using c)]
    have hd2 : x + 1 + d = n := by omega
    unfold orbL
    by_cases c : (x : Int) ∈ o
    · obtain ⟨more, h1, h2⟩ := orb_l0 hn hG hl d (x + 1) o out hd2 hg (Nat.le_succ_of_le ho)
      rw [if_pos c]
      exact ⟨more, Evt.step h1 fun K => by rw [hf, if_pos c], h2⟩
    · have hg1 := good_one hg (Int.natCast_nonneg x) hxn c
      obtain ⟨g1, g2, _, _⟩ := bfsO_facts (n := n) (o := o) (cand := candI G) (fun y h0 h1 => candI_in hG y h0 h1) (n + 1) 0 [(x : Int)] hg1 (Nat.zero_le _) (by clear ex hf; omega) (fun j hj => absurd hj (Nat.not_lt_zero j))
      obtain ⟨s, s1, s2, s3⟩ := sort_ev (bfsO o (candI G) (n + 1) 0 [(x : Int)]) (Nat.le_trans g1.len (Nat.le_trans hn (by decide)))
      obtain ⟨more, h1, h2⟩ := orb_l0 hn hG hl d (x + 1) (o ++ bfsO o (candI G) (n + 1) 0 [(x : Int)]) (out ++ [s]) hd2 (by unfold Good; rw [List.append_nil]; exact g1) (by rw [List.length_append]; exact Nat.succ_le_succ ho)
      rw [if_neg c]
      refine ⟨s :: more, ?_, ⟨s2, s3⟩, h2⟩
      have h3 := orb_l1 hn hG hl out o (n : Int) (x : Int) (out ++ s :: more) (n + 1) 0 [(x : Int)] hg1 (Nat.zero_le _) (by clear ex hf; omega) (Evt.bind s1 (h := fun K t => if out.length < 5864062014805 then impl_orbits.l0 K G (out ++ [t]) (mkB n (o ++ bfsO o (candI G) (n + 1) 0 [(x : Int)])) (n : Int) (wrap64 ((x : Int) + 1)) else none) (by
        rw [List.append_assoc, List.singleton_append] at h1
        exact Evt.same h1 fun K => by rw [if_pos ho2, ex]) fun _ => rfl)
      exact Evt.step h3 fun K => by rw [hf, if_neg c]; rfl
theorem orbits_ev {n : Nat} (hn : n ≤ 8) {G : List (List Int)} (hG : ∀ g ∈ G, PermN n g) (hl : G.length ≤ 1048576) : ∃ r, Evt (fun K => impl_orbits.f K (n : Int) G) r ∧ Like r (orbL n G n 0 []) := by
  obtain ⟨r, h1, h2⟩ := orb_l0 hn hG hl n 0 [] [] (by omega) ⟨by simp, fun x hx => absurd hx (by simp)⟩ (Nat.le_refl _)
  refine ⟨r, Evt.same h1 fun K => ?_, h2⟩
  unfold impl_orbits.f
  rw [if_pos (Int.natCast_nonneg n), Int.toNat_natCast, if_pos (Nat.le_trans hn (by decide)), mkB_nil]
  rfl

/-- All labels of one kind become another. -/
def mergeL (L : List Int) (a b : Int) : List Int := L.map fun v => if v = mx a b then mn a b else v
theorem mergeL_length (L : List Int) (a b : Int) : (mergeL L a b).length = L.length := by simp [mergeL]
theorem rd_merge (L : List Int) (a b y : Int) (h0 : 0 ≤ y) (h1 : y < L.length) : rd (mergeL L a b) y = if rd L y = mx a b then mn a b else rd L y := by
  obtain ⟨m, rfl⟩ : ∃ m : Nat, y = m := ⟨y.toNat, by omega⟩
  rw [rd_nat _ m (by rw [mergeL_length]; omega), rd_nat L m (by omega)]
  unfold mergeL
  rw [List.getElem_map]
/-- Closed under the letters, and under their inverses. -/
def Inv (n : Nat) (G : List (List Int)) (P : Int → Prop) : Prop := ∀ g ∈ G, ∀ x : Int, 0 ≤ x → x < n → (P x ↔ P (rd g x))
/-- Labels: each is the label of itself, none is above its place, and a label stands in its place's orbit. -/
def Lab (n : Nat) (G : List (List Int)) (L : List Int) : Prop := L.length = n ∧ (∀ y : Int, 0 ≤ y → y < n → 0 ≤ rd L y ∧ rd L y ≤ y ∧ rd L (rd L y) = rd L y) ∧ ∀ P, Inv n G P → ∀ y : Int, 0 ≤ y → y < n → (P y ↔ P (rd L y))
theorem rangeI_rd (n : Nat) (y : Int) (h0 : 0 ≤ y) (h1 : y < n) : rd (rangeI n) y = y := by
  obtain ⟨m, rfl⟩ : ∃ m : Nat, y = m := ⟨y.toNat, by omega⟩
  rw [rd_nat _ m (by rw [rangeI_len]; omega)]
  simp [rangeI]
theorem Lab.start (n : Nat) (G : List (List Int)) : Lab n G (rangeI n) := by
  refine ⟨rangeI_len n, fun y h0 h1 => ?_, fun P _ y h0 h1 => by rw [rangeI_rd n y h0 h1]⟩
  rw [rangeI_rd n y h0 h1, rangeI_rd n y h0 h1]
  exact ⟨h0, Int.le_refl y, rfl⟩
theorem mx_mn (a b : Int) : (mx a b = a ∧ mn a b = b ∨ mx a b = b ∧ mn a b = a) ∧ mn a b ≤ mx a b := by
  unfold mx mn
  split <;> split <;> omega
theorem Lab.merge {n : Nat} {G : List (List Int)} (hG : ∀ g ∈ G, PermN n g) {L : List Int} (h : Lab n G L) {g : List Int} (hg : g ∈ G) {x : Int} (h0 : 0 ≤ x) (h1 : x < n) : Lab n G (mergeL L (rd L x) (rd L (rd g x))) := by
  obtain ⟨hl, hr, hp⟩ := h
  have hx := hr x h0 h1
  have hgx := (hG g hg).at h0 h1
  have hy := hr _ hgx.1 hgx.2
  generalize ha : rd L x = a at hx
  generalize hb : rd L (rd g x) = b at hy
  obtain ⟨hm, hle⟩ := mx_mn a b
  have hv : ∀ y : Int, 0 ≤ y → y < n → rd (mergeL L a b) y = if rd L y = mx a b then mn a b else rd L y := fun y y0 y1 => rd_merge L a b y y0 (by rw [hl]; exact y1)
  have hmn : 0 ≤ mn a b ∧ mn a b < n ∧ rd L (mn a b) = mn a b := by
    rcases hm with ⟨_, e⟩ | ⟨_, e⟩ <;> rw [e]
    · exact ⟨hy.1, by omega, hy.2.2⟩
    · exact ⟨hx.1, by omega, hx.2.2⟩
  refine ⟨by rw [mergeL_length, hl], fun y y0 y1 => ?_, fun P hP y y0 y1 => ?_⟩
  · have hyy := hr y y0 y1
    rw [hv y y0 y1]
    by_cases c : rd L y = mx a b
    · rw [if_pos c, hv _ hmn.1 hmn.2.1, hmn.2.2]
      refine ⟨hmn.1, by omega, ?_⟩
      split <;> rfl
    · rw [if_neg c, hv _ hyy.1 (by omega), hyy.2.2, if_neg c]
      exact ⟨hyy.1, hyy.2.1, rfl⟩
  · rw [hv y y0 y1, hp P hP y y0 y1]
    by_cases c : rd L y = mx a b
    · rw [if_pos c, c]
      have e1 := hp P hP x h0 h1
      have e2 := hp P hP _ hgx.1 hgx.2
      have e3 := hP g hg x h0 h1
      rw [ha] at e1
      rw [hb] at e2
      rcases hm with ⟨p1, p2⟩ | ⟨p1, p2⟩ <;> rw [p1, p2]
      · exact e1.symm.trans (e3.trans e2)
      · exact (e1.symm.trans (e3.trans e2)).symm
    · rw [if_neg c]
theorem merge_same (L : List Int) (a b y z : Int) (h0 : 0 ≤ y) (h1 : y < L.length) (z0 : 0 ≤ z) (z1 : z < L.length) (h : rd L y = rd L z) : rd (mergeL L a b) y = rd (mergeL L a b) z := by
  rw [rd_merge L a b y h0 h1, rd_merge L a b z z0 z1, h]
theorem merge_now (L : List Int) (y z : Int) (h0 : 0 ≤ y) (h1 : y < L.length) (z0 : 0 ≤ z) (z1 : z < L.length) : rd (mergeL L (rd L y) (rd L z)) y = rd (mergeL L (rd L y) (rd L z)) z := by
  rw [rd_merge L _ _ y h0 h1, rd_merge L _ _ z z0 z1]
  obtain ⟨hm, _⟩ := mx_mn (rd L y) (rd L z)
  rcases hm with ⟨p1, p2⟩ | ⟨p1, p2⟩ <;> rw [p1, p2]
  · rw [if_pos rfl]
    split
    · rfl
    · rfl
  · rw [if_pos rfl]
    split
    · rfl
    · rfl
/-- The rows of one label each. -/
def labRows (n : Nat) (L : List Int) : Nat → Nat → List (List Int)
  | 0, _ => []
  | d + 1, v => if (rangeI n).filter (fun y => decide (rd L y = (v : Int))) = [] then labRows n L d (v + 1) else (rangeI n).filter (fun y => decide (rd L y = (v : Int))) :: labRows n L d (v + 1)
theorem incr_eq : ∀ (s t : List Int), s.Pairwise (· < ·) → t.Pairwise (· < ·) → (∀ x, x ∈ s ↔ x ∈ t) → s = t
  | [], [], _, _, _ => rfl
  | [], b :: t, _, _, h => absurd ((h b).2 (by simp)) (by simp)
  | a :: s, [], _, _, h => absurd ((h a).1 (by simp)) (by simp)
  | a :: s, b :: t, hs, ht, h => by
    obtain ⟨hs1, hs2⟩ := List.pairwise_cons.1 hs
    obtain ⟨ht1, ht2⟩ := List.pairwise_cons.1 ht
    have hab : a = b := by
      rcases List.mem_cons.1 ((h a).1 (by simp)) with e | e
      · exact e
      · rcases List.mem_cons.1 ((h b).2 (by simp)) with e2 | e2
        · exact e2.symm
        · have := hs1 b e2
          have := ht1 a e
          omega
    subst hab
    rw [incr_eq s t hs2 ht2 fun x => ?_]
    constructor
    · intro hx
      rcases List.mem_cons.1 ((h x).1 (List.mem_cons_of_mem _ hx)) with e | e
      · have := hs1 x hx
        omega
      · exact e
    · intro hx
      rcases List.mem_cons.1 ((h x).2 (List.mem_cons_of_mem _ hx)) with e | e
      · have := ht1 x hx
        omega
      · exact e
theorem incr_of_sorted {a : List Int} {m : Nat} (hs : SortedTo m a) (hm : a.length ≤ m) (hn : a.Nodup) : a.Pairwise (· < ·) := by
  refine List.pairwise_iff_getElem.2 fun i j hi hj hij => ?_
  have h1 := hs i j hij (by omega)
  rw [rd_nat a i hi, rd_nat a j hj] at h1
  have h2 := List.pairwise_iff_getElem.1 hn i j hi hj hij
  omega
/-- The program's orbits are the rows of labels. -/
theorem like_labels {n : Nat} {G : List (List Int)} (hG : ∀ g ∈ G, PermN n g) {L : List Int} (hL : Lab n G L) (hs : ∀ g ∈ G, ∀ x : Int, 0 ≤ x → x < n → rd L x = rd L (rd g x)) :
    ∀ (d x : Nat) (o : List Int) (r : List (List Int)), x + d = n → Good n o [] → (∀ y : Int, 0 ≤ y → y < n → (y ∈ o ↔ rd L y < x)) → Like r (orbL n G d x o) → r = labRows n L d x
  | 0, x, o, r, hd, hg, ho, h => by
    unfold orbL at h
    match r, h with
    | [], _ => rfl
    | _ :: _, h => exact h.elim
  | d + 1, x, o, r, hd, hg, ho, h => by
    have hx0 : (0 : Int) ≤ (x : Int) := Int.natCast_nonneg x
    have hx1 : (x : Int) < n := by omega
    have hLx := hL.2.1 (x : Int) hx0 hx1
    unfold orbL at h
    unfold labRows
    by_cases c : (x : Int) ∈ o
    · rw [if_pos c] at h
      have hlt := (ho _ hx0 hx1).1 c
      have e : (rangeI n).filter (fun y => decide (rd L y = (x : Int))) = [] := by
        refine List.filter_eq_nil_iff.2 fun y hy hxy => ?_
        rw [rangeI_mem] at hy
        have hxy := of_decide_eq_true hxy
        have := (hL.2.1 y hy.1 hy.2).2.2
        rw [hxy] at this
        omega
      rw [if_pos e]
      refine like_labels hG hL hs d (x + 1) o r (by omega) hg (fun y y0 y1 => ?_) h
      rw [ho y y0 y1]
      constructor
      · intro hh
        omega
      · intro hh
        by_cases e2 : rd L y = (x : Int)
        · have := (hL.2.1 y y0 y1).2.2
          rw [e2] at this
          omega
        · omega
    · rw [if_neg c] at h
      have hge : ¬ rd L (x : Int) < x := fun hh => c ((ho _ hx0 hx1).2 hh)
      have hxx : rd L (x : Int) = x := by omega
      have hg1 := good_one hg hx0 hx1 c
      obtain ⟨g1, g2, g3, g4⟩ := bfsO_facts (n := n) (o := o) (cand := candI G) (fun y h0 h1 => candI_in hG y h0 h1) (n + 1) 0 [(x : Int)] hg1 (Nat.zero_le _) (by omega) (fun j hj => absurd hj (Nat.not_lt_zero j))
      generalize bfsO o (candI G) (n + 1) 0 [(x : Int)] = q at h g1 g2 g3 g4
      have q1 : ∀ y ∈ q, rd L y = x := g4 (fun y => rd L y = (x : Int)) (fun y y0 y1 hy z hz => by
        obtain ⟨g, hgG, rfl⟩ := List.mem_map.1 hz
        rw [← hs g hgG y y0 y1]
        exact hy) (fun y hy => by
        rw [List.mem_singleton] at hy
        rw [hy]
        exact hxx)
      have cl : ∀ g ∈ G, ∀ y ∈ q, rd g y ∈ q := fun g hgG y hy => by
        have hyr := g1.right.2 y hy
        have hz := (hG g hgG).at hyr.1 hyr.2
        rcases List.mem_append.1 (g3 y hy _ (List.mem_map.2 ⟨g, hgG, rfl⟩)) with h1 | h1
        · have := (ho _ hz.1 hz.2).1 h1
          rw [← hs g hgG y hyr.1 hyr.2, q1 y hy] at this
          omega
        · exact h1
      have hI : Inv n G (fun y => y ∈ q) := fun g hgG y y0 y1 => ⟨fun hy => cl g hgG y hy, fun hy => (hG g hgG).back g1.right.1 g1.right.2 (fun z hz => cl g hgG z hz) y0 y1 hy⟩
      have q2 : ∀ y : Int, 0 ≤ y → y < n → (y ∈ q ↔ rd L y = x) := fun y y0 y1 => ⟨q1 y, fun hy => (hL.2.2 _ hI y y0 y1).2 (by rw [hy]; exact g2 _ (by simp))⟩
      match r, h with
      | a :: r, h =>
        have ha : a = (rangeI n).filter (fun y => decide (rd L y = (x : Int))) := by
          refine incr_eq _ _ (incr_of_sorted h.1.2 (by rw [h.1.1.length_eq]; exact Nat.le_refl _) ((List.Perm.nodup_iff h.1.1).2 g1.right.1)) ?_ fun y => ?_
          · refine List.Pairwise.filter _ ?_
            unfold rangeI
            rw [List.pairwise_map]
            exact List.Pairwise.imp (fun {a b} hh => Int.ofNat_lt.2 hh) List.pairwise_lt_range
          · rw [List.mem_filter, rangeI_mem, h.1.1.mem_iff]
            constructor
            · intro hy
              have hyr := g1.right.2 y hy
              exact ⟨hyr, decide_eq_true (q1 y hy)⟩
            · rintro ⟨hyr, hy⟩
              exact (q2 y hyr.1 hyr.2).2 (of_decide_eq_true hy)
        have hne : (rangeI n).filter (fun y => decide (rd L y = (x : Int))) ≠ [] := fun e => by
          have hm : (x : Int) ∈ (rangeI n).filter (fun y => decide (rd L y = (x : Int))) := List.mem_filter.2 ⟨(rangeI_mem n _).2 ⟨hx0, hx1⟩, decide_eq_true hxx⟩
          rw [e] at hm
          exact absurd hm (by simp)
        rw [if_neg hne, ← ha]
        refine congrArg (a :: ·) (like_labels hG hL hs d (x + 1) (o ++ q) r (by omega) (by unfold Good; rw [List.append_nil]; exact g1) (fun y y0 y1 => ?_) h.2)
        rw [List.mem_append, ho y y0 y1, q2 y y0 y1]
        constructor
        · rintro (hh | hh) <;> omega
        · intro hh
          omega
      | [], h => exact h.elim

theorem merge_go (L : List Int) (a b : Int) : ∀ (d i : Nat) (M : List Int), i + d = L.length → M = (mergeL L a b).take i ++ L.drop i →
    (if rd M (i : Int) = mx a b then M.set i (mn a b) else M) = (mergeL L a b).take (i + 1) ++ L.drop (i + 1) ∨ d = 0
  | 0, _, _, _, _ => .inr rfl
  | d + 1, i, M, hd, hM => by
    left
    have hi : i < L.length := by omega
    have h1 : ((mergeL L a b).take i).length = i := by rw [List.length_take, mergeL_length]; omega
    have hr : rd M (i : Int) = rd L (i : Int) := by
      rw [hM, rd_nat _ i (by rw [List.length_append, List.length_drop, h1]; omega), rd_nat L i hi, List.getElem_append_right (by omega), List.getElem_drop]
      congr 1
      omega
    have hm : (mergeL L a b)[i]'(by rw [mergeL_length]; exact hi) = if rd L (i : Int) = mx a b then mn a b else rd L (i : Int) := by
      rw [rd_nat L i hi]
      unfold mergeL
      rw [List.getElem_map]
    rw [hr, List.take_succ_eq_append_getElem (by rw [mergeL_length]; exact hi), hm]
    by_cases c : rd L (i : Int) = mx a b
    · rw [if_pos c, if_pos c, hM, List.set_append_right _ _ (by omega), h1, Nat.sub_self, List.drop_eq_getElem_cons hi, List.set_cons_zero, List.append_assoc]
      rfl
    · rw [if_neg c, if_neg c, hM, List.drop_eq_getElem_cons hi, rd_nat L i hi, List.append_assoc]
      rfl
theorem so_l3 (n : Nat) (G : List (List Int)) (X x : Int) (L : List Int) (hl : L.length ≤ 1000) (a b : Int) (r : List (List Int)) (h : Evt (fun K => spec_l05Orbits.l2 K (n : Int) G (mergeL L a b) X (wrap64 (x + 1))) r) :
    ∀ (d i : Nat) (M : List Int), i + d = L.length → M = (mergeL L a b).take i ++ L.drop i → Evt (fun K => spec_l05Orbits.l3 K (n : Int) G M X x a b (i : Int)) r
  | 0, i, M, hd, hM => by
    have hi : i = L.length := by omega
    have e : M = mergeL L a b := by rw [hM, hi, List.drop_length, List.append_nil, List.take_of_length_le (by rw [mergeL_length]; exact Nat.le_refl _)]
    refine Evt.step h fun K => ?_
    rw [spec_l05Orbits.l3, if_neg (by rw [e, mergeL_length]; omega), e]
  | d + 1, i, M, hd, hM => by
    have hi : i < L.length := by omega
    have hd2 : i + 1 + d = L.length := by omega
    have hMl : M.length = L.length := by
      rw [hM, List.length_append, List.length_take, List.length_drop, mergeL_length]
      omega
    have f1 : (i : Int) < (M.length : Int) := by omega
    have ei : wrap64 ((i : Int) + 1) = ((i + 1 : Nat) : Int) := w64n (i + 1) (by omega)
    have hs := (merge_go L a b (d + 1) i M hd hM).resolve_right (by simp)
    refine Evt.step (so_l3 n G X x L hl a b r h d (i + 1) _ hd2 hs) fun K => ?_
    rw [spec_l05Orbits.l3, if_pos f1, if_pos (Int.natCast_nonneg i), ei, Int.toNat_natCast]
    by_cases c : rd M (i : Int) = mx a b
    · rw [if_pos c, if_pos c]
    · rw [if_neg c, if_neg c]
/-- What was merged before stays merged. -/
def Done (G : List (List Int)) (n : Nat) (L : List Int) (j x : Nat) : Prop := ∀ (p : Nat) (hp : p < G.length), ∀ y : Int, 0 ≤ y → y < n → (p < j ∨ p = j ∧ y < x) → rd L y = rd L (rd (G[p]) y)
theorem so_l2 {n : Nat} (hn : n ≤ 8) {G : List (List Int)} (hG : ∀ g ∈ G, PermN n g) (hl : G.length ≤ 1048576) (j : Nat) (hj : j < G.length) (Q : List (List Int) → Prop)
    (h : ∀ L, Lab n G L → Done G n L (j + 1) 0 → ∃ r, Evt (fun K => spec_l05Orbits.l1 K (n : Int) G L ((j + 1 : Nat) : Int)) r ∧ Q r) :
    ∀ (d x : Nat) (L : List Int), x + d = n → Lab n G L → Done G n L j x → ∃ r, Evt (fun K => spec_l05Orbits.l2 K (n : Int) G L (j : Int) (x : Int)) r ∧ Q r
  | 0, x, L, hd, hL, hD => by
    have ej : wrap64 ((j : Int) + 1) = ((j + 1 : Nat) : Int) := w64n (j + 1) (by omega)
    obtain ⟨r, h1, h2⟩ := h L hL (fun p hp y y0 y1 hh => hD p hp y y0 y1 (by
      rcases hh with hh | hh
      · by_cases e : p = j
        · right
          exact ⟨e, by omega⟩
        · left
          omega
      · omega))
    refine ⟨r, Evt.step h1 fun K => ?_, h2⟩
    rw [spec_l05Orbits.l2, if_neg (by omega), ej]
  | d + 1, x, L, hd, hL, hD => by
    have hx0 : (0 : Int) ≤ (x : Int) := Int.natCast_nonneg x
    have hx1 : (x : Int) < (n : Int) := by omega
    have hd2 : x + 1 + d = n := by omega
    have hm : G[j] ∈ G := List.getElem_mem hj
    have hp := hG _ hm
    have hg : rd_L1 G (j : Int) = G[j] := rdL1_nat G j hj
    have hy := hp.at hx0 hx1
    have ex : wrap64 ((x : Int) + 1) = ((x + 1 : Nat) : Int) := w64n (x + 1) (by omega)
    have hlen := hL.1
    have f1 : (x : Int) < (L.length : Int) := by rw [hlen]; exact hx1
    have f2 : (x : Int) < ((G[j]).length : Int) := by rw [hp.1]; exact hx1
    have f3 : rd G[j] (x : Int) < (L.length : Int) := by rw [hlen]; exact hy.2
    have f4 : (j : Int) < (G.length : Int) := Int.ofNat_lt.2 hj
    have hL8 : L.length ≤ 1000 := by rw [hlen]; exact Nat.le_trans hn (by decide)
    obtain ⟨r, h1, h2⟩ := so_l2 hn hG hl j hj Q h d (x + 1) (mergeL L (rd L (x : Int)) (rd L (rd G[j] (x : Int)))) hd2 (hL.merge hG hm hx0 hx1) (fun p hp2 y y0 y1 hh => by
      have hpp := hG _ (List.getElem_mem hp2)
      have hz := hpp.at y0 y1
      by_cases e : p = j ∧ y = (x : Int)
      · obtain ⟨e1, e2⟩ := e
        subst e1 e2
        exact merge_now L _ _ hx0 f1 hy.1 f3
      · exact merge_same L _ _ y _ y0 (by rw [hlen]; exact y1) hz.1 (by rw [hlen]; exact hz.2) (hD p hp2 y y0 y1 (by
          rcases hh with hh | hh
          · exact .inl hh
          · exact .inr ⟨hh.1, by
              have : y ≠ (x : Int) := fun e2 => e ⟨hh.1, e2⟩
              have := hh.2
              omega⟩)))
    have h3 := so_l3 n G (j : Int) (x : Int) L hL8 (rd L (x : Int)) (rd L (rd G[j] (x : Int))) r (by rw [ex]; exact h1) L.length 0 L (Nat.zero_add _) (by rw [List.take_zero, List.drop_zero, List.nil_append])
    refine ⟨r, Evt.step h3 fun K => ?_, h2⟩
    rw [spec_l05Orbits.l2, if_pos hx1, if_pos hx0, if_pos f1, if_pos (Int.natCast_nonneg j), if_pos f4, hg, if_pos f2, if_pos hy.1, if_pos f3]
    rfl
theorem so_l1 {n : Nat} (hn : n ≤ 8) {G : List (List Int)} (hG : ∀ g ∈ G, PermN n g) (hl : G.length ≤ 1048576) (Q : List (List Int) → Prop)
    (h : ∀ L, Lab n G L → Done G n L G.length 0 → ∃ r, Evt (fun K => spec_l05Orbits.l4 K (n : Int) L [] 0) r ∧ Q r) :
    ∀ (d j : Nat) (L : List Int), j + d = G.length → Lab n G L → Done G n L j 0 → ∃ r, Evt (fun K => spec_l05Orbits.l1 K (n : Int) G L (j : Int)) r ∧ Q r
  | 0, j, L, hd, hL, hD => by
    obtain ⟨r, h1, h2⟩ := h L hL (by rw [← hd]; exact hD)
    refine ⟨r, Evt.step h1 fun K => ?_, h2⟩
    rw [spec_l05Orbits.l1, if_neg (by omega)]
  | d + 1, j, L, hd, hL, hD => by
    have hj : j < G.length := by omega
    have hd2 : j + 1 + d = G.length := by omega
    obtain ⟨r, h1, h2⟩ := so_l2 hn hG hl j hj Q (fun L' h1 h2 => so_l1 hn hG hl Q h d (j + 1) L' hd2 h1 h2) n 0 L (Nat.zero_add _) hL hD
    refine ⟨r, Evt.step h1 fun K => ?_, h2⟩
    rw [spec_l05Orbits.l1, if_pos (Int.ofNat_lt.2 hj)]
    rfl
theorem so_l5 {n : Nat} (hn : n ≤ 8) (L : List Int) (hL : L.length = n) (v : Nat) (out : List (List Int)) (r : List (List Int))
    (h : Evt (fun K => if (((rangeI n).filter fun y => decide (rd L y = (v : Int))).length : Int) > 0 then (if out.length < 5864062014805 then spec_l05Orbits.l4 K (n : Int) L (out ++ [(rangeI n).filter fun y => decide (rd L y = (v : Int))]) (wrap64 ((v : Int) + 1)) else none) else spec_l05Orbits.l4 K (n : Int) L out (wrap64 ((v : Int) + 1))) r) :
    ∀ (d i : Nat) (acc : List Int), i + d = n → acc.length ≤ i → acc ++ ((rangeI n).drop i).filter (fun y => decide (rd L y = (v : Int))) = (rangeI n).filter (fun y => decide (rd L y = (v : Int))) → Evt (fun K => spec_l05Orbits.l5 K (n : Int) L out (v : Int) acc (i : Int)) r
  | 0, i, acc, hd, ha, he => by
    rw [List.drop_of_length_le (by rw [rangeI_len]; omega), List.filter_nil, List.append_nil] at he
    rw [← he] at h
    refine Evt.step h fun K => ?_
    rw [spec_l05Orbits.l5, if_neg (by omega)]
  | d + 1, i, acc, hd, ha, he => by
    have hi : i < n := by omega
    have hd2 : i + 1 + d = n := by omega
    have ei : wrap64 ((i : Int) + 1) = ((i + 1 : Nat) : Int) := w64n (i + 1) (by omega)
    have hr : (rangeI n).drop i = (i : Int) :: (rangeI n).drop (i + 1) := by
      rw [drop_rd _ i (by rw [rangeI_len]; exact hi), rangeI_rd n (i : Int) (by omega) (by omega)]
    have f1 : (i : Int) < (n : Int) := Int.ofNat_lt.2 hi
    have f2 : (i : Int) < (L.length : Int) := by rw [hL]; exact f1
    have f7 : acc.length < 17592186044416 := Nat.lt_of_le_of_lt (show acc.length ≤ 8 by omega) (by decide)
    rw [hr] at he
    by_cases c : rd L (i : Int) = (v : Int)
    · rw [List.filter_cons, if_pos (decide_eq_true c)] at he
      have ih := so_l5 hn L hL v out r h d (i + 1) (acc ++ [(i : Int)]) hd2 (by rw [List.length_append]; exact Nat.succ_le_succ ha) (by rw [List.append_assoc]; exact he)
      refine Evt.step ih fun K => ?_
      rw [spec_l05Orbits.l5, if_pos f1, if_pos (Int.natCast_nonneg i), if_pos f2, if_pos c, if_pos f7, ei]
    · rw [List.filter_cons, if_neg (by simpa using c)] at he
      have ih := so_l5 hn L hL v out r h d (i + 1) acc hd2 (Nat.le_succ_of_le ha) he
      refine Evt.step ih fun K => ?_
      rw [spec_l05Orbits.l5, if_pos f1, if_pos (Int.natCast_nonneg i), if_pos f2, if_neg c, ei]
theorem so_l4 {n : Nat} (hn : n ≤ 8) (L : List Int) (hL : L.length = n) : ∀ (d v : Nat) (out : List (List Int)), v + d = n → out.length ≤ v → Evt (fun K => spec_l05Orbits.l4 K (n : Int) L out (v : Int)) (out ++ labRows n L d v)
  | 0, v, out, hd, ho => by
    refine Evt.now fun K => ?_
    rw [spec_l05Orbits.l4, if_neg (by omega)]
    unfold labRows
    rw [List.append_nil]
  | d + 1, v, out, hd, ho => by
    have hd2 : v + 1 + d = n := by omega
    have f1 : (v : Int) < (n : Int) := by omega
    have ev : wrap64 ((v : Int) + 1) = ((v + 1 : Nat) : Int) := w64n (v + 1) (by omega)
    have f7 : out.length < 5864062014805 := Nat.lt_of_le_of_lt (show out.length ≤ 8 by omega) (by decide)
    have h5 := so_l5 hn L hL v out (out ++ labRows n L (d + 1) v) (by
      unfold labRows
      by_cases c : (rangeI n).filter (fun y => decide (rd L y = (v : Int))) = []
      · rw [if_pos c, c]
        refine Evt.same (so_l4 hn L hL d (v + 1) out hd2 (Nat.le_succ_of_le ho)) fun K => ?_
        rw [if_neg (by simp), ev]
      · rw [if_neg c]
        have hp : ((((rangeI n).filter fun y => decide (rd L y = (v : Int))).length : Nat) : Int) > 0 := by
          have := List.length_pos_iff.2 c
          omega
        have ih := so_l4 hn L hL d (v + 1) (out ++ [(rangeI n).filter fun y => decide (rd L y = (v : Int))]) hd2 (by rw [List.length_append]; exact Nat.succ_le_succ ho)
        rw [List.append_assoc, List.singleton_append] at ih
        refine Evt.same ih fun K => ?_
        rw [if_pos hp, if_pos f7, ev]) n 0 [] (Nat.zero_add _) (Nat.le_refl _) (by rw [List.drop_zero, List.nil_append])
    refine Evt.step h5 fun K => ?_
    rw [spec_l05Orbits.l4, if_pos f1]
    rfl
theorem so_l0 {n : Nat} (hn : n ≤ 8) (G : List (List Int)) (r : List (List Int)) (h : Evt (fun K => spec_l05Orbits.l1 K (n : Int) G (rangeI n) 0) r) : ∀ (d i : Nat), i + d = n → Evt (fun K => spec_l05Orbits.l0 K (n : Int) G ((rangeI n).take i) (i : Int)) r
  | 0, i, hd => by
    refine Evt.step h fun K => ?_
    rw [spec_l05Orbits.l0, if_neg (by omega), List.take_of_length_le (by rw [rangeI_len]; omega)]
  | d + 1, i, hd => by
    have hi : i < n := by omega
    have ei : wrap64 ((i : Int) + 1) = ((i + 1 : Nat) : Int) := w64n (i + 1) (by omega)
    have f7 : ((rangeI n).take i).length < 17592186044416 := Nat.lt_of_le_of_lt (show ((rangeI n).take i).length ≤ 8 by rw [List.length_take]; omega) (by decide)
    refine Evt.step (so_l0 hn G r h d (i + 1) (by omega)) fun K => ?_
    rw [spec_l05Orbits.l0, if_pos (Int.ofNat_lt.2 hi), if_pos f7, ei, List.take_succ_eq_append_getElem (by rw [rangeI_len]; exact hi), ← rd_nat _ i (by rw [rangeI_len]; exact hi), rangeI_rd n (i : Int) (Int.natCast_nonneg i) (Int.ofNat_lt.2 hi)]
theorem labRows_small (n : Nat) (L : List Int) : ∀ (d v : Nat), (labRows n L d v).length ≤ d ∧ ∀ x ∈ labRows n L d v, x.length ≤ n
  | 0, v => ⟨Nat.le_refl _, fun x hx => absurd hx (by simp [labRows])⟩
  | d + 1, v => by
    have ih := labRows_small n L d (v + 1)
    unfold labRows
    split
    · exact ⟨Nat.le_succ_of_le ih.1, ih.2⟩
    · refine ⟨Nat.succ_le_succ ih.1, fun x hx => ?_⟩
      rcases List.mem_cons.1 hx with rfl | hx
      · have := List.length_filter_le (fun y => decide (rd L y = (v : Int))) (rangeI n)
        rwa [rangeI_len] at this
      · exact ih.2 x hx
/-- Program and reference find the same orbits. -/
theorem orbits_both {n : Nat} (hn : n ≤ 8) {G : List (List Int)} (hG : ∀ g ∈ G, PermN n g) (hl : G.length ≤ 1048576) : ∃ r, Evt (fun K => spec_l05Orbits.f K (n : Int) G) r ∧ Evt (fun K => impl_orbits.f K (n : Int) G) r ∧ r.length ≤ n ∧ ∀ x ∈ r, x.length ≤ n := by
  obtain ⟨r, r1, r2⟩ := orbits_ev hn hG hl
  obtain ⟨r', s1, s2⟩ := so_l1 hn hG hl (fun r' => r' = r ∧ r'.length ≤ n ∧ ∀ x ∈ r', x.length ≤ n) (fun L hL hD => ⟨labRows n L n 0, by
    have := so_l4 hn L hL.1 n 0 [] (Nat.zero_add _) (Nat.le_refl _)
    rwa [List.nil_append] at this, ⟨(like_labels hG hL (fun g hg x h0 h1 => by
      obtain ⟨p, hp, e⟩ := List.getElem_of_mem hg
      rw [← e]
      exact hD p hp x h0 h1 (.inl hp)) n 0 [] r (Nat.zero_add _) ⟨by simp, fun x hx => absurd hx (by simp)⟩ (fun y y0 y1 => ⟨fun hh => absurd hh (by simp), fun hh => by
      have := (hL.2.1 y y0 y1).1
      omega⟩) r2).symm, labRows_small n L n 0⟩⟩) G.length 0 (rangeI n) (Nat.zero_add _) (Lab.start n G) (fun p hp y y0 y1 hh => by omega)
  obtain ⟨s2, s3⟩ := s2
  rw [s2] at s1 s3
  refine ⟨r, ?_, r1, s3⟩
  have h0 := so_l0 hn G r s1 n 0 (Nat.zero_add _)
  rw [List.take_zero] at h0
  exact h0

theorem Evt.uniq {α : Type} {f : Nat → Option α} {r r' : α} (h : Evt f r) (h' : Evt f r') : r = r' := by
  obtain ⟨c, h⟩ := h
  obtain ⟨c', h'⟩ := h'
  have h1 := h (c + c') (by omega)
  rw [h' (c + c') (by omega)] at h1
  exact (Option.some.inj h1).symm
open Classical in
/-- Is there but one orbit? -/
noncomputable def tOrb (n : Nat) (G : List (List Int)) : Bool := decide (∃ os, Evt (fun K => spec_l05Orbits.f K (n : Int) G) os ∧ os.length = 1)
open Classical in
theorem tOrb_at {n : Nat} (hn : n ≤ 8) {G : List (List Int)} (hG : ∀ g ∈ G, PermN n g) (hl : G.length ≤ 1048576) : ∃ os, Evt (fun K => spec_l05Orbits.f K (n : Int) G) os ∧ Evt (fun K => impl_orbits.f K (n : Int) G) os ∧ ((os.length : Int) == 1) = tOrb n G := by
  obtain ⟨os, h1, h2, _⟩ := orbits_both hn hG hl
  refine ⟨os, h1, h2, ?_⟩
  rw [Bool.eq_iff_iff, beq_iff_eq]
  unfold tOrb
  rw [decide_eq_true_iff]
  constructor
  · exact fun h => ⟨os, h1, by omega⟩
  · rintro ⟨os', h3, h4⟩
    rw [Evt.uniq h1 h3]
    omega

theorem st_sub : ∀ (l out : List Int) (x : Int), x ∈ l.foldl redStep out → x ∈ out ∨ x ∈ l
  | [], out, x, h => .inl h
  | y :: l, out, x, h => by
    rcases st_sub l (redStep out y) x h with h | h
    · unfold redStep at h
      split at h
      · exact .inl (List.mem_of_mem_take h)
      · rcases List.mem_append.1 h with h | h
        · exact .inl h
        · rw [List.mem_singleton] at h
          exact .inr (by rw [h]; exact List.mem_cons_self)
    · exact .inr (List.mem_cons_of_mem _ h)
theorem st_wf (x : Int) (h0 : -20000 ≤ x) (h1 : x ≤ 20000) : (Lit.int .i64 x).wf = true := by
  have : -9223372036854775808 ≤ x ∧ x ≤ 9223372036854775807 := by omega
  simpa [Lit.wf, IntKind.min, IntKind.max, IntKind.signed, IntKind.bits] using this
theorem nmOf_in {n : Nat} {G N : List (List Int)} (hG : ∀ g ∈ G, PermN n g) (hN : okN n G.length N) {a : Int} (ha : LetterIn G a) {x : Nat} (hx : x < n) : -20000 ≤ nmOf G N a (x : Int) ∧ nmOf G N a (x : Int) ≤ 20000 := by
  have hy := actL_in hG ha (show (0 : Int) ≤ (x : Int) by omega) (show (x : Int) < n by omega)
  obtain ⟨y, hye⟩ : ∃ y : Nat, actL G a (x : Int) = y := ⟨(actL G a (x : Int)).toNat, by omega⟩
  obtain ⟨q, hq, hq2⟩ := ha.cases
  unfold nmOf
  rw [hye]
  rcases hq2 with hq2 | hq2
  · have o := okN_at hN hx hq
    rw [hq2, if_pos (by omega), show ((q + 1 : Nat) : Int) - 1 = (q : Int) by omega]
    exact ⟨Int.le_trans (by decide) o.2.1, o.2.2⟩
  · have o := okN_at hN (show y < n by omega) hq
    rw [hq2, if_neg (by omega), show - -((q + 1 : Nat) : Int) - 1 = (q : Int) by omega]
    exact ⟨Int.neg_le_neg o.2.2, Int.le_trans (Int.neg_nonpos_of_nonneg o.2.1) (by decide)⟩
theorem rwF_in {n : Nat} {G N : List (List Int)} (hG : ∀ g ∈ G, PermN n g) (hN : okN n G.length N) : ∀ (w : List Int) (x : Nat), (∀ a ∈ w, LetterIn G a) → x < n → (rwF G N w (x : Int)).length ≤ w.length ∧ ∀ z ∈ rwF G N w (x : Int), -20000 ≤ z ∧ z ≤ 20000
  | [], _, _, _ => ⟨Nat.le_refl _, fun z hz => by cases hz⟩
  | a :: w, x, ha, hx => by
    have hy := actL_in hG (ha a List.mem_cons_self) (show (0 : Int) ≤ (x : Int) by omega) (show (x : Int) < n by omega)
    obtain ⟨y, hye⟩ : ∃ y : Nat, actL G a (x : Int) = y := ⟨(actL G a (x : Int)).toNat, by omega⟩
    have ih := rwF_in hG hN w y (fun b hb => ha b (List.mem_cons_of_mem _ hb)) (by omega)
    have hv := nmOf_in hG hN (ha a List.mem_cons_self) hx
    rw [rwF, hye]
    constructor
    · rw [List.length_append, List.length_cons]
      have : (if nmOf G N a (x : Int) = 0 then [] else [nmOf G N a (x : Int)]).length ≤ 1 := by split <;> simp
      have := ih.1
      omega
    · intro z hz
      rcases List.mem_append.1 hz with h | h
      · split at h
        · cases h
        · rw [List.mem_singleton.1 h]
          exact hv
      · exact ih.2 z h
theorem stAll_mem (G N R : List (List Int)) : ∀ (d x : Nat) (row : List Int), row ∈ stAll G N R d x → ∃ w ∈ R, ∃ y : Nat, y < x + d ∧ row = redOf (rwF G N w (y : Int))
  | 0, _, row, h => by cases h
  | d + 1, x, row, h => by
    rw [stAll] at h
    rcases List.mem_append.1 h with h | h
    · obtain ⟨w, hw, e⟩ := List.mem_map.1 h
      exact ⟨w, hw, x, by omega, e.symm⟩
    · obtain ⟨w, hw, y, hy, e⟩ := stAll_mem G N R d (x + 1) row h
      exact ⟨w, hw, y, by omega, e⟩
theorem stAll_len (G N R : List (List Int)) : ∀ (d x : Nat), (stAll G N R d x).length = d * R.length
  | 0, x => by simp [stAll]
  | d + 1, x => by rw [stAll, List.length_append, stRow_len, stAll_len G N R d (x + 1), Nat.add_mul, Nat.one_mul, Nat.add_comm]
theorem stab_both (a0 a1 : Int) (R G : List (List Int)) (hR : R.length ≤ 1048576) (hRl : ∀ w ∈ R, w.length ≤ 1048576) (hRw : ∀ w ∈ R, ∀ y ∈ w, (Lit.int .i64 y).wf = true) (hl : G.length ≤ 1048576) (hr : ∀ g ∈ G, g.length ≤ 1048576) :
    ∃ s : Int × List (List Int) × Int, Evt (fun K => spec_StabilizerPresentation.f K a0 R a1 G) s ∧ Evt (fun K => impl_StabilizerPresentation.f K a0 R a1 G) s ∧ s.2.1.length ≤ 10000 ∧ ∀ x ∈ s.2.1, x.length ≤ 10000 := by
  obtain ⟨b, p1, p2, hb⟩ := isRep_both a0 a1 R G hR hRl hRw hl hr
  by_cases c : b = true
  · subst c
    obtain ⟨hp, hGa, n, rfl, hn1, hn4, hG, _⟩ := hb rfl
    have hw := letters_in hp hGa
    have hGl : G.length ≤ 24 ∧ R.length ≤ 48 ∧ ∀ w ∈ R, w.length ≤ 120 := by
      unfold presB at hp
      simp only [Bool.and_eq_true, decide_eq_true_eq] at hp
      refine ⟨by omega, hp.1.2, fun w h => ?_⟩
      have h1 := List.all_eq_true.1 hp.2 w h
      unfold redB at h1
      simp only [Bool.and_eq_true, decide_eq_true_eq] at h1
      exact h1.1.2
    obtain ⟨g1, g2, g3⟩ := hGl
    have hn : n ≤ 8 := by omega
    have hm : G.length ≤ 1000 := by omega
    have hwl : ∀ w ∈ R, w.length ≤ 1000 := fun w h => Nat.le_trans (g3 w h) (by decide)
    obtain ⟨os, o1, o2, _⟩ := tOrb_at hn hG hl
    by_cases ct : (os.length : Int) = 1
    · obtain ⟨T, q1, q2⟩ := pair_both hn1 hn hG hm
      have hok := pair_ok hn hm T
      obtain ⟨P, hP⟩ : ∃ P, P = plAll (Lof n G.length T) 0 := ⟨_, rfl⟩
      rw [← hP] at q1 q2 hok
      obtain ⟨L, hL⟩ : ∃ L, L = stAll G P.1 R n 0 := ⟨_, rfl⟩
      have hLl : L.length ≤ 10000 := by
        rw [hL, stAll_len]
        exact Nat.le_trans (Nat.mul_le_mul hn4 g2) (by decide)
      have hLr : ∀ x ∈ L, x.length ≤ 10000 ∧ ∀ z ∈ x, -20000 ≤ z ∧ z ≤ 20000 := by
        intro x hx
        rw [hL] at hx
        obtain ⟨w, hwm, y, hy, e⟩ := stAll_mem G P.1 R n 0 x hx
        have hf := rwF_in hG hok.1 w y (hw w hwm) (by omega)
        have h1 := redOf_length (rwF G P.1 w (y : Int))
        have h2 := g3 w hwm
        rw [← e] at h1
        refine ⟨by omega, fun z hz => hf.2 z ?_⟩
        rw [e] at hz
        exact (st_sub _ [] z hz).resolve_left (by simp)
      have hwf : ∀ x ∈ L, ∀ z ∈ x, (Lit.int .i64 z).wf = true := fun x hx z hz => st_wf z ((hLr x hx).2 z hz).1 ((hLr x hx).2 z hz).2
      have hlen : ∀ x ∈ L, x.length ≤ 1048576 := fun x hx => Nat.le_trans (hLr x hx).1 (by decide)
      have e1 : Evt (fun K => spec_IsPresentation.f K P.2 L) (presB P.2 L) := ⟨2097201, fun K hK => specPres_eq P.2 L 1048576 K (Nat.le_refl _) (Nat.le_trans hLl (by decide)) hlen hwf (by omega)⟩
      have e2 : Evt (fun K => impl_isPresentation.f K P.2 L) (presB P.2 L) := ⟨1048577, fun K hK => implisPres_eq P.2 L 1048576 K (Nat.le_refl _) hlen hwf (by omega)⟩
      have hR1 : R.length ≤ 1000 := by omega
      have s1 := specSt_l0 hn hG hm hok.1 hw hwl hR1 a0 P.2 (presB P.2 L) L e1 n 0 [] (by omega) (by simp; omega) (by rw [hL]; rfl)
      have s2 := impSt_l0 hn hG hm hok.1 hw hwl hR1 a0 P.2 (presB P.2 L) L e2 n 0 [] (by omega) (by simp; omega) (by rw [hL]; rfl)
      refine ⟨if presB P.2 L = true then (P.2, L, 0) else (0, [], 3), ?_, ?_, ?_⟩
      · refine Evt.bind p1 (h := fun K t => (if t = true then ((spec_l05Orbits.f K (n : Int) G).bind fun t260 => (if (t260.length : Int) = 1 then ((spec_l05Names.f K (n : Int) G).bind fun bt263 => (spec_StabilizerPresentation.l0 K (n : Int) G bt263.1 0 a0 R bt263.2 ([] : List (List Int)))) else (some (0, ([] : List (List Int)), 5)))) else (some (0, ([] : List (List Int)), 1)))) ?_ fun _ => rfl
        refine Evt.bind o1 (h := fun K t260 => (if (t260.length : Int) = 1 then ((spec_l05Names.f K (n : Int) G).bind fun bt263 => (spec_StabilizerPresentation.l0 K (n : Int) G bt263.1 0 a0 R bt263.2 ([] : List (List Int)))) else (some (0, ([] : List (List Int)), 5)))) ?_ fun _ => if_pos rfl
        exact Evt.bind q1 (h := fun K bt263 => spec_StabilizerPresentation.l0 K (n : Int) G bt263.1 0 a0 R bt263.2 ([] : List (List Int))) s1 fun K => if_pos ct
      · refine Evt.bind p2 (h := fun K t => (if t = true then ((impl_isTransitive.f K (n : Int) G).bind fun t344 => (if t344 = true then ((impl_pairLetters.f K (n : Int) G).bind fun bt345 => (impl_StabilizerPresentation.l0 K G bt345.1 (n : Int) 0 a0 R bt345.2 ([] : List (List Int)))) else (some (0, ([] : List (List Int)), 5)))) else (some (0, ([] : List (List Int)), 1)))) ?_ fun _ => rfl
        have ot : Evt (fun K => impl_isTransitive.f K (n : Int) G) true := Evt.bind o2 (h := fun _ t => some ((t.length : Int) == 1)) (Evt.const fun _ => by simp [ct]) fun _ => rfl
        refine Evt.bind ot (h := fun K t344 => (if t344 = true then ((impl_pairLetters.f K (n : Int) G).bind fun bt345 => (impl_StabilizerPresentation.l0 K G bt345.1 (n : Int) 0 a0 R bt345.2 ([] : List (List Int)))) else (some (0, ([] : List (List Int)), 5)))) ?_ fun _ => if_pos rfl
        exact Evt.bind q2 (h := fun K bt345 => impl_StabilizerPresentation.l0 K G bt345.1 (n : Int) 0 a0 R bt345.2 ([] : List (List Int))) s2 fun K => if_pos rfl
      · by_cases cp : presB P.2 L = true
        · rw [if_pos cp]
          exact ⟨hLl, fun x hx => (hLr x hx).1⟩
        · rw [if_neg cp]
          exact ⟨by simp, fun x hx => by cases hx⟩
    · refine ⟨(0, [], 5), ?_, ?_, by simp, fun x hx => by cases hx⟩
      · refine Evt.bind p1 (h := fun K t => (if t = true then ((spec_l05Orbits.f K (n : Int) G).bind fun t260 => (if (t260.length : Int) = 1 then ((spec_l05Names.f K (n : Int) G).bind fun bt263 => (spec_StabilizerPresentation.l0 K (n : Int) G bt263.1 0 a0 R bt263.2 ([] : List (List Int)))) else (some (0, ([] : List (List Int)), 5)))) else (some (0, ([] : List (List Int)), 1)))) ?_ fun _ => rfl
        exact Evt.bind o1 (h := fun K t260 => (if (t260.length : Int) = 1 then ((spec_l05Names.f K (n : Int) G).bind fun bt263 => (spec_StabilizerPresentation.l0 K (n : Int) G bt263.1 0 a0 R bt263.2 ([] : List (List Int)))) else (some (0, ([] : List (List Int)), 5)))) (Evt.const fun _ => if_neg ct) fun _ => if_pos rfl
      · refine Evt.bind p2 (h := fun K t => (if t = true then ((impl_isTransitive.f K (n : Int) G).bind fun t344 => (if t344 = true then ((impl_pairLetters.f K (n : Int) G).bind fun bt345 => (impl_StabilizerPresentation.l0 K G bt345.1 (n : Int) 0 a0 R bt345.2 ([] : List (List Int)))) else (some (0, ([] : List (List Int)), 5)))) else (some (0, ([] : List (List Int)), 1)))) ?_ fun _ => rfl
        have ot : Evt (fun K => impl_isTransitive.f K (n : Int) G) false := Evt.bind o2 (h := fun _ t => some ((t.length : Int) == 1)) (Evt.const fun _ => by simp [ct]) fun _ => rfl
        exact Evt.bind ot (h := fun K t344 => (if t344 = true then ((impl_pairLetters.f K (n : Int) G).bind fun bt345 => (impl_StabilizerPresentation.l0 K G bt345.1 (n : Int) 0 a0 R bt345.2 ([] : List (List Int)))) else (some (0, ([] : List (List Int)), 5)))) (Evt.const fun _ => if_neg (by simp)) fun _ => if_pos rfl
  · rw [Bool.not_eq_true] at c
    subst c
    refine ⟨(0, [], 1), ?_, ?_, by simp, fun x hx => by cases hx⟩
    · exact Evt.bind p1 (h := fun K t => (if t = true then ((spec_l05Orbits.f K a1 G).bind fun t260 => (if (t260.length : Int) = 1 then ((spec_l05Names.f K a1 G).bind fun bt263 => (spec_StabilizerPresentation.l0 K a1 G bt263.1 0 a0 R bt263.2 ([] : List (List Int)))) else (some (0, ([] : List (List Int)), 5)))) else (some (0, ([] : List (List Int)), 1)))) (Evt.const fun _ => if_neg (by simp)) fun _ => rfl
    · exact Evt.bind p2 (h := fun K t => (if t = true then ((impl_isTransitive.f K a1 G).bind fun t344 => (if t344 = true then ((impl_pairLetters.f K a1 G).bind fun bt345 => (impl_StabilizerPresentation.l0 K G bt345.1 a1 0 a0 R bt345.2 ([] : List (List Int)))) else (some (0, ([] : List (List Int)), 5)))) else (some (0, ([] : List (List Int)), 1)))) (Evt.const fun _ => if_neg (by simp)) fun _ => rfl

theorem FnExactStabilizerPresentation : laws_FnExactStabilizerPresentation.Pure := by
  intro a0 l a1 g _ hl hr _ hg hgr
  by_cases hb : l.length ≤ 1048576 ∧ ∀ x ∈ l, x.length ≤ 1048576
  · by_cases hc : g.length ≤ 1048576 ∧ ∀ x ∈ g, x.length ≤ 1048576
    · obtain ⟨s, ⟨k1, h1⟩, ⟨k2, h2⟩, b1, b2⟩ := stab_both a0 a1 l g hb.1 hb.2 (fun x hx => (hr x hx).2) hc.1 hc.2
      have b1' : s.2.1.length ≤ 1048576 := Nat.le_trans b1 (by decide)
      have b2' : ∀ x ∈ s.2.1, x.length ≤ 1048576 := fun x hx => Nat.le_trans (b2 x hx) (by decide)
      obtain ⟨k3, h3⟩ := markSS_ev l hb.1 hb.2
      obtain ⟨k4, h4⟩ := markSS_ev s.2.1 b1' b2'
      obtain ⟨k5, h5⟩ := heldSS_ev s.2.1 b1' b2'
      obtain ⟨k6, h6⟩ := stabMark l g hb.1 hb.2 hc.1 hc.2
      obtain ⟨K, hK⟩ : ∃ K : Nat, K = k1 + k2 + k3 + k4 + k5 + k6 + 2097300 := ⟨_, rfl⟩
      refine ⟨K, ?_⟩
      obtain ⟨r, e, hz⟩ := szPresentation_eq a0 l 1048576 K (by omega) (by omega) hl (fun x hx => (hr x hx).1) (by omega)
      unfold laws_FnExactStabilizerPresentation.f
      rw [e, Option.bind_some]
      by_cases h0 : r < 0
      · rw [if_pos h0]
      · have hz2 : 0 ≤ r ∧ r ≤ 1048576 := by
          rcases hz with hz | hz
          · exact absurd hz h0
          · exact ⟨hz.1, hz.2.1⟩
        obtain ⟨y, e2, _⟩ := szInt64SS_eq g r K hz2.1 hz2.2 hg (fun x hx => (hgr x hx).1) (by omega)
        rw [if_neg h0, e2, Option.bind_some]
        by_cases h9 : y < 0
        · rw [if_pos h9]
        · rw [if_neg h9, toPresentation_eq a0 l K hb.1 hb.2 (by omega), Option.bind_some, toInt64SS_eq g K hc.1 hc.2 (by omega), Option.bind_some]
          have g1 := h1 K (by omega)
          have g2 := h2 K (by omega)
          have g3 := h3 K (by omega)
          have g4 := h4 K (by omega)
          have g5 := h5 K (by omega)
          have g6 := h6 K (by omega)
          simp only at g1 g2 g3 g4 g5 g6
          have n1 : 0 ≤ 1 + (tot l : Int) + (tot g : Int) := by omega
          have n2 : 0 ≤ 1 + (tot s.2.1 : Int) := by omega
          have n3 : ¬ 1 + (tot s.2.1 : Int) < 0 := by omega
          simp only
          rw [g1, Option.bind_some, g2, Option.bind_some, eqPresentation_self s.1 s.2.1 1048576 K b1' (by omega) b2' (by omega), Option.bind_some, if_pos rfl, if_pos rfl, eqPresentation_self a0 l 1048576 K hb.1 (by omega) hb.2 (by omega), Option.bind_some, if_pos rfl, eqInt64SS_self g 1048576 K hc.1 (by omega) hc.2 (by omega), Option.bind_some, if_pos rfl]
          unfold laws_markPresentation.f
          rw [g3, Option.bind_some]
          simp only
          rw [g6, Option.bind_some]
          simp only
          rw [if_pos n1, g4, Option.bind_some]
          unfold laws_heldPresentation.f
          simp only
          rw [g5, Option.bind_some, if_neg n3, Option.bind_some, if_pos n2, if_pos rfl]
    · obtain ⟨K, hK⟩ : ∃ K : Nat, K = 2097300 := ⟨_, rfl⟩
      refine ⟨K, ?_⟩
      obtain ⟨r, e, hz⟩ := szPresentation_eq a0 l 1048576 K (by omega) (by omega) hl (fun x hx => (hr x hx).1) (by omega)
      unfold laws_FnExactStabilizerPresentation.f
      rw [e, Option.bind_some]
      by_cases h0 : r < 0
      · rw [if_pos h0]
      · have hz2 : 0 ≤ r ∧ r ≤ 1048576 := by
          rcases hz with hz | hz
          · exact absurd hz h0
          · exact ⟨hz.1, hz.2.1⟩
        obtain ⟨y, e2, hy⟩ := szInt64SS_eq g r K hz2.1 hz2.2 hg (fun x hx => (hgr x hx).1) (by omega)
        have h9 : y < 0 := by
          rcases hy with h | ⟨_, _, h1, h2⟩
          · exact h
          · exact absurd ⟨by omega, fun x hx => by have := h2 x hx; omega⟩ hc
        rw [if_neg h0, e2, Option.bind_some, if_pos h9]
  · obtain ⟨K, hK⟩ : ∃ K : Nat, K = 2097300 := ⟨_, rfl⟩
    refine ⟨K, ?_⟩
    obtain ⟨r, e, h⟩ := szPresentation_eq a0 l 1048576 K (by omega) (by omega) hl (fun x hx => (hr x hx).1) (by omega)
    have h0 : r < 0 := by
      rcases h with h | ⟨_, _, h1, h2⟩
      · exact h
      · exact absurd ⟨by omega, fun x hx => by have := h2 x hx; omega⟩ hb
    unfold laws_FnExactStabilizerPresentation.f
    rw [e, Option.bind_some, if_pos h0]

end Go.Proofs.Ytbcdngjajjgmkaa.Pure
