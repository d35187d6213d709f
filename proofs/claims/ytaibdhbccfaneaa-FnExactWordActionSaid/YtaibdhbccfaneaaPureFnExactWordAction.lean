/- Program and reference find the same action of a word, in new memory, and leave the arguments. No condition: for every input that the statement lets in. -/
import Derived.Test.YtaibdhbccfaneaaStmtFnExactWordAction
namespace Go.Proofs.Ytaibdhbccfaneaa.Pure
open Go.RowKit Go.Proofs.Ytaibdhbccfaneaa.PFnExactWordAction Go.Proofs.YtaibdhbccfaneaaW.PrintWords Go.Proofs.YtaibdhbccfaneaaW.PrintLast

set_option linter.unusedSimpArgs false
set_option linter.unusedVariables false
theorem w64 (x : Int) (h0 : -9223372036854775808 ≤ x) (h1 : x ≤ 9223372036854775807) : wrap64 x = x := by
  unfold wrap64
  omega
theorem w64n (n : Nat) (h : n ≤ 9223372036854775807) : wrap64 (n : Int) = (n : Int) := w64 _ (by omega) (by omega)
theorem rd_nat (l : List Int) (i : Nat) (h : i < l.length) : rd l (i : Int) = l[i] := by
  simp [rd, List.getD, List.getElem?_eq_getElem h]
theorem succ_k {k n : Nat} (h : n < k) : ∃ m, k = m + 1 := ⟨k - 1, by omega⟩
theorem cast_succ (i : Nat) : ((i : Int) + 1) = ((i + 1 : Nat) : Int) := by omega
theorem drop_rd (l : List Int) (k : Nat) (h : k < l.length) : l.drop k = rd l (k : Int) :: l.drop (k + 1) := by
  rw [List.drop_eq_getElem_cons h, rd_nat l k h]


theorem szInt64S_eq (l : List Int) (a : Int) (h0 : 0 ≤ a) (h1 : a ≤ 1048576) (hl : l.length ≤ maxLen) : laws_szInt64S.f l a = some (if a < l.length then -1 else a - l.length) := by
  unfold maxLen at hl
  unfold laws_szInt64S.f
  rw [w64 _ (by omega) (by omega)]
  by_cases h : a < l.length
  · rw [if_pos (by omega), if_pos h]
  · rw [if_neg (by omega), if_neg h]


theorem rdL1_nat (l : List (List Int)) (i : Nat) (h : i < l.length) : rd_L1 l (i : Int) = l[i] := by
  simp [rd_L1, List.getD, List.getElem?_eq_getElem h]
theorem drop_rdL1 (l : List (List Int)) (k : Nat) (h : k < l.length) : l.drop k = rd_L1 l (k : Int) :: l.drop (k + 1) := by
  rw [List.drop_eq_getElem_cons h, rdL1_nat l k h]
theorem rdL1_mem (l : List (List Int)) (i : Nat) (h : i < l.length) : rd_L1 l (i : Int) ∈ l := by
  rw [rdL1_nat l i h]
  exact List.getElem_mem h


theorem szInt64SS_l0 (l : List (List Int)) (hl : l.length ≤ 1048576) (hr : ∀ x ∈ l, x.length ≤ maxLen) : ∀ (d i k : Nat) (a : Int), i + d = l.length → d < k → 0 ≤ a → a ≤ 1048576 →
    ∃ r, laws_szInt64SS.l0 k l a (i : Int) = some r ∧ (r < 0 ∨ (0 ≤ r ∧ r ≤ a ∧ ∀ x ∈ l.drop i, (x.length : Int) ≤ a)) := by
  intro d
  induction d with
  | zero =>
    intro i k a hd hk h0 h1
    obtain ⟨k, rfl⟩ := succ_k hk
    simp only [laws_szInt64SS.l0]
    rw [if_neg (by omega), List.drop_of_length_le (by omega)]
    exact ⟨a, rfl, .inr ⟨h0, Int.le_refl _, by simp⟩⟩
  | succ d ih =>
    intro i k a hd hk h0 h1
    obtain ⟨k, rfl⟩ := succ_k hk
    simp only [laws_szInt64SS.l0]
    rw [if_pos (by omega), if_pos (by omega), szInt64S_eq _ a h0 h1 (hr _ (rdL1_mem l i (by omega)))]
    simp only [Option.bind_some]
    by_cases h : a < (rd_L1 l (i : Int)).length
    · rw [if_pos h, if_pos (by omega)]
      exact ⟨-1, rfl, .inl (by omega)⟩
    · rw [if_neg h, if_neg (by omega), w64 _ (by omega) (by omega), cast_succ, drop_rdL1 l i (by omega)]
      obtain ⟨r, e, hr'⟩ := ih (i + 1) k (a - (rd_L1 l (i : Int)).length) (by omega) (by omega) (by omega) (by omega)
      refine ⟨r, e, ?_⟩
      rcases hr' with hr' | ⟨h2, h3, h4⟩
      · exact .inl hr'
      · refine .inr ⟨h2, by omega, fun x hx => ?_⟩
        rcases List.mem_cons.1 hx with e | hx
        · subst e
          omega
        · have := h4 x hx
          omega
theorem szInt64SS_eq (l : List (List Int)) (a : Int) (k : Nat) (h0 : 0 ≤ a) (h1 : a ≤ 1048576) (hl : l.length ≤ maxLen) (hr : ∀ x ∈ l, x.length ≤ maxLen) (hk : 1048576 < k) :
    ∃ r, laws_szInt64SS.f k l a = some r ∧ (r < 0 ∨ (0 ≤ r ∧ r ≤ a ∧ (l.length : Int) ≤ a ∧ ∀ x ∈ l, (x.length : Int) ≤ a)) := by
  unfold maxLen at hl
  unfold laws_szInt64SS.f
  rw [w64 _ (by omega) (by omega)]
  by_cases h : a - (l.length : Int) < 0
  · rw [if_pos h]
    exact ⟨-1, rfl, .inl (by omega)⟩
  · rw [if_neg h]
    obtain ⟨r, e, hr'⟩ := szInt64SS_l0 l (by omega) hr l.length 0 k (a - l.length) (by omega) (by omega) (by omega) (by omega)
    refine ⟨r, e, ?_⟩
    rcases hr' with hr' | ⟨h2, h3, h4⟩
    · exact .inl hr'
    · refine .inr ⟨h2, by omega, by omega, fun x hx => ?_⟩
      have := h4 x (by simpa using hx)
      omega


theorem toInt64S_l0 (l : List Int) (hl : l.length ≤ 4611686018427387904) : ∀ (d i : Nat) (x3 : List Int) (k : Nat), x3.length = l.length → i + d = l.length → x3.take i = l.take i → d < k → laws_toInt64S.l0 k l x3 (i : Int) = some l := by
  intro d
  induction d with
  | zero =>
    intro i x3 k h3 hd ht hk
    obtain ⟨k, rfl⟩ := succ_k hk
    simp only [laws_toInt64S.l0]
    rw [if_neg (by omega)]
    have e : i = l.length := by omega
    subst e
    rw [List.take_length, List.take_of_length_le (by omega)] at ht
    rw [ht]
  | succ d ih =>
    intro i x3 k h3 hd ht hk
    obtain ⟨k, rfl⟩ := succ_k hk
    simp only [laws_toInt64S.l0]
    rw [if_pos (by omega), if_pos (by omega), if_pos (by omega), w64 _ (by omega) (by omega), cast_succ]
    refine ih (i + 1) _ k (by simp [h3]) (by omega) ?_ (by omega)
    rw [Int.toNat_natCast, rd_nat l i (by omega)]
    rw [List.take_succ_eq_append_getElem (by simp; omega), List.take_succ_eq_append_getElem (by omega), List.take_set_of_le (by omega), ht]
    simp
theorem toInt64S_eq (l : List Int) (k : Nat) (hl : l.length ≤ 1048576) (hk : l.length < k) : laws_toInt64S.f k l = some l := by
  unfold laws_toInt64S.f
  rw [if_pos (by omega), if_pos (by omega)]
  exact toInt64S_l0 l (by omega) l.length 0 _ k (by simp) (by omega) (by simp) hk


theorem toInt64SS_l0 (l : List (List Int)) (hl : l.length ≤ 1048576) (hr : ∀ x ∈ l, x.length ≤ 1048576) : ∀ (d i : Nat) (x3 : List (List Int)) (k : Nat), x3.length = l.length → i + d = l.length → x3.take i = l.take i → d + 1048576 < k → laws_toInt64SS.l0 k l x3 (i : Int) = some l := by
  intro d
  induction d with
  | zero =>
    intro i x3 k h3 hd ht hk
    obtain ⟨k, rfl⟩ := succ_k hk
    simp only [laws_toInt64SS.l0]
    rw [if_neg (by omega)]
    have e : i = l.length := by omega
    subst e
    rw [List.take_length, List.take_of_length_le (by omega)] at ht
    rw [ht]
  | succ d ih =>
    intro i x3 k h3 hd ht hk
    obtain ⟨k, rfl⟩ := succ_k hk
    simp only [laws_toInt64SS.l0]
    have hm := hr _ (rdL1_mem l i (by omega))
    rw [if_pos (by omega), if_pos (by omega), toInt64S_eq _ k hm (by omega)]
    simp only [Option.bind_some]
    rw [if_pos (by omega), w64 _ (by omega) (by omega), cast_succ]
    refine ih (i + 1) _ k (by simp [h3]) (by omega) ?_ (by omega)
    rw [Int.toNat_natCast, rdL1_nat l i (by omega)]
    rw [List.take_succ_eq_append_getElem (by simp; omega), List.take_succ_eq_append_getElem (by omega), List.take_set_of_le (by omega), ht]
    simp
theorem toInt64SS_eq (l : List (List Int)) (k : Nat) (hl : l.length ≤ 1048576) (hr : ∀ x ∈ l, x.length ≤ 1048576) (hk : 2097152 < k) : laws_toInt64SS.f k l = some l := by
  unfold laws_toInt64SS.f
  rw [if_pos (by omega), if_pos (by omega)]
  exact toInt64SS_l0 l (by omega) hr l.length 0 _ k (by simp) (by omega) (by simp) (by omega)


theorem eqInt64S_l0 (l r : List Int) (hr : r.length = l.length) (hl : l.length ≤ 4611686018427387904) : ∀ (d i k : Nat), i + d = l.length → d < k → laws_eqInt64S.l0 k l r (i : Int) = some (decide (l.drop i = r.drop i)) := by
  intro d
  induction d with
  | zero =>
    intro i k hd hk
    obtain ⟨k, rfl⟩ := succ_k hk
    simp only [laws_eqInt64S.l0]
    rw [if_neg (by omega), List.drop_of_length_le (by omega), List.drop_of_length_le (by omega)]
    simp
  | succ d ih =>
    intro i k hd hk
    obtain ⟨k, rfl⟩ := succ_k hk
    simp only [laws_eqInt64S.l0]
    rw [if_pos (by omega), if_pos (by omega), if_pos (by omega), w64 _ (by omega) (by omega), cast_succ, ih (i + 1) k (by omega) (by omega), drop_rd l i (by omega), drop_rd r i (by omega)]
    by_cases h : rd l (i : Int) = rd r (i : Int)
    · simp [h]
    · simp [h]
theorem eqInt64S_eq (l r : List Int) (k : Nat) (hl : l.length ≤ 4611686018427387904) (hk : l.length < k) : laws_eqInt64S.f k l r = some (decide (l = r)) := by
  unfold laws_eqInt64S.f
  by_cases h : l.length = r.length
  · rw [if_pos (by omega)]
    have := eqInt64S_l0 l r h.symm hl l.length 0 k (by omega) hk
    simpa using this
  · rw [if_neg (by omega)]
    have : ¬ l = r := fun e => h (by rw [e])
    simp [this]
theorem eqInt64S_self (l : List Int) (k : Nat) (hl : l.length ≤ 4611686018427387904) (hk : l.length < k) : laws_eqInt64S.f k l l = some true := by
  rw [eqInt64S_eq l l k hl hk]
  simp


theorem eqInt64SS_l0 (l : List (List Int)) (hl : l.length ≤ 4611686018427387904) (n : Nat) (hn : n ≤ 4611686018427387904) (hr : ∀ x ∈ l, x.length ≤ n) : ∀ (d i k : Nat), i + d = l.length → d + n < k → laws_eqInt64SS.l0 k l l (i : Int) = some true := by
  intro d
  induction d with
  | zero =>
    intro i k hd hk
    obtain ⟨k, rfl⟩ := succ_k hk
    simp only [laws_eqInt64SS.l0]
    rw [if_neg (by omega)]
  | succ d ih =>
    intro i k hd hk
    obtain ⟨k, rfl⟩ := succ_k hk
    simp only [laws_eqInt64SS.l0]
    have hm := hr _ (rdL1_mem l i (by omega))
    rw [if_pos (by omega), if_pos (by omega), if_pos (by omega), eqInt64S_self _ k (by omega) (by omega)]
    simp only [Option.bind_some, if_true]
    rw [w64 _ (by omega) (by omega), cast_succ, ih (i + 1) k (by omega) (by omega)]
theorem eqInt64SS_self (l : List (List Int)) (n k : Nat) (hl : l.length ≤ 1048576) (hn : n ≤ 1048576) (hr : ∀ x ∈ l, x.length ≤ n) (hk : 2097152 < k) : laws_eqInt64SS.f k l l = some true := by
  unfold laws_eqInt64SS.f
  rw [if_pos rfl]
  exact eqInt64SS_l0 l (by omega) n (by omega) hr l.length 0 k (by omega) (by omega)


/-- The numbers from m on. -/
def marks : Int → Nat → List Int
  | _, 0 => []
  | m, n + 1 => m :: marks (m + 1) n
theorem marks_length : ∀ (m : Int) (n : Nat), (marks m n).length = n
  | _, 0 => rfl
  | m, n + 1 => by simp [marks, marks_length (m + 1) n]


theorem markInt64S_l0 : ∀ (d i k : Nat) (x0 : List Int) (x1 : Int), x0.length ≤ 4611686018427387904 → i + d = x0.length → 0 ≤ x1 → x1 + d ≤ 4611686018427387904 → d < k →
    laws_markInt64S.l0 k x0 x1 (i : Int) = some (x1 + d, x0.take i ++ marks x1 d) := by
  intro d
  induction d with
  | zero =>
    intro i k x0 x1 hl hd h0 h1 hk
    obtain ⟨k, rfl⟩ := succ_k hk
    simp only [laws_markInt64S.l0]
    rw [if_neg (by omega)]
    simp [marks, List.take_of_length_le (show x0.length ≤ i by omega)]
  | succ d ih =>
    intro i k x0 x1 hl hd h0 h1 hk
    obtain ⟨k, rfl⟩ := succ_k hk
    simp only [laws_markInt64S.l0]
    rw [if_pos (by omega), if_pos (by omega), w64 _ (by omega) (by omega), w64 _ (by omega) (by omega), cast_succ, Int.toNat_natCast]
    rw [ih (i + 1) k (x0.set i x1) (x1 + 1) (by simp; omega) (by simp; omega) (by omega) (by omega) (by omega)]
    rw [List.take_succ_eq_append_getElem (by simp; omega), List.take_set_of_le (by omega)]
    simp only [marks, List.getElem_set_self, List.append_assoc, List.singleton_append]
    rw [show x1 + 1 + (d : Int) = x1 + ((d + 1 : Nat) : Int) by omega]
theorem markInt64S_eq (l : List Int) (m : Int) (k : Nat) (hl : l.length ≤ 1048576) (h0 : 0 ≤ m) (h1 : m ≤ 4611686018426339328) (hk : l.length < k) :
    laws_markInt64S.f k l m = some (m + l.length, marks m l.length) := by
  unfold laws_markInt64S.f
  have := markInt64S_l0 l.length 0 k l m (by omega) (by omega) h0 (by omega) hk
  simpa using this


/-- With enough rounds, the answer is r. -/
def Evt {α : Type} (f : Nat → Option α) (r : α) : Prop := ∃ c, ∀ K, c ≤ K → f K = some r
theorem Evt.step {α : Type} {f g : Nat → Option α} {r : α} (h : Evt g r) (e : ∀ K, f (K + 1) = g K) : Evt f r := by
  obtain ⟨c, hc⟩ := h
  refine ⟨c + 1, fun K hK => ?_⟩
  obtain ⟨K, rfl⟩ : ∃ m, K = m + 1 := ⟨K - 1, by omega⟩
  rw [e K]
  exact hc K (by omega)
theorem Evt.same {α : Type} {f g : Nat → Option α} {r : α} (h : Evt g r) (e : ∀ K, f K = g K) : Evt f r := by
  obtain ⟨c, hc⟩ := h
  exact ⟨c, fun K hK => by rw [e K]; exact hc K hK⟩
theorem Evt.now {α : Type} {f : Nat → Option α} {r : α} (e : ∀ K, f (K + 1) = some r) : Evt f r := by
  refine ⟨1, fun K hK => ?_⟩
  obtain ⟨K, rfl⟩ : ∃ m, K = m + 1 := ⟨K - 1, by omega⟩
  exact e K
theorem Evt.const {α : Type} {f : Nat → Option α} {r : α} (e : ∀ K, f K = some r) : Evt f r := ⟨0, fun K _ => e K⟩
theorem Evt.bind {α β : Type} {f : Nat → Option β} {g : Nat → Option α} {h : Nat → α → Option β} {x : α} {r : β} (hg : Evt g x) (hh : Evt (fun K => h K x) r) (e : ∀ K, f K = (g K).bind (h K)) : Evt f r := by
  obtain ⟨c, hc⟩ := hg
  obtain ⟨d, hd⟩ := hh
  exact ⟨c + d, fun K hK => by rw [e K, hc K (by omega)]; exact hd K (by omega)⟩
theorem Evt.bind1 {α β : Type} {f : Nat → Option β} {g : Nat → Option α} {h : Nat → α → Option β} {x : α} {r : β} (hg : Evt g x) (hh : Evt (fun K => h K x) r) (e : ∀ K, f (K + 1) = (g K).bind (h K)) : Evt f r :=
  Evt.step (g := fun K => (g K).bind (h K)) (Evt.bind hg hh fun _ => rfl) e
theorem Evt.get {α : Type} {f : Nat → Option α} {r : α} (h : Evt f r) : ∃ c, ∀ K, c ≤ K → f K = some r := h

/-- All that stands in the rows. -/
def tot : List (List Int) → Nat
  | [] => 0
  | r :: t => r.length + tot t
theorem tot_cons (r : List Int) (t : List (List Int)) : tot (r :: t) = r.length + tot t := rfl
theorem tot_le (n : Nat) : ∀ (l : List (List Int)), (∀ x ∈ l, x.length ≤ n) → tot l ≤ n * l.length
  | [], _ => Nat.zero_le _
  | r :: t, h => by
    have h1 := h r (by simp)
    have h2 := tot_le n t fun x hx => h x (List.mem_cons_of_mem _ hx)
    rw [List.length_cons, Nat.mul_succ]
    rw [tot_cons]
    omega
def marksSS : Int → List (List Int) → List (List Int)
  | _, [] => []
  | m, r :: t => marks m r.length :: marksSS (m + r.length) t
theorem markSS_l0 : ∀ (d i : Nat) (x : List (List Int)) (m : Int), x.length ≤ 1048576 → i + d = x.length → (∀ r ∈ x.drop i, r.length ≤ 1048576) → 0 ≤ m → m + tot (x.drop i) ≤ 4611686018426339328 →
    Evt (fun K => laws_markInt64SS.l0 K x m (i : Int)) (m + tot (x.drop i), x.take i ++ marksSS m (x.drop i))
  | 0, i, x, m, hl, hd, hr, h0, h1 => by
    refine Evt.now fun K => ?_
    rw [laws_markInt64SS.l0, if_neg (by omega), List.drop_of_length_le (by omega), List.take_of_length_le (by omega)]
    simp [tot, marksSS]
  | d + 1, i, x, m, hl, hd, hr, h0, h1 => by
    have hi : i < x.length := by omega
    have ei : wrap64 ((i : Int) + 1) = ((i + 1 : Nat) : Int) := w64n (i + 1) (by omega)
    have f1 : (i : Int) < (x.length : Int) := Int.ofNat_lt.2 hi
    have hg : x.getD i [] = x[i] := by rw [List.getD_eq_getElem?_getD, List.getElem?_eq_getElem hi]; rfl
    rw [List.drop_eq_getElem_cons hi] at hr h1 ⊢
    have hri := hr x[i] List.mem_cons_self
    rw [tot_cons] at h1
    have hm : Evt (fun K => laws_markInt64S.f K x[i] m) (m + (x[i]).length, marks m (x[i]).length) := ⟨(x[i]).length + 1, fun K hK => markInt64S_eq x[i] m K hri h0 (by omega) (by omega)⟩
    have e1 : (x.set i (marks m (x[i]).length)).drop (i + 1) = x.drop (i + 1) := by rw [List.drop_set_of_lt (by omega)]
    have e2 : (x.set i (marks m (x[i]).length)).take (i + 1) = x.take i ++ [marks m (x[i]).length] := by
      rw [List.take_succ_eq_append_getElem (by rw [List.length_set]; exact hi), List.take_set_of_le (Nat.le_refl _), List.getElem_set_self]
    have ih := markSS_l0 d (i + 1) (x.set i (marks m (x[i]).length)) (m + (x[i]).length) (by rw [List.length_set]; exact hl) (by rw [List.length_set]; omega) (by rw [e1]; exact fun r hr' => hr r (List.mem_cons_of_mem _ hr')) (by omega) (by rw [e1]; omega)
    rw [e1, e2, List.append_assoc, List.singleton_append] at ih
    have e3 : m + (tot (x[i] :: x.drop (i + 1)) : Int) = m + (x[i]).length + tot (x.drop (i + 1)) := by
      rw [tot_cons]
      omega
    rw [e3]
    refine Evt.bind1 (h := fun K t => laws_markInt64SS.l0 K (x.set i t.2) t.1 ((i + 1 : Nat) : Int)) hm ih fun K => by rw [laws_markInt64SS.l0, if_pos f1, if_pos (Int.natCast_nonneg i), Int.toNat_natCast, hg, ei]
theorem tot_small {l : List (List Int)} (hl : l.length ≤ 1048576) (hr : ∀ x ∈ l, x.length ≤ 1048576) : 1 + (tot l : Int) ≤ 4611686018426339328 := by
  have h1 := tot_le 1048576 l hr
  have h2 : 1048576 * l.length ≤ 1048576 * 1048576 := Nat.mul_le_mul_left _ hl
  have h3 : (1048576 * 1048576 : Nat) = 1099511627776 := by decide
  omega
theorem markSS_ev (l : List (List Int)) (hl : l.length ≤ 1048576) (hr : ∀ x ∈ l, x.length ≤ 1048576) : Evt (fun K => laws_markInt64SS.f K l 1) (1 + (tot l : Int), marksSS 1 l) := by
  have h := markSS_l0 l.length 0 l 1 hl (Nat.zero_add _) (by rw [List.drop_zero]; exact hr) (by decide) (by rw [List.drop_zero]; exact tot_small hl hr)
  rw [List.drop_zero, List.take_zero, List.nil_append] at h
  exact h

theorem heldInt64S_l0 : ∀ (d i k : Nat) (x0 : List Int) (x1 : Int), x0.length ≤ 4611686018427387904 → i + d = x0.length → x0.drop i = marks x1 d → 0 ≤ x1 → x1 + d ≤ 4611686018427387904 → d < k →
    laws_heldInt64S.l0 k x0 x1 (i : Int) = some (x1 + d) := by
  intro d
  induction d with
  | zero =>
    intro i k x0 x1 hl hd he h0 h1 hk
    obtain ⟨k, rfl⟩ := succ_k hk
    simp only [laws_heldInt64S.l0]
    rw [if_neg (by omega)]
    simp
  | succ d ih =>
    intro i k x0 x1 hl hd he h0 h1 hk
    obtain ⟨k, rfl⟩ := succ_k hk
    simp only [laws_heldInt64S.l0]
    rw [drop_rd x0 i (by omega)] at he
    simp only [marks, List.cons.injEq] at he
    rw [if_pos (by omega), if_pos (by omega), if_pos he.1, w64 _ (by omega) (by omega), w64 _ (by omega) (by omega), cast_succ, ih (i + 1) k x0 (x1 + 1) hl (by omega) he.2 (by omega) (by omega) (by omega)]
    rw [show x1 + 1 + (d : Int) = x1 + ((d + 1 : Nat) : Int) by omega]
theorem heldInt64S_marks (m : Int) (n k : Nat) (hl : n ≤ 1048576) (h0 : 0 ≤ m) (h1 : m ≤ 4611686018426339328) (hk : n < k) :
    laws_heldInt64S.f k (marks m n) m = some (m + n) := by
  unfold laws_heldInt64S.f
  exact heldInt64S_l0 n 0 k (marks m n) m (by rw [marks_length]; omega) (by rw [marks_length]; omega) (by simp) h0 (by omega) hk


theorem len_le_of_sub : ∀ (l m : List Int), l.Nodup → (∀ x ∈ l, x ∈ m) → l.length ≤ m.length
  | [], m, _, _ => Nat.zero_le _
  | a :: l, m, h, hs => by
    obtain ⟨h1, h2⟩ := List.nodup_cons.1 h
    have ha : a ∈ m := hs a (by simp)
    have := len_le_of_sub l (m.erase a) h2 (fun x hx => (List.mem_erase_of_ne (fun (e : x = a) => h1 (e ▸ hx))).2 (hs x (List.mem_cons_of_mem _ hx)))
    rw [List.length_erase_of_mem ha] at this
    have hp : 0 < m.length := List.length_pos_of_mem ha
    rw [List.length_cons]
    omega
/-- The numbers below n. -/
def rangeI (n : Nat) : List Int := (List.range n).map fun (i : Nat) => (i : Int)
theorem rangeI_len (n : Nat) : (rangeI n).length = n := by simp [rangeI]
theorem rangeI_mem (n : Nat) (x : Int) : x ∈ rangeI n ↔ 0 ≤ x ∧ x < n := by
  unfold rangeI
  rw [List.mem_map]
  constructor
  · rintro ⟨i, hi, rfl⟩
    rw [List.mem_range] at hi
    omega
  · rintro ⟨h0, h1⟩
    exact ⟨x.toNat, by rw [List.mem_range]; omega, by omega⟩
theorem rangeI_nodup (n : Nat) : (rangeI n).Nodup := by
  unfold rangeI List.Nodup
  rw [List.pairwise_map]
  exact List.Pairwise.imp (fun h => by omega) (List.nodup_range (n := n))
def InN (n : Nat) (q : List Int) : Prop := ∀ x ∈ q, 0 ≤ x ∧ x < n
theorem short_of {n : Nat} {q : List Int} (h : q.Nodup) (hr : InN n q) : q.length ≤ n := by
  have := len_le_of_sub q (rangeI n) h (fun x hx => (rangeI_mem n x).2 (hr x hx))
  rwa [rangeI_len] at this
theorem full_of {n : Nat} {q : List Int} (h : q.Nodup) (hr : InN n q) (hl : n ≤ q.length) (y : Int) (h0 : 0 ≤ y) (h1 : y < n) : y ∈ q := by
  by_cases c : y ∈ q
  · exact c
  · have := short_of (q := y :: q) (List.nodup_cons.2 ⟨c, h⟩) (fun x hx => by
      rcases List.mem_cons.1 hx with rfl | hx
      · exact ⟨h0, h1⟩
      · exact hr x hx)
    rw [List.length_cons] at this
    omega
/-- A permutation of the numbers below n. -/
def PermN (n : Nat) (g : List Int) : Prop := g.length = n ∧ g.Nodup ∧ InN n g
theorem rd_in (l : List Int) (y : Int) (h0 : 0 ≤ y) (h1 : y < l.length) : rd l y ∈ l := by
  obtain ⟨m, rfl⟩ : ∃ m : Nat, y = m := ⟨y.toNat, by omega⟩
  rw [rd_nat l m (by omega)]
  exact List.getElem_mem _
theorem PermN.at {n : Nat} {g : List Int} (h : PermN n g) {y : Int} (h0 : 0 ≤ y) (h1 : y < n) : 0 ≤ rd g y ∧ rd g y < n := h.2.2 _ (rd_in g y h0 (by have := h.1; omega))
theorem PermN.inj {n : Nat} {g : List Int} (h : PermN n g) {a b : Int} (a0 : 0 ≤ a) (a1 : a < n) (b0 : 0 ≤ b) (b1 : b < n) (e : rd g a = rd g b) : a = b := by
  obtain ⟨i, rfl⟩ : ∃ m : Nat, a = m := ⟨a.toNat, by omega⟩
  obtain ⟨j, rfl⟩ : ∃ m : Nat, b = m := ⟨b.toNat, by omega⟩
  have hl := h.1
  rw [rd_nat g i (by omega), rd_nat g j (by omega)] at e
  have hp := List.pairwise_iff_getElem.1 h.2.1
  rcases Nat.lt_trichotomy i j with c | c | c
  · exact absurd e (hp i j (by omega) (by omega) c)
  · rw [c]
  · exact absurd e.symm (hp j i (by omega) (by omega) c)
/-- What a permutation sends into a closed set came out of it. -/
theorem PermN.back {n : Nat} {g : List Int} (h : PermN n g) {S : List Int} (hS : S.Nodup) (hr : InN n S) (hc : ∀ y ∈ S, rd g y ∈ S) {y : Int} (h0 : 0 ≤ y) (h1 : y < n) (hy : rd g y ∈ S) : y ∈ S := by
  by_cases c : y ∈ S
  · exact c
  · have hn : ((y :: S).map fun z => rd g z).Nodup := by
      unfold List.Nodup
      rw [List.pairwise_map]
      refine List.Pairwise.imp_of_mem (fun {a b} ha hb hab e => ?_) (List.nodup_cons.2 ⟨c, hS⟩)
      have ia : 0 ≤ a ∧ a < n := by rcases List.mem_cons.1 ha with rfl | ha; exact ⟨h0, h1⟩; exact hr a ha
      have ib : 0 ≤ b ∧ b < n := by rcases List.mem_cons.1 hb with rfl | hb; exact ⟨h0, h1⟩; exact hr b hb
      exact hab (h.inj ia.1 ia.2 ib.1 ib.2 e)
    have := len_le_of_sub _ S hn (fun x hx => by
      obtain ⟨z, hz, rfl⟩ := List.mem_map.1 hx
      rcases List.mem_cons.1 hz with rfl | hz
      · exact hy
      · exact hc z hz)
    rw [List.length_map, List.length_cons] at this
    omega
/-- The marks of a list. -/
def mkB (n : Nat) (q : List Int) : List Bool := (List.range n).map fun (i : Nat) => decide ((i : Int) ∈ q)
theorem mkB_length (n : Nat) (q : List Int) : (mkB n q).length = n := by simp [mkB]
theorem rdB (n : Nat) (q : List Int) (c : Int) (h0 : 0 ≤ c) (h1 : c < n) : rdOf false (mkB n q) c = decide (c ∈ q) := by
  obtain ⟨m, rfl⟩ : ∃ m : Nat, c = m := ⟨c.toNat, by omega⟩
  unfold rdOf mkB
  rw [Int.toNat_natCast, List.getD_eq_getElem?_getD, List.getElem?_map, List.getElem?_range (by omega)]
  rfl
theorem mkB_set (n : Nat) (q : List Int) (c : Int) (h0 : 0 ≤ c) : (mkB n q).set c.toNat true = mkB n (q ++ [c]) := by
  refine List.ext_getElem (by simp [mkB]) fun i h1 h2 => ?_
  simp only [mkB, List.getElem_set, List.getElem_map, List.getElem_range]
  by_cases e : c.toNat = i
  · rw [if_pos e]
    have : (i : Int) ∈ q ++ [c] := by simp; omega
    simp [this]
  · rw [if_neg e]
    have : ((i : Int) ∈ q ++ [c]) ↔ ((i : Int) ∈ q) := by
      rw [List.mem_append, List.mem_singleton]
      constructor
      · rintro (h | h)
        · exact h
        · omega
      · exact Or.inl
    exact decide_eq_decide.2 this.symm
theorem mkB_nil (n : Nat) : List.replicate n false = mkB n [] := by
  refine List.ext_getElem (by simp [mkB]) fun i h1 h2 => ?_
  unfold mkB
  simp
/-- A number is put to the list, if it is not there. -/
def pushO (o q : List Int) (c : Int) : List Int := if c ∈ o ++ q then q else q ++ [c]
def Good (n : Nat) (o q : List Int) : Prop := (o ++ q).Nodup ∧ InN n (o ++ q)
theorem Good.push {n : Nat} {o q : List Int} (h : Good n o q) {c : Int} (h0 : 0 ≤ c) (h1 : c < n) : Good n o (pushO o q c) := by
  unfold pushO
  split
  · exact h
  · rename_i hc
    refine ⟨?_, fun x hx => ?_⟩
    · rw [← List.append_assoc]
      refine List.nodup_append.2 ⟨h.1, by simp, fun a ha b hb e => ?_⟩
      rw [List.mem_singleton] at hb
      exact hc (hb ▸ e ▸ ha)
    · rw [← List.append_assoc, List.mem_append, List.mem_singleton] at hx
      rcases hx with hx | rfl
      · exact h.2 x hx
      · exact ⟨h0, h1⟩
theorem pushO_pre (o q : List Int) (c : Int) : ∃ t, pushO o q c = q ++ t := by
  unfold pushO
  split
  · exact ⟨[], by simp⟩
  · exact ⟨[c], rfl⟩
theorem pushO_in (o q : List Int) (c : Int) : c ∈ o ++ pushO o q c := by
  unfold pushO
  split
  · assumption
  · simp
theorem pushO_mem (o q : List Int) (c x : Int) (h : x ∈ pushO o q c) : x ∈ q ∨ x = c := by
  unfold pushO at h
  split at h
  · exact .inl h
  · simpa using h
theorem foldO {n : Nat} {o : List Int} : ∀ (cs q : List Int), Good n o q → InN n cs → Good n o (cs.foldl (pushO o) q) ∧ (∃ t, cs.foldl (pushO o) q = q ++ t) ∧ (∀ c ∈ cs, c ∈ o ++ cs.foldl (pushO o) q) ∧ ∀ x ∈ cs.foldl (pushO o) q, x ∈ q ∨ x ∈ cs
  | [], q, h, _ => ⟨h, ⟨[], by simp⟩, fun _ hc => absurd hc (by simp), fun x hx => .inl hx⟩
  | c :: cs, q, h, hr => by
    have hc := hr c (by simp)
    obtain ⟨h1, ⟨t, h2⟩, h3, h4⟩ := foldO cs (pushO o q c) (h.push hc.1 hc.2) (fun x hx => hr x (List.mem_cons_of_mem _ hx))
    obtain ⟨t1, e1⟩ := pushO_pre o q c
    rw [List.foldl_cons]
    refine ⟨h1, ⟨t1 ++ t, by rw [h2, e1, List.append_assoc]⟩, fun x hx => ?_, fun x hx => ?_⟩
    · rcases List.mem_cons.1 hx with rfl | hx
      · have := pushO_in o q x
        rw [h2]
        rw [List.mem_append] at this ⊢
        rcases this with h | h
        · exact .inl h
        · exact .inr (List.mem_append_left _ h)
      · exact h3 x hx
    · rcases h4 x hx with h | h
      · rcases pushO_mem o q c x h with h | h
        · exact .inl h
        · exact .inr (by simp [h])
      · exact .inr (List.mem_cons_of_mem _ h)
/-- All that can be reached, first come, first served. -/
def bfsO (o : List Int) (cand : Int → List Int) : Nat → Nat → List Int → List Int
  | 0, _, q => q
  | d + 1, i, q => if i < q.length then bfsO o cand d (i + 1) ((cand (rd q (i : Int))).foldl (pushO o) q) else q
theorem rd_pre (q t : List Int) (i : Nat) (h : i < q.length) : rd (q ++ t) (i : Int) = rd q (i : Int) := by
  rw [rd_nat q i h, rd_nat (q ++ t) i (by simp; omega), List.getElem_append_left]
theorem mem_rd (q : List Int) (x : Int) (h : x ∈ q) : ∃ j : Nat, j < q.length ∧ rd q (j : Int) = x := by
  obtain ⟨j, hj, e⟩ := List.getElem_of_mem h
  exact ⟨j, hj, by rw [rd_nat q j hj, e]⟩
theorem Good.len {n : Nat} {o q : List Int} (h : Good n o q) : q.length ≤ n := by
  have := short_of h.1 h.2
  rw [List.length_append] at this
  omega
theorem Good.right {n : Nat} {o q : List Int} (h : Good n o q) : q.Nodup ∧ InN n q := ⟨(List.nodup_append.1 h.1).2.1, fun x hx => h.2 x (List.mem_append_right _ hx)⟩
theorem bfsO_facts {n : Nat} {o : List Int} {cand : Int → List Int} (hc : ∀ y : Int, 0 ≤ y → y < n → InN n (cand y)) : ∀ (d i : Nat) (q : List Int), Good n o q → i ≤ q.length → n < d + i →
    (∀ j : Nat, j < i → ∀ c ∈ cand (rd q (j : Int)), c ∈ o ++ q) →
    Good n o (bfsO o cand d i q) ∧ (∀ x ∈ q, x ∈ bfsO o cand d i q) ∧ (∀ y ∈ bfsO o cand d i q, ∀ c ∈ cand y, c ∈ o ++ bfsO o cand d i q) ∧
      ∀ P : Int → Prop, (∀ y : Int, 0 ≤ y → y < n → P y → ∀ c ∈ cand y, P c) → (∀ y ∈ q, P y) → ∀ y ∈ bfsO o cand d i q, P y
  | 0, i, q, h, hi, hd, _ => by
    have := h.len
    omega
  | d + 1, i, q, h, hi, hd, hp => by
    unfold bfsO
    by_cases c : i < q.length
    · rw [if_pos c]
      have hy := h.right.2 _ (rd_in q (i : Int) (by omega) (by omega))
      obtain ⟨h1, ⟨t, h2⟩, h3, h4⟩ := foldO (n := n) (o := o) (cand (rd q (i : Int))) q h (hc _ hy.1 hy.2)
      obtain ⟨g1, g2, g3, g4⟩ := bfsO_facts hc d (i + 1) _ h1 (by rw [h2]; simp; omega) (by omega) (fun j hj x hx => by
        by_cases e : j = i
        · subst e
          rw [h2, rd_pre q t j c] at hx
          exact h3 x hx
        · rw [h2, rd_pre q t j (by omega)] at hx
          have := hp j (by omega) x hx
          rw [h2, ← List.append_assoc]
          exact List.mem_append_left _ this)
      refine ⟨g1, fun x hx => g2 x (by rw [h2]; exact List.mem_append_left _ hx), g3, fun P hP hq => g4 P hP fun y hy2 => ?_⟩
      rcases h4 y hy2 with h | h
      · exact hq y h
      · exact hP _ hy.1 hy.2 (hq _ (rd_in q (i : Int) (by omega) (by omega))) y h
    · rw [if_neg c]
      refine ⟨h, fun x hx => hx, fun y hy x hx => ?_, fun P _ hq => hq⟩
      obtain ⟨j, hj, rfl⟩ := mem_rd q y hy
      exact hp j (by omega) x hx


/-- The place of a number in a list; -1, if it is not there. -/
def idxF : List Int → Int → Nat → Int
  | [], _, _ => -1
  | x :: t, y, i => if x = y then (i : Int) else idxF t y (i + 1)
theorem idxF_at : ∀ (t : List Int) (y : Int) (i : Nat), y ∈ t → ∃ m : Nat, m < t.length ∧ idxF t y i = ((i + m : Nat) : Int) ∧ rd t (m : Int) = y
  | [], y, i, h => absurd h (by simp)
  | x :: t, y, i, h => by
    unfold idxF
    by_cases c : x = y
    · rw [if_pos c]
      exact ⟨0, by simp, rfl, c⟩
    · rw [if_neg c]
      obtain ⟨m, h1, h2, h3⟩ := idxF_at t y (i + 1) (by
        rcases List.mem_cons.1 h with e | e
        · exact absurd e.symm c
        · exact e)
      refine ⟨m + 1, by rw [List.length_cons]; omega, by rw [h2]; congr 1; omega, ?_⟩
      rw [← h3]
      simp only [rd, Int.toNat_natCast]
      rfl
/-- Where a permutation comes from. -/
def invI (g : List Int) (y : Int) : Int := idxF g y 0
theorem invI_at {n : Nat} {g : List Int} (h : PermN n g) {y : Int} (h0 : 0 ≤ y) (h1 : y < n) : (0 ≤ invI g y ∧ invI g y < n) ∧ rd g (invI g y) = y := by
  obtain ⟨m, h2, h3, h4⟩ := idxF_at g y 0 (full_of h.2.1 h.2.2 (by rw [h.1]; exact Nat.le_refl _) y h0 h1)
  rw [h.1] at h2
  rw [Nat.zero_add] at h3
  unfold invI
  rw [h3]
  exact ⟨⟨by omega, by omega⟩, h4⟩

/-- Where a letter maps a point. -/
def actL (G : List (List Int)) (a x : Int) : Int := if 0 < a then rd (rd_L1 G (a - 1)) x else invI (rd_L1 G (-a - 1)) x
def actW (G : List (List Int)) (w : List Int) (x : Int) : Int := w.foldl (fun x a => actL G a x) x
/-- A letter for which there is a permutation. -/
def LetterIn (G : List (List Int)) (a : Int) : Prop := a ≠ 0 ∧ -(G.length : Int) ≤ a ∧ a ≤ (G.length : Int)
theorem LetterIn.cases {G : List (List Int)} {a : Int} (h : LetterIn G a) : ∃ j : Nat, j < G.length ∧ (a = ((j + 1 : Nat) : Int) ∨ a = -((j + 1 : Nat) : Int)) := by
  obtain ⟨h0, h1, h2⟩ := h
  by_cases c : 0 < a
  · exact ⟨(a - 1).toNat, by omega, .inl (by omega)⟩
  · exact ⟨(-a - 1).toNat, by omega, .inr (by omega)⟩
theorem actL_pos (G : List (List Int)) (j : Nat) (x : Int) : actL G ((j + 1 : Nat) : Int) x = rd (rd_L1 G (j : Int)) x := by
  unfold actL
  rw [if_pos (by omega), show ((j + 1 : Nat) : Int) - 1 = (j : Int) by omega]
theorem actL_neg (G : List (List Int)) (j : Nat) (x : Int) : actL G (-((j + 1 : Nat) : Int)) x = invI (rd_L1 G (j : Int)) x := by
  unfold actL
  rw [if_neg (by omega), show -(-((j + 1 : Nat) : Int)) - 1 = (j : Int) by omega]
theorem actL_in {n : Nat} {G : List (List Int)} (hG : ∀ g ∈ G, PermN n g) {a x : Int} (ha : LetterIn G a) (h0 : 0 ≤ x) (h1 : x < n) : 0 ≤ actL G a x ∧ actL G a x < n := by
  obtain ⟨j, hj, rfl | rfl⟩ := ha.cases
  · rw [actL_pos]
    exact (hG _ (rdL1_mem G j hj)).at h0 h1
  · rw [actL_neg]
    exact (invI_at (hG _ (rdL1_mem G j hj)) h0 h1).1
theorem actW_in {n : Nat} {G : List (List Int)} (hG : ∀ g ∈ G, PermN n g) : ∀ (w : List Int) (x : Int), (∀ a ∈ w, LetterIn G a) → 0 ≤ x → x < n → 0 ≤ actW G w x ∧ actW G w x < n
  | [], x, _, h0, h1 => ⟨h0, h1⟩
  | a :: w, x, hw, h0, h1 => by
    have h := actL_in hG (hw a List.mem_cons_self) h0 h1
    exact actW_in hG w _ (fun b hb => hw b (List.mem_cons_of_mem _ hb)) h.1 h.2
/-- Does a word map each point to itself? -/
def trivB (G : List (List Int)) (w : List Int) : Nat → Nat → Bool
  | 0, _ => true
  | d + 1, x => decide (actW G w (x : Int) = (x : Int)) && trivB G w d (x + 1)
theorem neg_letter (j : Nat) (hj : j ≤ 1048576) : wrap64 (wrap64 (-(-((j + 1 : Nat) : Int))) - 1) = (j : Int) := by
  rw [Int.neg_neg, w64n (j + 1) (by omega), show ((j + 1 : Nat) : Int) - 1 = (j : Int) by omega]
  exact w64n j (by omega)
theorem pos_letter (j : Nat) (hj : j ≤ 1048576) : wrap64 (((j + 1 : Nat) : Int) - 1) = (j : Int) := by
  rw [show ((j + 1 : Nat) : Int) - 1 = (j : Int) by omega]
  exact w64n j (by omega)

theorem index_l0 (y : Int) (g : List Int) (hl : g.length ≤ 1048576) : ∀ (d i : Nat), i + d = g.length → Evt (fun K => slices_Index_int64_int64.l0 K g y (g.length : Int) (i : Int)) (idxF (g.drop i) y i)
  | 0, i, hd => by
    refine Evt.now fun K => ?_
    rw [slices_Index_int64_int64.l0, if_neg (by omega), List.drop_of_length_le (by omega)]
    rfl
  | d + 1, i, hd => by
    have hi : i < g.length := by omega
    have hd2 : i + 1 + d = g.length := by omega
    have ei : wrap64 ((i : Int) + 1) = ((i + 1 : Nat) : Int) := w64n (i + 1) (by omega)
    have f1 : (i : Int) < (g.length : Int) := Int.ofNat_lt.2 hi
    rw [drop_rd g i hi]
    unfold idxF
    by_cases c : rd g (i : Int) = y
    · rw [if_pos c]
      exact Evt.now fun K => by rw [slices_Index_int64_int64.l0, if_pos f1, if_pos (Int.natCast_nonneg i), if_pos f1, if_pos c.symm]
    · rw [if_neg c]
      exact Evt.step (index_l0 y g hl d (i + 1) hd2) fun K => by rw [slices_Index_int64_int64.l0, if_pos f1, if_pos (Int.natCast_nonneg i), if_pos f1, if_neg (Ne.symm c), ei]
theorem back_ev (y : Int) (g : List Int) (hl : g.length ≤ 1048576) : Evt (fun K => impl_back.f K g y) (invI g y) := by
  have h := index_l0 y g hl g.length 0 (Nat.zero_add _)
  rw [List.drop_zero] at h
  exact Evt.bind h (h := fun _ t => some t) (Evt.const fun _ => rfl) fun _ => rfl
theorem act_ev {n : Nat} (hn : n ≤ 8) {G : List (List Int)} (hG : ∀ g ∈ G, PermN n g) (hl : G.length ≤ 1048576) {a x : Int} (ha : LetterIn G a) (h0 : 0 ≤ x) (h1 : x < n) : Evt (fun K => impl_act.f K G a x) (actL G a x) := by
  obtain ⟨j, hj, rfl | rfl⟩ := ha.cases
  · have hp := hG _ (rdL1_mem G j hj)
    have e1 := pos_letter j (by omega)
    rw [actL_pos]
    refine Evt.const fun K => ?_
    unfold impl_act.f
    rw [if_pos (by clear e1; omega), e1, if_pos (Int.natCast_nonneg j), if_pos (Int.ofNat_lt.2 hj), if_pos h0, if_pos (by rw [hp.1]; exact h1)]
  · have hp := hG _ (rdL1_mem G j hj)
    have e1 := neg_letter j (by omega)
    rw [actL_neg]
    refine Evt.bind (back_ev x (rd_L1 G (j : Int)) (by rw [hp.1]; exact Nat.le_trans hn (by decide))) (h := fun _ t => some t) (Evt.const fun _ => rfl) fun K => ?_
    unfold impl_act.f
    rw [w64 (-(-((j + 1 : Nat) : Int))) (by clear e1; omega) (by clear e1; omega)] at e1
    rw [if_neg (by clear e1; omega), w64 (-(-((j + 1 : Nat) : Int))) (by clear e1; omega) (by clear e1; omega), e1, if_pos (Int.natCast_nonneg j), if_pos (Int.ofNat_lt.2 hj)]
theorem actWord_l0 {n : Nat} (hn : n ≤ 8) {G : List (List Int)} (hG : ∀ g ∈ G, PermN n g) (hl : G.length ≤ 1048576) (w : List Int) (hw : ∀ a ∈ w, LetterIn G a) (hwl : w.length ≤ 1048576) : ∀ (d i : Nat) (x : Int), i + d = w.length → 0 ≤ x → x < n →
    Evt (fun K => impl_actWord.l0 K G x w (w.length : Int) (i : Int)) (actW G (w.drop i) x)
  | 0, i, x, hd, h0, h1 => by
    refine Evt.now fun K => ?_
    rw [impl_actWord.l0, if_neg (by omega), List.drop_of_length_le (by omega)]
    rfl
  | d + 1, i, x, hd, h0, h1 => by
    have hi : i < w.length := by omega
    have hd2 : i + 1 + d = w.length := by omega
    have ei : wrap64 ((i : Int) + 1) = ((i + 1 : Nat) : Int) := w64n (i + 1) (by omega)
    have f1 : (i : Int) < (w.length : Int) := Int.ofNat_lt.2 hi
    have ha := hw _ (rd_in w (i : Int) (Int.natCast_nonneg i) f1)
    have hx := actL_in hG ha h0 h1
    rw [drop_rd w i hi]
    refine Evt.bind1 (act_ev hn hG hl ha h0 h1) (h := fun K t => impl_actWord.l0 K G t w (w.length : Int) ((i + 1 : Nat) : Int)) (actWord_l0 hn hG hl w hw hwl d (i + 1) _ hd2 hx.1 hx.2) fun K => ?_
    rw [impl_actWord.l0, if_pos f1, if_pos (Int.natCast_nonneg i), if_pos f1, ei]
theorem actWord_ev {n : Nat} (hn : n ≤ 8) {G : List (List Int)} (hG : ∀ g ∈ G, PermN n g) (hl : G.length ≤ 1048576) (w : List Int) (hw : ∀ a ∈ w, LetterIn G a) (hwl : w.length ≤ 1048576) (x : Int) (h0 : 0 ≤ x) (h1 : x < n) :
    Evt (fun K => impl_actWord.f K G w x) (actW G w x) := by
  have h := actWord_l0 hn hG hl w hw hwl w.length 0 x (Nat.zero_add _) h0 h1
  rw [List.drop_zero] at h
  exact h

theorem l05Letter_l0 (G : List (List Int)) (j : Nat) (hj : j < G.length) (hl : G.length ≤ 1048576) (y : Int) (hg : (rd_L1 G (j : Int)).length ≤ 1048576) : ∀ (d i : Nat), i + d = (rd_L1 G (j : Int)).length → y ∈ (rd_L1 G (j : Int)).drop i →
    Evt (fun K => spec_l05Letter.l0 K G (-((j + 1 : Nat) : Int)) y (i : Int)) (idxF ((rd_L1 G (j : Int)).drop i) y i)
  | 0, i, hd, hy => by
    rw [List.drop_of_length_le (by omega)] at hy
    exact absurd hy (by simp)
  | d + 1, i, hd, hy => by
    have hi : i < (rd_L1 G (j : Int)).length := by omega
    have hd2 : i + 1 + d = (rd_L1 G (j : Int)).length := by omega
    have ei : wrap64 ((i : Int) + 1) = ((i + 1 : Nat) : Int) := w64n (i + 1) (by omega)
    have f1 : (i : Int) < ((rd_L1 G (j : Int)).length : Int) := Int.ofNat_lt.2 hi
    have e1 := neg_letter j (by omega)
    rw [drop_rd _ i hi] at hy ⊢
    unfold idxF
    by_cases c : rd (rd_L1 G (j : Int)) (i : Int) = y
    · rw [if_pos c]
      exact Evt.now fun K => by rw [spec_l05Letter.l0, e1, if_pos (Int.natCast_nonneg j), if_pos (Int.ofNat_lt.2 hj), if_pos (Int.natCast_nonneg i), if_pos f1, if_pos c]
    · rw [if_neg c]
      have hy2 : y ∈ (rd_L1 G (j : Int)).drop (i + 1) := by
        rcases List.mem_cons.1 hy with e | e
        · exact absurd e.symm c
        · exact e
      exact Evt.step (l05Letter_l0 G j hj hl y hg d (i + 1) hd2 hy2) fun K => by rw [spec_l05Letter.l0, e1, if_pos (Int.natCast_nonneg j), if_pos (Int.ofNat_lt.2 hj), if_pos (Int.natCast_nonneg i), if_pos f1, if_neg c, ei]
theorem l05Letter_ev {n : Nat} (hn : n ≤ 8) {G : List (List Int)} (hG : ∀ g ∈ G, PermN n g) (hl : G.length ≤ 1048576) {a x : Int} (ha : LetterIn G a) (h0 : 0 ≤ x) (h1 : x < n) : Evt (fun K => spec_l05Letter.f K G a x) (actL G a x) := by
  obtain ⟨j, hj, rfl | rfl⟩ := ha.cases
  · have hp := hG _ (rdL1_mem G j hj)
    have e1 := pos_letter j (by omega)
    rw [actL_pos]
    refine Evt.const fun K => ?_
    unfold spec_l05Letter.f
    rw [if_pos (by clear e1; omega), e1, if_pos (Int.natCast_nonneg j), if_pos (Int.ofNat_lt.2 hj), if_pos h0, if_pos (by rw [hp.1]; exact h1)]
  · have hp := hG _ (rdL1_mem G j hj)
    rw [actL_neg]
    have hy := full_of hp.2.1 hp.2.2 (by rw [hp.1]; exact Nat.le_refl _) x h0 h1
    refine Evt.same (l05Letter_l0 G j hj hl x (by rw [hp.1]; exact Nat.le_trans hn (by decide)) _ 0 (Nat.zero_add _) (by rw [List.drop_zero]; exact hy)) fun K => ?_
    unfold spec_l05Letter.f
    rw [if_neg (by omega)]
    rfl
theorem l05Move_l0 {n : Nat} (hn : n ≤ 8) {G : List (List Int)} (hG : ∀ g ∈ G, PermN n g) (hl : G.length ≤ 1048576) (w : List Int) (hw : ∀ a ∈ w, LetterIn G a) (hwl : w.length ≤ 1048576) : ∀ (d i : Nat) (x : Int), i + d = w.length → 0 ≤ x → x < n →
    Evt (fun K => spec_l05Move.l0 K G w x (i : Int)) (actW G (w.drop i) x)
  | 0, i, x, hd, h0, h1 => by
    refine Evt.now fun K => ?_
    rw [spec_l05Move.l0, if_neg (by omega), List.drop_of_length_le (by omega)]
    rfl
  | d + 1, i, x, hd, h0, h1 => by
    have hi : i < w.length := by omega
    have hd2 : i + 1 + d = w.length := by omega
    have ei : wrap64 ((i : Int) + 1) = ((i + 1 : Nat) : Int) := w64n (i + 1) (by omega)
    have f1 : (i : Int) < (w.length : Int) := Int.ofNat_lt.2 hi
    have ha := hw _ (rd_in w (i : Int) (Int.natCast_nonneg i) f1)
    have hx := actL_in hG ha h0 h1
    rw [drop_rd w i hi]
    refine Evt.bind1 (l05Letter_ev hn hG hl ha h0 h1) (h := fun K t => spec_l05Move.l0 K G w t ((i + 1 : Nat) : Int)) (l05Move_l0 hn hG hl w hw hwl d (i + 1) _ hd2 hx.1 hx.2) fun K => ?_
    rw [spec_l05Move.l0, if_pos f1, if_pos (Int.natCast_nonneg i), ei]
theorem l05Move_ev {n : Nat} (hn : n ≤ 8) {G : List (List Int)} (hG : ∀ g ∈ G, PermN n g) (hl : G.length ≤ 1048576) (w : List Int) (hw : ∀ a ∈ w, LetterIn G a) (hwl : w.length ≤ 1048576) (x : Int) (h0 : 0 ≤ x) (h1 : x < n) :
    Evt (fun K => spec_l05Move.f K G w x) (actW G w x) := by
  have h := l05Move_l0 hn hG hl w hw hwl w.length 0 x (Nat.zero_add _) h0 h1
  rw [List.drop_zero] at h
  exact h

/-- Is a list a word? -/
def letters (g : Int) (l : List Int) : Bool := l.all fun x => decide (x ≠ 0) && (decide (-g ≤ x) && decide (x ≤ g))
def isWordB (l : List Int) : Bool := letters 24 l && decide (l.length ≤ 120)


theorem letters_mem {g : Int} {w : List Int} (h : letters g w = true) : ∀ a ∈ w, a ≠ 0 ∧ -g ≤ a ∧ a ≤ g := by
  intro a ha
  have := List.all_eq_true.1 h a ha
  simpa using this

/-- The test of a permutation, entry by entry. -/
def goP (n len : Nat) : List Int → List Int → Bool
  | _, [] => decide (len = n)
  | q, x :: t => if 0 ≤ x ∧ x ≤ (n : Int) - 1 then (if x ∈ q then false else goP n len (q ++ [x]) t) else false
theorem goP_true (n len : Nat) : ∀ (t q : List Int), goP n len q t = true → q.Nodup → InN n q → (q ++ t).Nodup ∧ InN n (q ++ t) ∧ len = n
  | [], q, h, h1, h2 => by
    rw [List.append_nil]
    exact ⟨h1, h2, of_decide_eq_true h⟩
  | x :: t, q, h, h1, h2 => by
    unfold goP at h
    by_cases c : 0 ≤ x ∧ x ≤ (n : Int) - 1
    · rw [if_pos c] at h
      by_cases e : x ∈ q
      · rw [if_pos e] at h
        exact absurd h (by simp)
      · rw [if_neg e] at h
        have := goP_true n len t (q ++ [x]) h (List.nodup_append.2 ⟨h1, by simp, fun a ha b hb e2 => by
          rw [List.mem_singleton] at hb
          exact e (hb ▸ e2 ▸ ha)⟩) (fun y hy => by
          rw [List.mem_append, List.mem_singleton] at hy
          rcases hy with hy | rfl
          · exact h2 y hy
          · omega)
        rwa [List.append_assoc] at this
    · rw [if_neg c] at h
      exact absurd h (by simp)
theorem permN_of {n : Nat} {g : List Int} (h : goP n g.length [] g = true) : PermN n g := by
  obtain ⟨h1, h2, h3⟩ := goP_true n g.length g [] h (by simp) (fun x hx => absurd hx (by simp))
  exact ⟨h3, h1, h2⟩

theorem implIsPerm_l0 (n : Nat) (hn : n ≤ 8) (l : List Int) (hl : l.length ≤ 1048576) : ∀ (d i : Nat) (q : List Int), i + d = l.length → Evt (fun K => impl_isPermutation.l0 K l (n : Int) (mkB n q) l (l.length : Int) (i : Int)) (goP n l.length q (l.drop i))
  | 0, i, q, hd => by
    refine Evt.now fun K => ?_
    rw [impl_isPermutation.l0, if_neg (by omega), List.drop_of_length_le (by omega)]
    unfold impl_size_int64_107.f goP
    rw [Option.bind_some]
    refine congrArg some ?_
    rw [show ((l.length : Int) == (n : Int)) = decide ((l.length : Int) = (n : Int)) from rfl]
    exact decide_eq_decide.2 (by omega)
  | d + 1, i, q, hd => by
    have e1 : wrap64 ((n : Int) - 1) = (n : Int) - 1 := w64 _ (by omega) (by omega)
    have e2 : wrap64 ((i : Int) + 1) = ((i + 1 : Nat) : Int) := w64n (i + 1) (by omega)
    rw [drop_rd l i (by omega)]
    obtain ⟨x, hx⟩ : ∃ x, x = rd l (i : Int) := ⟨_, rfl⟩
    have hf : ∀ K, impl_isPermutation.l0 (K + 1) l (n : Int) (mkB n q) l (l.length : Int) (i : Int) = (if 0 ≤ x ∧ x ≤ (n : Int) - 1 then (if x ∈ q then some false else impl_isPermutation.l0 K l (n : Int) ((mkB n q).set x.toNat true) l (l.length : Int) ((i + 1 : Nat) : Int)) else some false) := by
      intro K
      rw [impl_isPermutation.l0, if_pos (by omega), if_pos (by omega), if_pos (by omega), ← hx, e1, e2]
      unfold impl_inRange.f
      by_cases c : 0 ≤ x ∧ x ≤ (n : Int) - 1
      · rw [if_pos c]
        have c1 : (0 : Int) ≤ x := c.1
        have c3 : x < ((mkB n q).length : Int) := by rw [mkB_length]; omega
        have c4 := c.2
        rw [rdB n q x c.1 (by omega)]
        simp only [c1, c3, c4, decide_true, Bool.and_self, if_true, Option.bind_some, ge_iff_le, decide_eq_true_eq]
      · rw [if_neg c]
        by_cases c0 : 0 ≤ x
        · have c4 : ¬ x ≤ (n : Int) - 1 := fun h => c ⟨c0, h⟩
          simp [c0, c4]
        · simp [c0]
    rw [← hx]
    unfold goP
    by_cases c : 0 ≤ x ∧ x ≤ (n : Int) - 1
    · rw [if_pos c]
      by_cases e : x ∈ q
      · rw [if_pos e]
        exact Evt.now fun K => by rw [hf, if_pos c, if_pos e]
      · rw [if_neg e]
        have ih := implIsPerm_l0 n hn l hl d (i + 1) (q ++ [x]) (by omega)
        refine Evt.step ih fun K => ?_
        rw [hf, if_pos c, if_neg e, mkB_set n q x c.1]
    · rw [if_neg c]
      exact Evt.now fun K => by rw [hf, if_neg c]
theorem implIsPerm_ev (n : Nat) (hn : n ≤ 8) (l : List Int) (hl : l.length ≤ 1048576) : Evt (fun K => impl_isPermutation.f K l (n : Int)) (goP n l.length [] l) := by
  have h := implIsPerm_l0 n hn l hl l.length 0 [] (by omega)
  rw [List.drop_zero, ← mkB_nil] at h
  refine Evt.same h fun K => ?_
  unfold impl_isPermutation.f
  rw [if_pos (by omega), Int.toNat_natCast, if_pos (by omega)]
  rfl

/-- The test of a permutation, its bound and its last answer given. -/
def goQ (hi : Int) (fin : Bool) : List Int → List Int → Bool
  | _, [] => fin
  | q, x :: t => if 0 ≤ x ∧ x ≤ hi then (if x ∈ q then false else goQ hi fin (q ++ [x]) t) else false
theorem goQ_goP (n len : Nat) : ∀ (t q : List Int), goQ ((n : Int) - 1) (decide (len = n)) q t = goP n len q t
  | [], q => rfl
  | x :: t, q => by
    unfold goQ goP
    rw [goQ_goP n len t (q ++ [x])]
theorem has_l0 (q : List Int) (hl : q.length ≤ 1048576) (x : Int) : ∀ (d i : Nat), i + d = q.length → Evt (fun K => spec_l25Has.l0 K q x (i : Int)) (decide (x ∈ q.drop i))
  | 0, i, hd => by
    refine Evt.now fun K => ?_
    rw [spec_l25Has.l0, if_neg (by omega), List.drop_of_length_le (by omega)]
    simp
  | d + 1, i, hd => by
    have hi : i < q.length := by omega
    have hd2 : i + 1 + d = q.length := by omega
    have ei : wrap64 ((i : Int) + 1) = ((i + 1 : Nat) : Int) := w64n (i + 1) (by omega)
    have f1 : (i : Int) < (q.length : Int) := Int.ofNat_lt.2 hi
    rw [drop_rd q i hi]
    by_cases c : rd q (i : Int) = x
    · rw [decide_eq_true (by rw [c]; simp)]
      exact Evt.now fun K => by rw [spec_l25Has.l0, if_pos f1, if_pos (Int.natCast_nonneg i), if_pos c]
    · have e : decide (x ∈ rd q (i : Int) :: q.drop (i + 1)) = decide (x ∈ q.drop (i + 1)) := by
        refine decide_eq_decide.2 ?_
        rw [List.mem_cons]
        exact ⟨fun h => h.resolve_left (fun h => c h.symm), .inr⟩
      rw [e]
      exact Evt.step (has_l0 q hl x d (i + 1) hd2) fun K => by rw [spec_l25Has.l0, if_pos f1, if_pos (Int.natCast_nonneg i), if_neg c, ei]
theorem sp_l0 (n : Int) (l : List Int) (hl : l.length ≤ 1048576) : ∀ (d i : Nat), i + d = l.length → Evt (fun K => spec_l05Permutation.l0 K l n (i : Int)) (goQ (wrap64 (n - 1)) ((l.length : Int) == n) (l.take i) (l.drop i))
  | 0, i, hd => by
    refine Evt.now fun K => ?_
    rw [spec_l05Permutation.l0, if_neg (by omega), List.drop_of_length_le (by omega)]
    rfl
  | d + 1, i, hd => by
    have hi : i < l.length := by omega
    have hd2 : i + 1 + d = l.length := by omega
    have ei : wrap64 ((i : Int) + 1) = ((i + 1 : Nat) : Int) := w64n (i + 1) (by omega)
    have f1 : (i : Int) < (l.length : Int) := Int.ofNat_lt.2 hi
    have f2 : (i : Int) ≤ (l.length : Int) := Int.le_of_lt f1
    have hq := has_l0 (l.take i) (by rw [List.length_take]; omega) (rd l (i : Int)) (l.take i).length 0 (Nat.zero_add _)
    rw [List.drop_zero] at hq
    have ih := sp_l0 n l hl d (i + 1) hd2
    rw [List.take_succ_eq_append_getElem hi, ← rd_nat l i hi] at ih
    rw [drop_rd l i hi]
    obtain ⟨x, hx⟩ : ∃ x, x = rd l (i : Int) := ⟨_, rfl⟩
    obtain ⟨hb, hh⟩ : ∃ hb, hb = wrap64 (n - 1) := ⟨_, rfl⟩
    rw [← hx] at hq ih
    rw [← hh] at ih
    rw [← hx, ← hh]
    have hf : ∀ K, spec_l05Permutation.l0 (K + 1) l n (i : Int) = (if 0 ≤ x ∧ x ≤ hb then (spec_l25Has.f K (l.take i) x).bind fun t => if t = true then some false else spec_l05Permutation.l0 K l n ((i + 1 : Nat) : Int) else some false) := by
      intro K
      rw [spec_l05Permutation.l0, if_pos f1, if_pos (Int.natCast_nonneg i), if_pos f2, ← hx, ← hh, ei, Int.toNat_natCast]
      clear hq ih ei hh hx
      unfold spec_l01In.f
      by_cases c0 : x ≥ 0
      · rw [if_pos c0, Option.bind_some]
        by_cases c1 : x ≤ hb
        · rw [if_pos (decide_eq_true c1), if_pos ⟨c0, c1⟩]
        · rw [if_neg (by simpa using c1), if_neg (fun h => c1 h.2)]
      · rw [if_neg c0, Option.bind_some, if_neg (by simp), if_neg (fun h => c0 h.1)]
    unfold goQ
    by_cases c : 0 ≤ x ∧ x ≤ hb
    · rw [if_pos c]
      refine Evt.bind1 (g := fun K => spec_l25Has.f K (l.take i) x) (h := fun K t => if t = true then some false else spec_l05Permutation.l0 K l n ((i + 1 : Nat) : Int)) hq ?_ fun K => by rw [hf, if_pos c]
      by_cases e : x ∈ l.take i
      · rw [if_pos e]
        exact Evt.const fun K => if_pos (decide_eq_true e)
      · rw [if_neg e]
        exact Evt.same ih fun K => if_neg (by simpa using e)
    · rw [if_neg c]
      exact Evt.now fun K => by rw [hf, if_neg c]
def permS (n : Int) (l : List Int) : Bool := goQ (wrap64 (n - 1)) ((l.length : Int) == n) [] l
theorem sp_ev (n : Int) (l : List Int) (hl : l.length ≤ 1048576) : Evt (fun K => spec_l05Permutation.f K l n) (permS n l) := by
  have h := sp_l0 n l hl l.length 0 (Nat.zero_add _)
  rw [List.take_zero, List.drop_zero] at h
  exact h
theorem permS_goP (n : Nat) (hn : n ≤ 8) (l : List Int) : permS (n : Int) l = goP n l.length [] l := by
  unfold permS
  rw [w64 ((n : Int) - 1) (by omega) (by omega), ← goQ_goP]
  congr 1
  rw [show ((l.length : Int) == (n : Int)) = decide ((l.length : Int) = (n : Int)) from rfl]
  exact decide_eq_decide.2 (by omega)
theorem deg_l0 (n : Int) (G : List (List Int)) (hl : G.length ≤ 1048576) (hr : ∀ g ∈ G, g.length ≤ 1048576) : ∀ (d j : Nat), j + d = G.length → Evt (fun K => spec_l05Degree.l0 K n G (j : Int)) ((G.drop j).all (permS n) && decide (1 ≤ n ∧ n ≤ 4))
  | 0, j, hd => by
    refine Evt.now fun K => ?_
    rw [spec_l05Degree.l0, if_neg (by omega), List.drop_of_length_le (by omega), List.all_nil, Bool.true_and]
    unfold spec_l01In.f
    by_cases c : n ≥ 1
    · rw [if_pos c, Option.bind_some]
      exact congrArg some (decide_eq_decide.2 ⟨fun h => ⟨c, h⟩, fun h => h.2⟩)
    · rw [if_neg c, Option.bind_some, decide_eq_false (fun h : 1 ≤ n ∧ n ≤ 4 => c h.1)]
  | d + 1, j, hd => by
    have hj : j < G.length := by omega
    have hd2 : j + 1 + d = G.length := by omega
    have ej : wrap64 ((j : Int) + 1) = ((j + 1 : Nat) : Int) := w64n (j + 1) (by omega)
    have f1 : (j : Int) < (G.length : Int) := Int.ofNat_lt.2 hj
    have hm := rdL1_mem G j hj
    have h := sp_ev n (rd_L1 G (j : Int)) (hr _ hm)
    rw [drop_rdL1 G j hj, List.all_cons]
    refine Evt.bind1 (h := fun K t => if t = true then spec_l05Degree.l0 K n G ((j + 1 : Nat) : Int) else some false) h ?_ fun K => by rw [spec_l05Degree.l0, if_pos f1, if_pos (Int.natCast_nonneg j), ej]
    by_cases c : permS n (rd_L1 G (j : Int)) = true
    · rw [c, Bool.true_and]
      exact Evt.same (deg_l0 n G hl hr d (j + 1) hd2) fun K => if_pos rfl
    · rw [Bool.not_eq_true] at c
      rw [c, Bool.false_and, Bool.false_and]
      exact Evt.const fun K => if_neg (by simp)
theorem deg_ev (n : Int) (G : List (List Int)) (hl : G.length ≤ 1048576) (hr : ∀ g ∈ G, g.length ≤ 1048576) : Evt (fun K => spec_l05Degree.f K n G) (G.all (permS n) && decide (1 ≤ n ∧ n ≤ 4)) := by
  have h := deg_l0 n G hl hr G.length 0 (Nat.zero_add _)
  rw [List.drop_zero] at h
  exact h

theorem anyO_perm {n : Nat} (hn : n ≤ 8) : ∀ (G : List (List Int)), (∀ g ∈ G, g.length ≤ 1048576) → Evt (fun K => anyO (impl_arePermutations.q K (n : Int)) G) (!(G.all fun g => goP n g.length [] g))
  | [], _ => Evt.const fun _ => rfl
  | g :: G, hr => by
    have h := implIsPerm_ev n hn g (hr g List.mem_cons_self)
    have hq : Evt (fun K => impl_arePermutations.q K (n : Int) g) (!(goP n g.length [] g)) := Evt.bind h (h := fun _ b => some (!b)) (Evt.const fun _ => rfl) fun _ => rfl
    rw [List.all_cons]
    refine Evt.bind hq (h := fun K b => if b = true then some true else anyO (impl_arePermutations.q K (n : Int)) G) ?_ fun _ => rfl
    by_cases c : goP n g.length [] g = true
    · rw [c, Bool.true_and]
      exact Evt.same (anyO_perm hn G fun x hx => hr x (List.mem_cons_of_mem _ hx)) fun K => if_neg (by simp)
    · rw [Bool.not_eq_true] at c
      rw [c, Bool.false_and]
      exact Evt.const fun K => if_pos rfl
theorem are_ev (a0 : Int) (G : List (List Int)) (hr : ∀ g ∈ G, g.length ≤ 1048576) : Evt (fun K => impl_arePermutations.f K a0 G) (G.all (permS a0) && decide (1 ≤ a0 ∧ a0 ≤ 4)) := by
  by_cases c : 1 ≤ a0 ∧ a0 ≤ 4
  · obtain ⟨n, rfl⟩ : ∃ n : Nat, a0 = n := ⟨a0.toNat, by omega⟩
    have hn : n ≤ 8 := by omega
    rw [decide_eq_true c, Bool.and_true, show permS (n : Int) = fun g => goP n g.length [] g from funext fun g => permS_goP n hn g]
    refine Evt.bind (anyO_perm hn G hr) (h := fun _ b => some (!b)) (Evt.const fun _ => by rw [Bool.not_not]) fun K => ?_
    unfold impl_arePermutations.f
    rw [if_pos c]
  · rw [decide_eq_false c, Bool.and_false]
    refine Evt.const fun K => ?_
    unfold impl_arePermutations.f
    rw [if_neg c]
/-- The lists are permutations of a degree that is allowed. -/
theorem perms_of {a0 : Int} {G : List (List Int)} (h : (G.all (permS a0) && decide (1 ≤ a0 ∧ a0 ≤ 4)) = true) : ∃ n : Nat, a0 = n ∧ 1 ≤ n ∧ n ≤ 4 ∧ ∀ g ∈ G, PermN n g := by
  rw [Bool.and_eq_true] at h
  have hc := of_decide_eq_true h.2
  obtain ⟨n, rfl⟩ : ∃ n : Nat, a0 = n := ⟨a0.toNat, by omega⟩
  have hn : n ≤ 8 := by omega
  exact ⟨n, rfl, by omega, by omega, fun g hg => permN_of (by rw [← permS_goP n hn g]; exact List.all_eq_true.1 h.1 g hg)⟩

theorem specIsWord_l0 (l : List Int) (hl : l.length ≤ 4611686018427387904) : ∀ (d i k : Nat), i + d = l.length → d < k →
    spec_IsWord.l0 k l (i : Int) = some (letters 24 (l.drop i) && decide (l.length ≤ 120)) := by
  intro d
  induction d with
  | zero =>
    intro i k hd hk
    obtain ⟨k, rfl⟩ := succ_k hk
    simp only [spec_IsWord.l0]
    rw [if_neg (by omega), List.drop_of_length_le (by omega)]
    simp [letters]
    omega
  | succ d ih =>
    intro i k hd hk
    obtain ⟨k, rfl⟩ := succ_k hk
    simp only [spec_IsWord.l0]
    rw [if_pos (by omega), if_pos (by omega), w64 _ (by omega) (by omega), cast_succ, ih (i + 1) k (by omega) (by omega), drop_rd l i (by omega)]
    unfold spec_l01In.f letters
    generalize rd l (i : Int) = y
    by_cases h0 : y = 0
    · simp [h0]
    · by_cases h1 : -24 ≤ y <;> by_cases h2 : y ≤ 24 <;> simp [h0, h1, h2]
theorem specIsWord_eq (l : List Int) (k : Nat) (hl : l.length ≤ 4611686018427387904) (hk : l.length < k) : spec_IsWord.f k l = some (isWordB l) := by
  have := specIsWord_l0 l hl l.length 0 k (by omega) hk
  unfold spec_IsWord.f isWordB
  simpa using this


theorem wf64 {x : Int} (h : (Lit.int .i64 x).wf = true) : -9223372036854775808 ≤ x ∧ x ≤ 9223372036854775807 := by
  simpa [Lit.wf, IntKind.min, IntKind.max, IntKind.signed, IntKind.bits] using h
theorem bad_iff (g x : Int) (hg : 0 ≤ g) (hg1 : g ≤ 4611686018427387904) (h : (Lit.int .i64 x).wf = true) : isWord_bad g x = !(decide (x ≠ 0) && (decide (-g ≤ x) && decide (x ≤ g))) := by
  have hx := wf64 h
  have e : (!(decide (x ≠ 0) && (decide (-g ≤ x) && decide (x ≤ g)))) = decide (x = 0 ∨ ¬ (-g ≤ x ∧ x ≤ g)) := by
    by_cases h0 : x = 0 <;> by_cases h1 : -g ≤ x <;> by_cases h2 : x ≤ g <;> simp [h0, h1, h2]
  rw [e]
  unfold isWord_bad abs64
  rw [w64 (-g) (by omega) (by omega)]
  have e2 : (x == 0 || (decide (g < if x < 0 then wrap64 (-x) else x) || decide (x < -g))) = decide (x = 0 ∨ (g < (if x < 0 then wrap64 (-x) else x) ∨ x < -g)) := by
    show (decide (x = 0) || _) = _
    simp [Bool.decide_or]
  rw [e2]
  apply decide_eq_decide.mpr
  by_cases hn : x < 0
  · rw [if_pos hn]
    by_cases hm : x = -9223372036854775808
    · subst hm
      have : wrap64 (-(-9223372036854775808)) = -9223372036854775808 := by unfold wrap64; omega
      rw [this]
      omega
    · rw [w64 (-x) (by omega) (by omega)]
      omega
  · rw [if_neg hn]
    omega
theorem any_bad (g : Int) (hg : 0 ≤ g) (hg1 : g ≤ 4611686018427387904) (l : List Int) (h : ∀ x ∈ l, (Lit.int .i64 x).wf = true) : (!(l.any (isWord_bad g))) = letters g l := by
  unfold letters
  induction l with
  | nil => rfl
  | cons x r ih =>
    rw [List.any_cons, List.all_cons, Bool.not_or, ih fun y hy => h y (List.mem_cons_of_mem _ hy), bad_iff g x hg hg1 (h x List.mem_cons_self)]
    simp
theorem implisWord_eq (g : Int) (hg : 0 ≤ g) (hg1 : g ≤ 4611686018427387904) (l : List Int) (h : ∀ x ∈ l, (Lit.int .i64 x).wf = true) : impl_isWord.f l g = some (letters g l && decide (l.length ≤ 120)) := by
  unfold impl_isWord.f
  rw [any_bad g hg hg1 l h, Bool.and_comm]


theorem implIsWord_eq (l : List Int) (h : ∀ x ∈ l, (Lit.int .i64 x).wf = true) : impl_IsWord.f l = some (isWordB l) := by
  unfold impl_IsWord.f
  rw [implisWord_eq 24 (by omega) (by omega) l h]
  rfl


/-- The images of the points from x on under a word. -/
def actFrom (G : List (List Int)) (w : List Int) : Nat → Nat → List Int
  | 0, _ => []
  | d + 1, x => actW G w (x : Int) :: actFrom G w d (x + 1)
theorem actFrom_len (G : List (List Int)) (w : List Int) : ∀ (d x : Nat), (actFrom G w d x).length = d
  | 0, _ => rfl
  | d + 1, x => by rw [actFrom, List.length_cons, actFrom_len G w d (x + 1)]
theorem specWA_l1 {n : Nat} (hn : n ≤ 8) {G : List (List Int)} (hG : ∀ g ∈ G, PermN n g) (hl : G.length ≤ 1048576) (w : List Int) (hw : ∀ a ∈ w, LetterIn G a) (hwl : w.length ≤ 1048576) : ∀ (d x : Nat) (out : List Int), x + d = n → out.length ≤ x →
    Evt (fun K => spec_WordAction.l1 K (n : Int) G w out (x : Int)) (out ++ actFrom G w d x, true)
  | 0, x, out, hd, ho => by
    refine Evt.now fun K => ?_
    rw [spec_WordAction.l1, if_neg (by omega), actFrom, List.append_nil]
  | d + 1, x, out, hd, ho => by
    have hx : x < n := by omega
    have ei : wrap64 ((x : Int) + 1) = ((x + 1 : Nat) : Int) := w64n (x + 1) (by omega)
    have f1 : (x : Int) < (n : Int) := Int.ofNat_lt.2 hx
    have f2 : out.length < 17592186044416 := Nat.lt_of_le_of_lt (Nat.le_trans ho (Nat.le_trans (Nat.le_of_lt hx) hn)) (by decide)
    have ih := specWA_l1 hn hG hl w hw hwl d (x + 1) (out ++ [actW G w (x : Int)]) (by omega) (by rw [List.length_append, List.length_singleton]; omega)
    rw [actFrom, show out ++ actW G w (x : Int) :: actFrom G w d (x + 1) = (out ++ [actW G w (x : Int)]) ++ actFrom G w d (x + 1) by simp]
    refine Evt.bind1 (l05Move_ev hn hG hl w hw hwl (x : Int) (Int.natCast_nonneg x) f1) (h := fun K t => spec_WordAction.l1 K (n : Int) G w (out ++ [t]) ((x + 1 : Nat) : Int)) ih fun K => ?_
    rw [spec_WordAction.l1, if_pos f1, ei]
    congr 1
    funext t
    exact if_pos f2
theorem implWA_l0 {n : Nat} (hn : n ≤ 8) {G : List (List Int)} (hG : ∀ g ∈ G, PermN n g) (hl : G.length ≤ 1048576) (w : List Int) (hw : ∀ a ∈ w, LetterIn G a) (hwl : w.length ≤ 1048576) : ∀ (d x : Nat) (out : List Int), x + d = n → out.length ≤ x →
    Evt (fun K => impl_WordAction.l0 K G w out (n : Int) (x : Int)) (out ++ actFrom G w d x, true)
  | 0, x, out, hd, ho => by
    refine Evt.now fun K => ?_
    rw [impl_WordAction.l0, if_neg (by omega), actFrom, List.append_nil]
  | d + 1, x, out, hd, ho => by
    have hx : x < n := by omega
    have ei : wrap64 ((x : Int) + 1) = ((x + 1 : Nat) : Int) := w64n (x + 1) (by omega)
    have f1 : (x : Int) < (n : Int) := Int.ofNat_lt.2 hx
    have f2 : out.length < 17592186044416 := Nat.lt_of_le_of_lt (Nat.le_trans ho (Nat.le_trans (Nat.le_of_lt hx) hn)) (by decide)
    have ih := implWA_l0 hn hG hl w hw hwl d (x + 1) (out ++ [actW G w (x : Int)]) (by omega) (by rw [List.length_append, List.length_singleton]; omega)
    rw [actFrom, show out ++ actW G w (x : Int) :: actFrom G w d (x + 1) = (out ++ [actW G w (x : Int)]) ++ actFrom G w d (x + 1) by simp]
    refine Evt.bind1 (actWord_ev hn hG hl w hw hwl (x : Int) (Int.natCast_nonneg x) f1) (h := fun K t => impl_WordAction.l0 K G w (out ++ [t]) (n : Int) ((x + 1 : Nat) : Int)) ih fun K => ?_
    rw [impl_WordAction.l0, if_pos f1, ei]
    congr 1
    funext t
    exact if_pos f2
theorem abs_gt (a L : Int) (h0 : -24 ≤ a) (h1 : a ≤ 24) : mx a (wrap64 (-a)) > L ↔ ¬ (-L ≤ a ∧ a ≤ L) := by
  rw [w64 (-a) (by omega) (by omega)]
  unfold mx
  split <;> omega
theorem specWA_l0 (n : Int) (G : List (List Int)) (w : List Int) (hw : letters 24 w = true) (hwl : w.length ≤ 1048576) (r : List Int × Bool) (h : letters (G.length : Int) w = true → Evt (fun K => spec_WordAction.l1 K n G w [] 0) r) : ∀ (d i : Nat), i + d = w.length → (letters (G.length : Int) w = letters (G.length : Int) (w.drop i)) →
    Evt (fun K => spec_WordAction.l0 K n G w (i : Int)) (if letters (G.length : Int) (w.drop i) = true then r else ([], false))
  | 0, i, hd, hp => by
    have e : w.drop i = [] := List.drop_of_length_le (by omega)
    rw [e] at hp ⊢
    rw [if_pos (show letters (G.length : Int) [] = true from rfl)]
    refine Evt.step (h hp) fun K => ?_
    rw [spec_WordAction.l0, if_neg (by omega)]
  | d + 1, i, hd, hp => by
    have hi : i < w.length := by omega
    have ei : wrap64 ((i : Int) + 1) = ((i + 1 : Nat) : Int) := w64n (i + 1) (by omega)
    have f1 : (i : Int) < (w.length : Int) := Int.ofNat_lt.2 hi
    have ha := letters_mem hw _ (rd_in w (i : Int) (Int.natCast_nonneg i) f1)
    have hg := abs_gt (rd w (i : Int)) (G.length : Int) ha.2.1 ha.2.2
    rw [drop_rd w i hi] at hp ⊢
    have e : letters (G.length : Int) (rd w (i : Int) :: w.drop (i + 1)) = ((decide (rd w (i : Int) ≠ 0) && (decide (-(G.length : Int) ≤ rd w (i : Int)) && decide (rd w (i : Int) ≤ (G.length : Int)))) && letters (G.length : Int) (w.drop (i + 1))) := rfl
    by_cases c : -(G.length : Int) ≤ rd w (i : Int) ∧ rd w (i : Int) ≤ (G.length : Int)
    · rw [decide_eq_true ha.1, decide_eq_true c.1, decide_eq_true c.2, Bool.true_and, Bool.true_and, Bool.true_and] at e
      rw [e] at hp ⊢
      refine Evt.step (specWA_l0 n G w hw hwl r h d (i + 1) (by omega) hp) fun K => ?_
      rw [spec_WordAction.l0, if_pos f1, if_pos (Int.natCast_nonneg i), ei, spec_l01Abs.f, Option.bind_some, if_neg fun hc => (hg.1 hc) c]
    · have e2 : letters (G.length : Int) (rd w (i : Int) :: w.drop (i + 1)) = false := by
        rw [e]
        by_cases c1 : -(G.length : Int) ≤ rd w (i : Int) <;> by_cases c2 : rd w (i : Int) ≤ (G.length : Int) <;> simp [c1, c2]
        exact absurd ⟨c1, c2⟩ c
      rw [e2, if_neg (by simp)]
      refine Evt.now fun K => ?_
      rw [spec_WordAction.l0, if_pos f1, if_pos (Int.natCast_nonneg i), spec_l01Abs.f, Option.bind_some, if_pos (hg.2 c)]
theorem wordAction_both (a0 : Int) (G : List (List Int)) (w : List Int) (hl : G.length ≤ 1048576) (hr : ∀ g ∈ G, g.length ≤ 1048576) (hwl : w.length ≤ 1048576) (hww : ∀ x ∈ w, (Lit.int .i64 x).wf = true) :
    ∃ r, Evt (fun K => spec_WordAction.f K a0 G w) r ∧ Evt (fun K => impl_WordAction.f K a0 G w) r ∧ r.1.length ≤ 8 := by
  have d1 := deg_ev a0 G hl hr
  have d2 := are_ev a0 G hr
  have w1 : Evt (fun K => spec_IsWord.f K w) (isWordB w) := ⟨w.length + 1, fun K hK => specIsWord_eq w K (by omega) (by omega)⟩
  have w2 : impl_IsWord.f w = some (isWordB w) := implIsWord_eq w hww
  have w3 := implisWord_eq (G.length : Int) (Int.natCast_nonneg _) (by omega) w hww
  have s0 : ∀ K, spec_WordAction.j0 (K + 1) a0 G w true = some ([], false) := fun K => by rw [spec_WordAction.j0, if_pos rfl]
  have i0 : ∀ K, impl_WordAction.j0 (K + 1) a0 G w true = some ([], false) := fun K => by rw [impl_WordAction.j0, if_pos rfl]
  by_cases c3 : (G.all (permS a0) && decide (1 ≤ a0 ∧ a0 ≤ 4)) = true
  · rw [c3] at d1 d2
    obtain ⟨n, rfl, hn1, hn4, hG⟩ := perms_of c3
    have hn : n ≤ 8 := by omega
    by_cases cw : isWordB w = true
    · rw [cw] at w1 w2
      have hw24 : letters 24 w = true := by
        unfold isWordB at cw
        rw [Bool.and_eq_true] at cw
        exact cw.1
      have hlen : decide (w.length ≤ 120) = true := by
        unfold isWordB at cw
        rw [Bool.and_eq_true] at cw
        exact cw.2
      by_cases cL : letters (G.length : Int) w = true
      · have hw : ∀ a ∈ w, LetterIn G a := letters_mem cL
        refine ⟨(actFrom G w n 0, true), ?_, ?_, by rw [show (actFrom G w n 0, true).1 = actFrom G w n 0 from rfl, actFrom_len]; exact hn⟩
        · have h := specWA_l0 (n : Int) G w hw24 hwl (actFrom G w n 0, true) (fun _ => specWA_l1 hn hG hl w hw hwl n 0 [] (Nat.zero_add _) (Nat.le_refl _)) w.length 0 (Nat.zero_add _) rfl
          rw [List.drop_zero, if_pos cL] at h
          refine Evt.bind d1 (h := fun K t => if t = true then ((spec_IsWord.f K w).bind fun t122 => (spec_WordAction.j0 K (n : Int) G w (!t122))) else (spec_WordAction.j0 K (n : Int) G w true)) ?_ fun _ => rfl
          refine Evt.bind w1 (h := fun K t => spec_WordAction.j0 K (n : Int) G w (!t)) ?_ fun K => if_pos rfl
          exact Evt.step h fun K => by
            show spec_WordAction.j0 (K + 1) (n : Int) G w (!true) = _
            rw [spec_WordAction.j0, if_neg (by simp)]
            rfl
        · have h := implWA_l0 hn hG hl w hw hwl n 0 [] (Nat.zero_add _) (Nat.le_refl _)
          refine Evt.bind d2 (h := fun K t => if t = true then ((impl_IsWord.f w).bind fun t169 => (if t169 = true then ((impl_isWord.f w (G.length : Int)).bind fun t171 => (impl_WordAction.j0 K (n : Int) G w (!t171))) else (impl_WordAction.j0 K (n : Int) G w true))) else (impl_WordAction.j0 K (n : Int) G w true)) ?_ fun _ => rfl
          refine Evt.step h fun K => ?_
          rw [if_pos rfl, w2, Option.bind_some, if_pos rfl, w3, Option.bind_some, cL, hlen, Bool.and_true, Bool.not_true, impl_WordAction.j0, if_neg (by simp)]
          rfl
      · rw [Bool.not_eq_true] at cL
        refine ⟨([], false), ?_, ?_, Nat.zero_le _⟩
        · have h := specWA_l0 (n : Int) G w hw24 hwl ([], false) (fun hc => absurd hc (by rw [cL]; simp)) w.length 0 (Nat.zero_add _) rfl
          rw [List.drop_zero, if_neg (by rw [cL]; simp)] at h
          refine Evt.bind d1 (h := fun K t => if t = true then ((spec_IsWord.f K w).bind fun t122 => (spec_WordAction.j0 K (n : Int) G w (!t122))) else (spec_WordAction.j0 K (n : Int) G w true)) ?_ fun _ => rfl
          refine Evt.bind w1 (h := fun K t => spec_WordAction.j0 K (n : Int) G w (!t)) ?_ fun K => if_pos rfl
          exact Evt.step h fun K => by
            show spec_WordAction.j0 (K + 1) (n : Int) G w (!true) = _
            rw [spec_WordAction.j0, if_neg (by simp)]
            rfl
        · refine Evt.bind d2 (h := fun K t => if t = true then ((impl_IsWord.f w).bind fun t169 => (if t169 = true then ((impl_isWord.f w (G.length : Int)).bind fun t171 => (impl_WordAction.j0 K (n : Int) G w (!t171))) else (impl_WordAction.j0 K (n : Int) G w true))) else (impl_WordAction.j0 K (n : Int) G w true)) ?_ fun _ => rfl
          refine Evt.now fun K => ?_
          rw [if_pos rfl, w2, Option.bind_some, if_pos rfl, w3, Option.bind_some, cL, Bool.false_and, Bool.not_false]
          exact i0 K
    · rw [Bool.not_eq_true] at cw
      rw [cw] at w1 w2
      refine ⟨([], false), ?_, ?_, Nat.zero_le _⟩
      · refine Evt.bind d1 (h := fun K t => if t = true then ((spec_IsWord.f K w).bind fun t122 => (spec_WordAction.j0 K (n : Int) G w (!t122))) else (spec_WordAction.j0 K (n : Int) G w true)) ?_ fun _ => rfl
        refine Evt.bind w1 (h := fun K t => spec_WordAction.j0 K (n : Int) G w (!t)) ?_ fun K => if_pos rfl
        exact Evt.now s0
      · refine Evt.bind d2 (h := fun K t => if t = true then ((impl_IsWord.f w).bind fun t169 => (if t169 = true then ((impl_isWord.f w (G.length : Int)).bind fun t171 => (impl_WordAction.j0 K (n : Int) G w (!t171))) else (impl_WordAction.j0 K (n : Int) G w true))) else (impl_WordAction.j0 K (n : Int) G w true)) ?_ fun _ => rfl
        refine Evt.now fun K => ?_
        rw [if_pos rfl, w2, Option.bind_some, if_neg (by simp)]
        exact i0 K
  · rw [Bool.not_eq_true] at c3
    rw [c3] at d1 d2
    refine ⟨([], false), ?_, ?_, Nat.zero_le _⟩
    · refine Evt.bind d1 (h := fun K t => if t = true then ((spec_IsWord.f K w).bind fun t122 => (spec_WordAction.j0 K a0 G w (!t122))) else (spec_WordAction.j0 K a0 G w true)) ?_ fun _ => rfl
      exact Evt.now fun K => (if_neg (by simp)).trans (s0 K)
    · refine Evt.bind d2 (h := fun K t => if t = true then ((impl_IsWord.f w).bind fun t169 => (if t169 = true then ((impl_isWord.f w (G.length : Int)).bind fun t171 => (impl_WordAction.j0 K a0 G w (!t171))) else (impl_WordAction.j0 K a0 G w true))) else (impl_WordAction.j0 K a0 G w true)) ?_ fun _ => rfl
      exact Evt.now fun K => (if_neg (by simp)).trans (i0 K)

theorem FnExactWordAction : laws_FnExactWordAction.Pure := by
  intro a0 l w _ hl hr hwl hww
  by_cases cl : (1048576 : Int) < (w.length : Int)
  · refine ⟨0, ?_⟩
    unfold laws_FnExactWordAction.f
    rw [if_pos cl]
  have hwl : w.length ≤ 1048576 := by omega
  by_cases hb : l.length ≤ 1048576 ∧ ∀ x ∈ l, x.length ≤ 1048576
  · obtain ⟨s, ⟨k1, h1⟩, ⟨k2, h2⟩, b1⟩ := wordAction_both a0 l w hb.1 hb.2 hwl hww
    obtain ⟨k3, h3⟩ := markSS_ev l hb.1 hb.2
    have hts := tot_small hb.1 hb.2
    obtain ⟨K, hK⟩ : ∃ K : Nat, K = k1 + k2 + k3 + 2097300 := ⟨_, rfl⟩
    refine ⟨K, ?_⟩
    obtain ⟨r, e, _⟩ := szInt64SS_eq l 1048576 K (by omega) (by omega) hl (fun x hx => (hr x hx).1) (by omega)
    unfold laws_FnExactWordAction.f
    rw [if_neg cl, e, Option.bind_some]
    by_cases h0 : r < 0
    · rw [if_pos h0]
    · rw [if_neg h0, toInt64SS_eq l K hb.1 hb.2 (by omega)]
      have g1 := h1 K (by omega)
      have g2 := h2 K (by omega)
      have g3 := h3 K (by omega)
      simp only at g1 g2 g3
      obtain ⟨s1, s2⟩ := s
      have b1' : s1.length ≤ 8 := b1
      have m2 := markInt64S_eq w (1 + (tot l : Int)) K hwl (by omega) (by omega) (by omega)
      have m3 := markInt64S_eq s1 1 K (by omega) (by omega) (by omega) (by omega)
      have m4 := heldInt64S_marks 1 s1.length K (by omega) (by omega) (by omega) (by omega)
      have n2 : 0 ≤ 1 + (tot l : Int) + (w.length : Int) := by omega
      have n3 : 0 ≤ 1 + (s1.length : Int) := by omega
      rw [Option.bind_some, toInt64S_eq w K hwl (by omega), Option.bind_some, g1, Option.bind_some, g2, Option.bind_some]
      simp only
      rw [eqInt64S_self s1 K (by omega) (by omega), Option.bind_some, if_pos rfl, if_pos trivial, eqInt64SS_self l 1048576 K hb.1 (by omega) hb.2 (by omega), Option.bind_some, if_pos rfl, eqInt64S_self w K (by omega) (by omega), Option.bind_some, if_pos rfl, g3, Option.bind_some]
      simp only
      rw [m2, Option.bind_some, if_pos n2, m3, Option.bind_some]
      simp only
      rw [m4, Option.bind_some, if_pos n3, if_pos rfl]
  · obtain ⟨K, hK⟩ : ∃ K : Nat, K = 2097300 := ⟨_, rfl⟩
    refine ⟨K, ?_⟩
    obtain ⟨r, e, h⟩ := szInt64SS_eq l 1048576 K (by omega) (by omega) hl (fun x hx => (hr x hx).1) (by omega)
    have h0 : r < 0 := by
      rcases h with h | ⟨_, _, h1, h2⟩
      · exact h
      · exact absurd ⟨by omega, fun x hx => by have := h2 x hx; omega⟩ hb
    unfold laws_FnExactWordAction.f
    rw [if_neg cl, e, Option.bind_some, if_pos h0]

end Go.Proofs.Ytaibdhbccfaneaa.Pure
