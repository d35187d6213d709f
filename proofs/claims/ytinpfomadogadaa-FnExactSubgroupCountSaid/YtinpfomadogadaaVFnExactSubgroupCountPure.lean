/- Program and reference count the same subgroups, and leave the arguments. No condition: for every input that the statement lets in. -/
import Derived.Test.YtinpfomadogadaaVFnExactSubgroupCountStmt
namespace Go.Proofs.Ytinpfomadogadaa.Pure
open Go.RowKit Go.Proofs.Ytinpfomadogadaa.PFnExactSubgroupCount Go.Proofs.YtinpfomadogadaaW.PrintWords Go.Proofs.YtinpfomadogadaaW.PrintLast

set_option linter.unusedSimpArgs false
set_option linter.unusedVariables false
theorem w64 (x : Int) (h0 : -9223372036854775808 ≤ x) (h1 : x ≤ 9223372036854775807) : wrap64 x = x := by
  unfold wrap64
  omega
theorem w64n (n : Nat) (h : n ≤ 9223372036854775807) : wrap64 (n : Int) = (n : Int) := w64 _ (by omega) (by omega)
theorem rd_nat (l : List Int) (i : Nat) (h : i < l.length) : rd l (i : Int) = l[i] := by
  simp [rd, List.getD, List.getElem?_eq_getElem h]
theorem succ_k {k n : Nat} (h : n < k) : ∃ m, k = m + 1 := ⟨k - 1, by omega⟩
theorem cast_succ (i : Nat) : ((i : Int) + 1) = ((i + 1 : Nat) : Int) := by omega
theorem drop_rd (l : List Int) (k : Nat) (h : k < l.length) : l.drop k = rd l (k : Int) :: l.drop (k + 1) := by
  rw [List.drop_eq_getElem_cons h, rd_nat l k h]

theorem szInt64S_eq (l : List Int) (a : Int) (h0 : 0 ≤ a) (h1 : a ≤ 1048576) (hl : l.length ≤ maxLen) : laws_szInt64S.f l a = some (if a < l.length then -1 else a - l.length) := by
  unfold maxLen at hl
  unfold laws_szInt64S.f
  rw [w64 _ (by omega) (by omega)]
  by_cases h : a < l.length
  · rw [if_pos (by omega), if_pos h]
  · rw [if_neg (by omega), if_neg h]

theorem rdL1_nat (l : List (List Int)) (i : Nat) (h : i < l.length) : rd_L1 l (i : Int) = l[i] := by
  simp [rd_L1, List.getD, List.getElem?_eq_getElem h]
theorem drop_rdL1 (l : List (List Int)) (k : Nat) (h : k < l.length) : l.drop k = rd_L1 l (k : Int) :: l.drop (k + 1) := by
  rw [List.drop_eq_getElem_cons h, rdL1_nat l k h]
theorem rdL1_mem (l : List (List Int)) (i : Nat) (h : i < l.length) : rd_L1 l (i : Int) ∈ l := by
  rw [rdL1_nat l i h]
  exact List.getElem_mem h

theorem szInt64SS_l0 (l : List (List Int)) (hl : l.length ≤ 1048576) (hr : ∀ x ∈ l, x.length ≤ maxLen) : ∀ (d i k : Nat) (a : Int), i + d = l.length → d < k → 0 ≤ a → a ≤ 1048576 →
    ∃ r, laws_szInt64SS.l0 k l a (i : Int) = some r ∧ (r < 0 ∨ (0 ≤ r ∧ r ≤ a ∧ ∀ x ∈ l.drop i, (x.length : Int) ≤ a)) := by
  intro d
  induction d with
  | zero =>
    intro i k a hd hk h0 h1
    obtain ⟨k, rfl⟩ := succ_k hk
    simp only [laws_szInt64SS.l0]
    rw [if_neg (by omega), List.drop_of_length_le (by omega)]
    exact ⟨a, rfl, .inr ⟨h0, Int.le_refl _, by simp⟩⟩
  | succ d ih =>
    intro i k a hd hk h0 h1
    obtain ⟨k, rfl⟩ := succ_k hk
    simp only [laws_szInt64SS.l0]
    rw [if_pos (by omega), if_pos (by omega), szInt64S_eq _ a h0 h1 (hr _ (rdL1_mem l i (by omega)))]
    simp only [Option.bind_some]
    by_cases h : a < (rd_L1 l (i : Int)).length
    · rw [if_pos h, if_pos (by omega)]
      exact ⟨-1, rfl, .inl (by omega)⟩
    · rw [if_neg h, if_neg (by omega), w64 _ (by omega) (by omega), cast_succ, drop_rdL1 l i (by omega)]
      obtain ⟨r, e, hr'⟩ := ih (i + 1) k (a - (rd_L1 l (i : Int)).length) (by omega) (by omega) (by omega) (by omega)
      refine ⟨r, e, ?_⟩
      rcases hr' with hr' | ⟨h2, h3, h4⟩
      · exact .inl hr'
      · refine .inr ⟨h2, by omega, fun x hx => ?_⟩
        rcases List.mem_cons.1 hx with e | hx
        · subst e
          omega
        · have := h4 x hx
          omega
theorem szInt64SS_eq (l : List (List Int)) (a : Int) (k : Nat) (h0 : 0 ≤ a) (h1 : a ≤ 1048576) (hl : l.length ≤ maxLen) (hr : ∀ x ∈ l, x.length ≤ maxLen) (hk : 1048576 < k) :
    ∃ r, laws_szInt64SS.f k l a = some r ∧ (r < 0 ∨ (0 ≤ r ∧ r ≤ a ∧ (l.length : Int) ≤ a ∧ ∀ x ∈ l, (x.length : Int) ≤ a)) := by
  unfold maxLen at hl
  unfold laws_szInt64SS.f
  rw [w64 _ (by omega) (by omega)]
  by_cases h : a - (l.length : Int) < 0
  · rw [if_pos h]
    exact ⟨-1, rfl, .inl (by omega)⟩
  · rw [if_neg h]
    obtain ⟨r, e, hr'⟩ := szInt64SS_l0 l (by omega) hr l.length 0 k (a - l.length) (by omega) (by omega) (by omega) (by omega)
    refine ⟨r, e, ?_⟩
    rcases hr' with hr' | ⟨h2, h3, h4⟩
    · exact .inl hr'
    · refine .inr ⟨h2, by omega, by omega, fun x hx => ?_⟩
      have := h4 x (by simpa using hx)
      omega

theorem szPresentation_eq (g : Int) (l : List (List Int)) (a : Int) (k : Nat) (h0 : 0 ≤ a) (h1 : a ≤ 1048576) (hl : l.length ≤ maxLen) (hr : ∀ x ∈ l, x.length ≤ maxLen) (hk : 1048576 < k) :
    ∃ r, laws_szPresentation.f k g l a = some r ∧ (r < 0 ∨ (0 ≤ r ∧ r ≤ a ∧ (l.length : Int) ≤ a ∧ ∀ x ∈ l, (x.length : Int) ≤ a)) := by
  obtain ⟨r, e, h⟩ := szInt64SS_eq l a k h0 h1 hl hr hk
  unfold laws_szPresentation.f
  rw [e]
  simp only [Option.bind_some]
  by_cases hr : r < 0
  · rw [if_pos hr]
    exact ⟨-1, rfl, .inl (by omega)⟩
  · rw [if_neg hr]
    exact ⟨r, rfl, h⟩

theorem toInt64S_l0 (l : List Int) (hl : l.length ≤ 4611686018427387904) : ∀ (d i : Nat) (x3 : List Int) (k : Nat), x3.length = l.length → i + d = l.length → x3.take i = l.take i → d < k → laws_toInt64S.l0 k l x3 (i : Int) = some l := by
  intro d
  induction d with
  | zero =>
    intro i x3 k h3 hd ht hk
    obtain ⟨k, rfl⟩ := succ_k hk
    simp only [laws_toInt64S.l0]
    rw [if_neg (by omega)]
    have e : i = l.length := by omega
    subst e
    rw [List.take_length, List.take_of_length_le (by omega)] at ht
    rw [ht]
  | succ d ih =>
    intro i x3 k h3 hd ht hk
    obtain ⟨k, rfl⟩ := succ_k hk
    simp only [laws_toInt64S.l0]
    rw [if_pos (by omega), if_pos (by omega), if_pos (by omega), w64 _ (by omega) (by omega), cast_succ]
    refine ih (i + 1) _ k (by simp [h3]) (by omega) ?_ (by omega)
    rw [Int.toNat_natCast, rd_nat l i (by omega)]
    rw [List.take_succ_eq_append_getElem (by simp; omega), List.take_succ_eq_append_getElem (by omega), List.take_set_of_le (by omega), ht]
    simp
theorem toInt64S_eq (l : List Int) (k : Nat) (hl : l.length ≤ 1048576) (hk : l.length < k) : laws_toInt64S.f k l = some l := by
  unfold laws_toInt64S.f
  rw [if_pos (by omega), if_pos (by omega)]
  exact toInt64S_l0 l (by omega) l.length 0 _ k (by simp) (by omega) (by simp) hk

theorem toInt64SS_l0 (l : List (List Int)) (hl : l.length ≤ 1048576) (hr : ∀ x ∈ l, x.length ≤ 1048576) : ∀ (d i : Nat) (x3 : List (List Int)) (k : Nat), x3.length = l.length → i + d = l.length → x3.take i = l.take i → d + 1048576 < k → laws_toInt64SS.l0 k l x3 (i : Int) = some l := by
  intro d
  induction d with
  | zero =>
    intro i x3 k h3 hd ht hk
    obtain ⟨k, rfl⟩ := succ_k hk
    simp only [laws_toInt64SS.l0]
    rw [if_neg (by omega)]
    have e : i = l.length := by omega
    subst e
    rw [List.take_length, List.take_of_length_le (by omega)] at ht
    rw [ht]
  | succ d ih =>
    intro i x3 k h3 hd ht hk
    obtain ⟨k, rfl⟩ := succ_k hk
    simp only [laws_toInt64SS.l0]
    have hm := hr _ (rdL1_mem l i (by omega))
    rw [if_pos (by omega), if_pos (by omega), toInt64S_eq _ k hm (by omega)]
    simp only [Option.bind_some]
    rw [if_pos (by omega), w64 _ (by omega) (by omega), cast_succ]
    refine ih (i + 1) _ k (by simp [h3]) (by omega) ?_ (by omega)
    rw [Int.toNat_natCast, rdL1_nat l i (by omega)]
    rw [List.take_succ_eq_append_getElem (by simp; omega), List.take_succ_eq_append_getElem (by omega), List.take_set_of_le (by omega), ht]
    simp
theorem toInt64SS_eq (l : List (List Int)) (k : Nat) (hl : l.length ≤ 1048576) (hr : ∀ x ∈ l, x.length ≤ 1048576) (hk : 2097152 < k) : laws_toInt64SS.f k l = some l := by
  unfold laws_toInt64SS.f
  rw [if_pos (by omega), if_pos (by omega)]
  exact toInt64SS_l0 l (by omega) hr l.length 0 _ k (by simp) (by omega) (by simp) (by omega)

theorem toPresentation_eq (g : Int) (l : List (List Int)) (k : Nat) (hl : l.length ≤ 1048576) (hr : ∀ x ∈ l, x.length ≤ 1048576) (hk : 2097152 < k) : laws_toPresentation.f k g l = some (g, l) := by
  unfold laws_toPresentation.f
  rw [toInt64SS_eq l k hl hr hk]
  rfl

theorem eqInt64S_l0 (l r : List Int) (hr : r.length = l.length) (hl : l.length ≤ 4611686018427387904) : ∀ (d i k : Nat), i + d = l.length → d < k → laws_eqInt64S.l0 k l r (i : Int) = some (decide (l.drop i = r.drop i)) := by
  intro d
  induction d with
  | zero =>
    intro i k hd hk
    obtain ⟨k, rfl⟩ := succ_k hk
    simp only [laws_eqInt64S.l0]
    rw [if_neg (by omega), List.drop_of_length_le (by omega), List.drop_of_length_le (by omega)]
    simp
  | succ d ih =>
    intro i k hd hk
    obtain ⟨k, rfl⟩ := succ_k hk
    simp only [laws_eqInt64S.l0]
    rw [if_pos (by omega), if_pos (by omega), if_pos (by omega), w64 _ (by omega) (by omega), cast_succ, ih (i + 1) k (by omega) (by omega), drop_rd l i (by omega), drop_rd r i (by omega)]
    by_cases h : rd l (i : Int) = rd r (i : Int)
    · simp [h]
    · simp [h]
theorem eqInt64S_eq (l r : List Int) (k : Nat) (hl : l.length ≤ 4611686018427387904) (hk : l.length < k) : laws_eqInt64S.f k l r = some (decide (l = r)) := by
  unfold laws_eqInt64S.f
  by_cases h : l.length = r.length
  · rw [if_pos (by omega)]
    have := eqInt64S_l0 l r h.symm hl l.length 0 k (by omega) hk
    simpa using this
  · rw [if_neg (by omega)]
    have : ¬ l = r := fun e => h (by rw [e])
    simp [this]
theorem eqInt64S_self (l : List Int) (k : Nat) (hl : l.length ≤ 4611686018427387904) (hk : l.length < k) : laws_eqInt64S.f k l l = some true := by
  rw [eqInt64S_eq l l k hl hk]
  simp

theorem eqInt64SS_l0 (l : List (List Int)) (hl : l.length ≤ 4611686018427387904) (n : Nat) (hn : n ≤ 4611686018427387904) (hr : ∀ x ∈ l, x.length ≤ n) : ∀ (d i k : Nat), i + d = l.length → d + n < k → laws_eqInt64SS.l0 k l l (i : Int) = some true := by
  intro d
  induction d with
  | zero =>
    intro i k hd hk
    obtain ⟨k, rfl⟩ := succ_k hk
    simp only [laws_eqInt64SS.l0]
    rw [if_neg (by omega)]
  | succ d ih =>
    intro i k hd hk
    obtain ⟨k, rfl⟩ := succ_k hk
    simp only [laws_eqInt64SS.l0]
    have hm := hr _ (rdL1_mem l i (by omega))
    rw [if_pos (by omega), if_pos (by omega), if_pos (by omega), eqInt64S_self _ k (by omega) (by omega)]
    simp only [Option.bind_some, if_true]
    rw [w64 _ (by omega) (by omega), cast_succ, ih (i + 1) k (by omega) (by omega)]
theorem eqInt64SS_self (l : List (List Int)) (n k : Nat) (hl : l.length ≤ 1048576) (hn : n ≤ 1048576) (hr : ∀ x ∈ l, x.length ≤ n) (hk : 2097152 < k) : laws_eqInt64SS.f k l l = some true := by
  unfold laws_eqInt64SS.f
  rw [if_pos rfl]
  exact eqInt64SS_l0 l (by omega) n (by omega) hr l.length 0 k (by omega) (by omega)

theorem eqPresentation_self (g : Int) (l : List (List Int)) (n k : Nat) (hl : l.length ≤ 1048576) (hn : n ≤ 1048576) (hr : ∀ x ∈ l, x.length ≤ n) (hk : 2097152 < k) : laws_eqPresentation.f k g l g l = some true := by
  unfold laws_eqPresentation.f
  rw [if_pos rfl, eqInt64SS_self l n k hl hn hr hk]
  rfl

theorem len_le_of_sub : ∀ (l m : List Int), l.Nodup → (∀ x ∈ l, x ∈ m) → l.length ≤ m.length
  | [], m, _, _ => Nat.zero_le _
  | a :: l, m, h, hs => by
    obtain ⟨h1, h2⟩ := List.nodup_cons.1 h
    have ha : a ∈ m := hs a (by simp)
    have := len_le_of_sub l (m.erase a) h2 (fun x hx => (List.mem_erase_of_ne (fun (e : x = a) => h1 (e ▸ hx))).2 (hs x (List.mem_cons_of_mem _ hx)))
    rw [List.length_erase_of_mem ha] at this
    have hp : 0 < m.length := List.length_pos_of_mem ha
    rw [List.length_cons]
    omega
/-- The numbers below n. -/
def rangeI (n : Nat) : List Int := (List.range n).map fun (i : Nat) => (i : Int)
theorem rangeI_len (n : Nat) : (rangeI n).length = n := by simp [rangeI]
theorem rangeI_mem (n : Nat) (x : Int) : x ∈ rangeI n ↔ 0 ≤ x ∧ x < n := by
  unfold rangeI
  rw [List.mem_map]
  constructor
  · rintro ⟨i, hi, rfl⟩
    rw [List.mem_range] at hi
    omega
  · rintro ⟨h0, h1⟩
    exact ⟨x.toNat, by rw [List.mem_range]; omega, by omega⟩
def InN (n : Nat) (q : List Int) : Prop := ∀ x ∈ q, 0 ≤ x ∧ x < n
theorem short_of {n : Nat} {q : List Int} (h : q.Nodup) (hr : InN n q) : q.length ≤ n := by
  have := len_le_of_sub q (rangeI n) h (fun x hx => (rangeI_mem n x).2 (hr x hx))
  rwa [rangeI_len] at this
theorem full_of {n : Nat} {q : List Int} (h : q.Nodup) (hr : InN n q) (hl : n ≤ q.length) (y : Int) (h0 : 0 ≤ y) (h1 : y < n) : y ∈ q := by
  by_cases c : y ∈ q
  · exact c
  · have := short_of (q := y :: q) (List.nodup_cons.2 ⟨c, h⟩) (fun x hx => by
      rcases List.mem_cons.1 hx with rfl | hx
      · exact ⟨h0, h1⟩
      · exact hr x hx)
    rw [List.length_cons] at this
    omega
/-- A permutation of the numbers below n. -/
def PermN (n : Nat) (g : List Int) : Prop := g.length = n ∧ g.Nodup ∧ InN n g
theorem rd_in (l : List Int) (y : Int) (h0 : 0 ≤ y) (h1 : y < l.length) : rd l y ∈ l := by
  obtain ⟨m, rfl⟩ : ∃ m : Nat, y = m := ⟨y.toNat, by omega⟩
  rw [rd_nat l m (by omega)]
  exact List.getElem_mem _
theorem PermN.at {n : Nat} {g : List Int} (h : PermN n g) {y : Int} (h0 : 0 ≤ y) (h1 : y < n) : 0 ≤ rd g y ∧ rd g y < n := h.2.2 _ (rd_in g y h0 (by have := h.1; omega))
theorem PermN.inj {n : Nat} {g : List Int} (h : PermN n g) {a b : Int} (a0 : 0 ≤ a) (a1 : a < n) (b0 : 0 ≤ b) (b1 : b < n) (e : rd g a = rd g b) : a = b := by
  obtain ⟨i, rfl⟩ : ∃ m : Nat, a = m := ⟨a.toNat, by omega⟩
  obtain ⟨j, rfl⟩ : ∃ m : Nat, b = m := ⟨b.toNat, by omega⟩
  have hl := h.1
  rw [rd_nat g i (by omega), rd_nat g j (by omega)] at e
  have hp := List.pairwise_iff_getElem.1 h.2.1
  rcases Nat.lt_trichotomy i j with c | c | c
  · exact absurd e (hp i j (by omega) (by omega) c)
  · rw [c]
  · exact absurd e.symm (hp j i (by omega) (by omega) c)
/-- What a permutation sends into a closed set came out of it. -/
theorem PermN.back {n : Nat} {g : List Int} (h : PermN n g) {S : List Int} (hS : S.Nodup) (hr : InN n S) (hc : ∀ y ∈ S, rd g y ∈ S) {y : Int} (h0 : 0 ≤ y) (h1 : y < n) (hy : rd g y ∈ S) : y ∈ S := by
  by_cases c : y ∈ S
  · exact c
  · have hn : ((y :: S).map fun z => rd g z).Nodup := by
      unfold List.Nodup
      rw [List.pairwise_map]
      refine List.Pairwise.imp_of_mem (fun {a b} ha hb hab e => ?_) (List.nodup_cons.2 ⟨c, hS⟩)
      have ia : 0 ≤ a ∧ a < n := by rcases List.mem_cons.1 ha with rfl | ha; exact ⟨h0, h1⟩; exact hr a ha
      have ib : 0 ≤ b ∧ b < n := by rcases List.mem_cons.1 hb with rfl | hb; exact ⟨h0, h1⟩; exact hr b hb
      exact hab (h.inj ia.1 ia.2 ib.1 ib.2 e)
    have := len_le_of_sub _ S hn (fun x hx => by
      obtain ⟨z, hz, rfl⟩ := List.mem_map.1 hx
      rcases List.mem_cons.1 hz with rfl | hz
      · exact hy
      · exact hc z hz)
    rw [List.length_map, List.length_cons] at this
    omega
/-- The marks of a list. -/
def mkB (n : Nat) (q : List Int) : List Bool := (List.range n).map fun (i : Nat) => decide ((i : Int) ∈ q)
theorem mkB_length (n : Nat) (q : List Int) : (mkB n q).length = n := by simp [mkB]
theorem rdB (n : Nat) (q : List Int) (c : Int) (h0 : 0 ≤ c) (h1 : c < n) : rdOf false (mkB n q) c = decide (c ∈ q) := by
  obtain ⟨m, rfl⟩ : ∃ m : Nat, c = m := ⟨c.toNat, by omega⟩
  unfold rdOf mkB
  rw [Int.toNat_natCast, List.getD_eq_getElem?_getD, List.getElem?_map, List.getElem?_range (by omega)]
  rfl
theorem mkB_set (n : Nat) (q : List Int) (c : Int) (h0 : 0 ≤ c) : (mkB n q).set c.toNat true = mkB n (q ++ [c]) := by
  refine List.ext_getElem (by simp [mkB]) fun i h1 h2 => ?_
  simp only [mkB, List.getElem_set, List.getElem_map, List.getElem_range]
  by_cases e : c.toNat = i
  · rw [if_pos e]
    have : (i : Int) ∈ q ++ [c] := by simp; omega
    simp [this]
  · rw [if_neg e]
    have : ((i : Int) ∈ q ++ [c]) ↔ ((i : Int) ∈ q) := by
      rw [List.mem_append, List.mem_singleton]
      constructor
      · rintro (h | h)
        · exact h
        · omega
      · exact Or.inl
    exact decide_eq_decide.2 this.symm
theorem mkB_nil (n : Nat) : List.replicate n false = mkB n [] := by
  refine List.ext_getElem (by simp [mkB]) fun i h1 h2 => ?_
  unfold mkB
  simp
/-- A number is put to the list, if it is not there. -/
def pushO (o q : List Int) (c : Int) : List Int := if c ∈ o ++ q then q else q ++ [c]
def Good (n : Nat) (o q : List Int) : Prop := (o ++ q).Nodup ∧ InN n (o ++ q)
theorem Good.push {n : Nat} {o q : List Int} (h : Good n o q) {c : Int} (h0 : 0 ≤ c) (h1 : c < n) : Good n o (pushO o q c) := by
  unfold pushO
  split
  · exact h
  · rename_i hc
    refine ⟨?_, fun x hx => ?_⟩
    · rw [← List.append_assoc]
      refine List.nodup_append.2 ⟨h.1, by simp, fun a ha b hb e => ?_⟩
      rw [List.mem_singleton] at hb
      exact hc (hb ▸ e ▸ ha)
    · rw [← List.append_assoc, List.mem_append, List.mem_singleton] at hx
      rcases hx with hx | rfl
      · exact h.2 x hx
      · exact ⟨h0, h1⟩
theorem pushO_pre (o q : List Int) (c : Int) : ∃ t, pushO o q c = q ++ t := by
  unfold pushO
  split
  · exact ⟨[], by simp⟩
  · exact ⟨[c], rfl⟩
theorem pushO_in (o q : List Int) (c : Int) : c ∈ o ++ pushO o q c := by
  unfold pushO
  split
  · assumption
  · simp
theorem pushO_mem (o q : List Int) (c x : Int) (h : x ∈ pushO o q c) : x ∈ q ∨ x = c := by
  unfold pushO at h
  split at h
  · exact .inl h
  · simpa using h
theorem foldO {n : Nat} {o : List Int} : ∀ (cs q : List Int), Good n o q → InN n cs → Good n o (cs.foldl (pushO o) q) ∧ (∃ t, cs.foldl (pushO o) q = q ++ t) ∧ (∀ c ∈ cs, c ∈ o ++ cs.foldl (pushO o) q) ∧ ∀ x ∈ cs.foldl (pushO o) q, x ∈ q ∨ x ∈ cs
  | [], q, h, _ => ⟨h, ⟨[], by simp⟩, fun _ hc => absurd hc (by simp), fun x hx => .inl hx⟩
  | c :: cs, q, h, hr => by
    have hc := hr c (by simp)
    obtain ⟨h1, ⟨t, h2⟩, h3, h4⟩ := foldO cs (pushO o q c) (h.push hc.1 hc.2) (fun x hx => hr x (List.mem_cons_of_mem _ hx))
    obtain ⟨t1, e1⟩ := pushO_pre o q c
    rw [List.foldl_cons]
    refine ⟨h1, ⟨t1 ++ t, by rw [h2, e1, List.append_assoc]⟩, fun x hx => ?_, fun x hx => ?_⟩
    · rcases List.mem_cons.1 hx with rfl | hx
      · have := pushO_in o q x
        rw [h2]
        rw [List.mem_append] at this ⊢
        rcases this with h | h
        · exact .inl h
        · exact .inr (List.mem_append_left _ h)
      · exact h3 x hx
    · rcases h4 x hx with h | h
      · rcases pushO_mem o q c x h with h | h
        · exact .inl h
        · exact .inr (by simp [h])
      · exact .inr (List.mem_cons_of_mem _ h)
/-- All that can be reached, first come, first served. -/
def bfsO (o : List Int) (cand : Int → List Int) : Nat → Nat → List Int → List Int
  | 0, _, q => q
  | d + 1, i, q => if i < q.length then bfsO o cand d (i + 1) ((cand (rd q (i : Int))).foldl (pushO o) q) else q
theorem rd_pre (q t : List Int) (i : Nat) (h : i < q.length) : rd (q ++ t) (i : Int) = rd q (i : Int) := by
  rw [rd_nat q i h, rd_nat (q ++ t) i (by simp; omega), List.getElem_append_left]
theorem mem_rd (q : List Int) (x : Int) (h : x ∈ q) : ∃ j : Nat, j < q.length ∧ rd q (j : Int) = x := by
  obtain ⟨j, hj, e⟩ := List.getElem_of_mem h
  exact ⟨j, hj, by rw [rd_nat q j hj, e]⟩
theorem Good.len {n : Nat} {o q : List Int} (h : Good n o q) : q.length ≤ n := by
  have := short_of h.1 h.2
  rw [List.length_append] at this
  omega
theorem Good.right {n : Nat} {o q : List Int} (h : Good n o q) : q.Nodup ∧ InN n q := ⟨(List.nodup_append.1 h.1).2.1, fun x hx => h.2 x (List.mem_append_right _ hx)⟩
theorem bfsO_facts {n : Nat} {o : List Int} {cand : Int → List Int} (hc : ∀ y : Int, 0 ≤ y → y < n → InN n (cand y)) : ∀ (d i : Nat) (q : List Int), Good n o q → i ≤ q.length → n < d + i →
    (∀ j : Nat, j < i → ∀ c ∈ cand (rd q (j : Int)), c ∈ o ++ q) →
    Good n o (bfsO o cand d i q) ∧ (∀ x ∈ q, x ∈ bfsO o cand d i q) ∧ (∀ y ∈ bfsO o cand d i q, ∀ c ∈ cand y, c ∈ o ++ bfsO o cand d i q) ∧
      ∀ P : Int → Prop, (∀ y : Int, 0 ≤ y → y < n → P y → ∀ c ∈ cand y, P c) → (∀ y ∈ q, P y) → ∀ y ∈ bfsO o cand d i q, P y
  | 0, i, q, h, hi, hd, _ => by
    have := h.len
    omega
  | d + 1, i, q, h, hi, hd, hp => by
    unfold bfsO
    by_cases c : i < q.length
    · rw [if_pos c]
      have hy := h.right.2 _ (rd_in q (i : Int) (by omega) (by omega))
      obtain ⟨h1, ⟨t, h2⟩, h3, h4⟩ := foldO (n := n) (o := o) (cand (rd q (i : Int))) q h (hc _ hy.1 hy.2)
      obtain ⟨g1, g2, g3, g4⟩ := bfsO_facts hc d (i + 1) _ h1 (by rw [h2]; simp; omega) (by omega) (fun j hj x hx => by
        by_cases e : j = i
        · subst e
          rw [h2, rd_pre q t j c] at hx
          exact h3 x hx
        · rw [h2, rd_pre q t j (by omega)] at hx
          have := hp j (by omega) x hx
          rw [h2, ← List.append_assoc]
          exact List.mem_append_left _ this)
      refine ⟨g1, fun x hx => g2 x (by rw [h2]; exact List.mem_append_left _ hx), g3, fun P hP hq => g4 P hP fun y hy2 => ?_⟩
      rcases h4 y hy2 with h | h
      · exact hq y h
      · exact hP _ hy.1 hy.2 (hq _ (rd_in q (i : Int) (by omega) (by omega))) y h
    · rw [if_neg c]
      refine ⟨h, fun x hx => hx, fun y hy x hx => ?_, fun P _ hq => hq⟩
      obtain ⟨j, hj, rfl⟩ := mem_rd q y hy
      exact hp j (by omega) x hx

/-- With enough rounds, the answer is r. -/
def Evt {α : Type} (f : Nat → Option α) (r : α) : Prop := ∃ c, ∀ K, c ≤ K → f K = some r
theorem Evt.step {α : Type} {f g : Nat → Option α} {r : α} (h : Evt g r) (e : ∀ K, f (K + 1) = g K) : Evt f r := by
  obtain ⟨c, hc⟩ := h
  refine ⟨c + 1, fun K hK => ?_⟩
  obtain ⟨K, rfl⟩ : ∃ m, K = m + 1 := ⟨K - 1, by omega⟩
  rw [e K]
  exact hc K (by omega)
theorem Evt.same {α : Type} {f g : Nat → Option α} {r : α} (h : Evt g r) (e : ∀ K, f K = g K) : Evt f r := by
  obtain ⟨c, hc⟩ := h
  exact ⟨c, fun K hK => by rw [e K]; exact hc K hK⟩
theorem Evt.now {α : Type} {f : Nat → Option α} {r : α} (e : ∀ K, f (K + 1) = some r) : Evt f r := by
  refine ⟨1, fun K hK => ?_⟩
  obtain ⟨K, rfl⟩ : ∃ m, K = m + 1 := ⟨K - 1, by omega⟩
  exact e K
theorem Evt.const {α : Type} {f : Nat → Option α} {r : α} (e : ∀ K, f K = some r) : Evt f r := ⟨0, fun K _ => e K⟩
theorem Evt.bind {α β : Type} {f : Nat → Option β} {g : Nat → Option α} {h : Nat → α → Option β} {x : α} {r : β} (hg : Evt g x) (hh : Evt (fun K => h K x) r) (e : ∀ K, f K = (g K).bind (h K)) : Evt f r := by
  obtain ⟨c, hc⟩ := hg
  obtain ⟨d, hd⟩ := hh
  exact ⟨c + d, fun K hK => by rw [e K, hc K (by omega)]; exact hd K (by omega)⟩
theorem Evt.bind1 {α β : Type} {f : Nat → Option β} {g : Nat → Option α} {h : Nat → α → Option β} {x : α} {r : β} (hg : Evt g x) (hh : Evt (fun K => h K x) r) (e : ∀ K, f (K + 1) = (g K).bind (h K)) : Evt f r :=
  Evt.step (g := fun K => (g K).bind (h K)) (Evt.bind hg hh fun _ => rfl) e
/-- The place of a number in a list; -1, if it is not there. -/
def idxF : List Int → Int → Nat → Int
  | [], _, _ => -1
  | x :: t, y, i => if x = y then (i : Int) else idxF t y (i + 1)
theorem idxF_at : ∀ (t : List Int) (y : Int) (i : Nat), y ∈ t → ∃ m : Nat, m < t.length ∧ idxF t y i = ((i + m : Nat) : Int) ∧ rd t (m : Int) = y
  | [], y, i, h => absurd h (by simp)
  | x :: t, y, i, h => by
    unfold idxF
    by_cases c : x = y
    · rw [if_pos c]
      exact ⟨0, by simp, rfl, c⟩
    · rw [if_neg c]
      obtain ⟨m, h1, h2, h3⟩ := idxF_at t y (i + 1) (by
        rcases List.mem_cons.1 h with e | e
        · exact absurd e.symm c
        · exact e)
      refine ⟨m + 1, by rw [List.length_cons]; omega, by rw [h2]; congr 1; omega, ?_⟩
      rw [← h3]
      simp only [rd, Int.toNat_natCast]
      rfl
/-- Where a permutation comes from. -/
def invI (g : List Int) (y : Int) : Int := idxF g y 0
theorem invI_at {n : Nat} {g : List Int} (h : PermN n g) {y : Int} (h0 : 0 ≤ y) (h1 : y < n) : (0 ≤ invI g y ∧ invI g y < n) ∧ rd g (invI g y) = y := by
  obtain ⟨m, h2, h3, h4⟩ := idxF_at g y 0 (full_of h.2.1 h.2.2 (by rw [h.1]; exact Nat.le_refl _) y h0 h1)
  rw [h.1] at h2
  rw [Nat.zero_add] at h3
  unfold invI
  rw [h3]
  exact ⟨⟨by omega, by omega⟩, h4⟩

/-- Where a letter maps a point. -/
def actL (G : List (List Int)) (a x : Int) : Int := if 0 < a then rd (rd_L1 G (a - 1)) x else invI (rd_L1 G (-a - 1)) x
def actW (G : List (List Int)) (w : List Int) (x : Int) : Int := w.foldl (fun x a => actL G a x) x
/-- A letter for which there is a permutation. -/
def LetterIn (G : List (List Int)) (a : Int) : Prop := a ≠ 0 ∧ -(G.length : Int) ≤ a ∧ a ≤ (G.length : Int)
theorem LetterIn.cases {G : List (List Int)} {a : Int} (h : LetterIn G a) : ∃ j : Nat, j < G.length ∧ (a = ((j + 1 : Nat) : Int) ∨ a = -((j + 1 : Nat) : Int)) := by
  obtain ⟨h0, h1, h2⟩ := h
  by_cases c : 0 < a
  · exact ⟨(a - 1).toNat, by omega, .inl (by omega)⟩
  · exact ⟨(-a - 1).toNat, by omega, .inr (by omega)⟩
theorem actL_pos (G : List (List Int)) (j : Nat) (x : Int) : actL G ((j + 1 : Nat) : Int) x = rd (rd_L1 G (j : Int)) x := by
  unfold actL
  rw [if_pos (by omega), show ((j + 1 : Nat) : Int) - 1 = (j : Int) by omega]
theorem actL_neg (G : List (List Int)) (j : Nat) (x : Int) : actL G (-((j + 1 : Nat) : Int)) x = invI (rd_L1 G (j : Int)) x := by
  unfold actL
  rw [if_neg (by omega), show -(-((j + 1 : Nat) : Int)) - 1 = (j : Int) by omega]
theorem actL_in {n : Nat} {G : List (List Int)} (hG : ∀ g ∈ G, PermN n g) {a x : Int} (ha : LetterIn G a) (h0 : 0 ≤ x) (h1 : x < n) : 0 ≤ actL G a x ∧ actL G a x < n := by
  obtain ⟨j, hj, rfl | rfl⟩ := ha.cases
  · rw [actL_pos]
    exact (hG _ (rdL1_mem G j hj)).at h0 h1
  · rw [actL_neg]
    exact (invI_at (hG _ (rdL1_mem G j hj)) h0 h1).1
/-- Does a word map each point to itself? -/
def trivB (G : List (List Int)) (w : List Int) : Nat → Nat → Bool
  | 0, _ => true
  | d + 1, x => decide (actW G w (x : Int) = (x : Int)) && trivB G w d (x + 1)
theorem neg_letter (j : Nat) (hj : j ≤ 1048576) : wrap64 (wrap64 (-(-((j + 1 : Nat) : Int))) - 1) = (j : Int) := by
  rw [Int.neg_neg, w64n (j + 1) (by omega), show ((j + 1 : Nat) : Int) - 1 = (j : Int) by omega]
  exact w64n j (by omega)
theorem pos_letter (j : Nat) (hj : j ≤ 1048576) : wrap64 (((j + 1 : Nat) : Int) - 1) = (j : Int) := by
  rw [show ((j + 1 : Nat) : Int) - 1 = (j : Int) by omega]
  exact w64n j (by omega)

/-- All tuples of d lists, in their order. -/
def tup (all : List (List Int)) : Nat → List (List (List Int))
  | 0 => [[]]
  | d + 1 => all.flatMap fun l => (tup all d).map (l :: ·)
/-- A visitor is shown one thing after the other, until it has enough. -/
def visP {σ : Type} (vp : List (List Int) → σ → Bool × σ) : List (List (List Int)) → σ → Bool × σ
  | [], s => (true, s)
  | G :: t, s => if (vp G s).1 = true then visP vp t (vp G s).2 else (false, (vp G s).2)
theorem visP_one {σ : Type} (vp : List (List Int) → σ → Bool × σ) (G : List (List Int)) (s : σ) : visP vp [G] s = vp G s := by
  rw [visP, visP]
  rcases vp G s with ⟨b, s'⟩
  cases b <;> rfl
theorem visP_append {σ : Type} (vp : List (List Int) → σ → Bool × σ) : ∀ (a b : List (List (List Int))) (s : σ), visP vp (a ++ b) s = if (visP vp a s).1 = true then visP vp b (visP vp a s).2 else (false, (visP vp a s).2)
  | [], b, s => by simp [visP]
  | G :: a, b, s => by
    rw [List.cons_append, visP, visP]
    by_cases c : (vp G s).1 = true
    · rw [if_pos c, if_pos c, visP_append vp a b]
    · rw [if_neg c, if_neg c]
      simp
theorem tup_len (all : List (List Int)) : ∀ d, (tup all d).length = all.length ^ d
  | 0 => rfl
  | d + 1 => by
    rw [tup, List.length_flatMap]
    simp only [List.length_map, tup_len all d]
    rw [List.map_const', List.sum_replicate_nat, Nat.pow_succ, Nat.mul_comm]
/-- The tuples from the one with these numbers on. -/
def restT (all : List (List Int)) : List Nat → List (List (List Int))
  | [] => [[]]
  | a :: ds => (restT all ds).map (all.getD a [] :: ·) ++ (all.drop (a + 1)).flatMap fun l => (tup all ds.length).map (l :: ·)
def pickT (all : List (List Int)) (ds : List Nat) : List (List Int) := ds.map fun a => all.getD a []
theorem restT_head (all : List (List Int)) : ∀ ds, ∃ t, restT all ds = pickT all ds :: t
  | [] => ⟨[], rfl⟩
  | a :: ds => by
    obtain ⟨t, h⟩ := restT_head all ds
    rw [restT, h, List.map_cons, List.cons_append]
    exact ⟨_, rfl⟩
theorem restT_zero (all : List (List Int)) (h : 0 < all.length) : ∀ g, restT all (List.replicate g 0) = tup all g
  | 0 => rfl
  | g + 1 => by
    have e : all = all.getD 0 [] :: all.drop 1 := by
      cases all with
      | nil => simp at h
      | cons x t => simp
    have h2 : (all.flatMap fun l => (tup all g).map (l :: ·)) = (all.getD 0 [] :: all.drop 1).flatMap fun l => (tup all g).map (l :: ·) := congrArg (fun z => z.flatMap fun l => (tup all g).map (l :: ·)) e
    rw [List.replicate_succ, restT, restT_zero all h g, List.length_replicate, tup, h2, List.flatMap_cons]
/-- The numbers behind these; they lie turned round, and j places behind them are the greatest. -/
def nextT (L : Nat) : List Nat → Nat → Option (List Nat)
  | [], _ => none
  | a :: rs, j => if a + 1 = L then nextT L rs (j + 1) else some (rs.reverse ++ (a + 1) :: List.replicate j 0)
theorem restT_max (all : List (List Int)) {L : Nat} (hL : all.length = L + 1) : ∀ j, restT all (List.replicate j L) = [pickT all (List.replicate j L)]
  | 0 => rfl
  | j + 1 => by
    rw [List.replicate_succ, restT, restT_max all hL j, List.drop_of_length_le (by omega)]
    rfl
theorem restT_step (all : List (List Int)) {L : Nat} (hL : all.length = L + 1) (a j : Nat) (ha : a < L) : ∀ p : List Nat, (restT all (p ++ a :: List.replicate j L)).tail = restT all (p ++ (a + 1) :: List.replicate j 0)
  | [] => by
    rw [List.nil_append, List.nil_append, restT, restT, restT_max all hL j, restT_zero all (by omega) j, List.length_replicate, List.length_replicate, List.map_singleton, List.singleton_append, List.tail_cons]
    have e : all.drop (a + 1) = all.getD (a + 1) [] :: all.drop (a + 1 + 1) := by
      rw [List.drop_eq_getElem_cons (by omega : a + 1 < all.length), List.getD_eq_getElem?_getD, List.getElem?_eq_getElem (by omega : a + 1 < all.length), Option.getD_some]
    rw [e, List.flatMap_cons]
  | b :: p => by
    obtain ⟨t, h⟩ := restT_head all (p ++ a :: List.replicate j L)
    have ih := restT_step all hL a j ha p
    rw [h, List.tail_cons] at ih
    rw [List.cons_append, List.cons_append, restT, restT, h, List.map_cons, List.cons_append, List.tail_cons, ih]
    simp
theorem restT_next (all : List (List Int)) {L : Nat} (hL : all.length = L + 1) : ∀ (rs : List Nat) (j : Nat), (∀ a ∈ rs, a ≤ L) → (restT all (rs.reverse ++ List.replicate j L)).tail = match nextT (L + 1) rs j with | none => [] | some ds => restT all ds
  | [], j, _ => by
    rw [List.reverse_nil, List.nil_append, restT_max all hL j]
    rfl
  | a :: rs, j, h => by
    have ha := h a List.mem_cons_self
    rw [nextT, List.reverse_cons, List.append_assoc]
    by_cases c : a + 1 = L + 1
    · obtain rfl : a = L := by omega
      rw [if_pos c, ← restT_next all hL rs (j + 1) fun b hb => h b (List.mem_cons_of_mem _ hb)]
      rfl
    · rw [if_neg c]
      exact restT_step all hL a j (by omega) rs.reverse
theorem nextT_ok (L : Nat) : ∀ (rs : List Nat) (j : Nat) (ds : List Nat), (∀ a ∈ rs, a < L) → 0 < L → nextT L rs j = some ds → ds.length = rs.length + j ∧ ∀ a ∈ ds, a < L
  | [], j, ds, _, _, h => by simp [nextT] at h
  | a :: rs, j, ds, hr, hL, h => by
    rw [nextT] at h
    by_cases c : a + 1 = L
    · rw [if_pos c] at h
      obtain ⟨h1, h2⟩ := nextT_ok L rs (j + 1) ds (fun b hb => hr b (List.mem_cons_of_mem _ hb)) hL h
      exact ⟨by rw [h1, List.length_cons]; omega, h2⟩
    · rw [if_neg c] at h
      obtain rfl := Option.some.inj h
      refine ⟨by simp; omega, fun b hb => ?_⟩
      rcases List.mem_append.1 hb with h1 | h1
      · exact hr b (List.mem_cons_of_mem _ (List.mem_reverse.1 h1))
      · rcases List.mem_cons.1 h1 with rfl | h1
        · have := hr a List.mem_cons_self
          omega
        · rw [(List.mem_replicate.1 h1).2]
          exact hL

theorem l05Letter_l0 (G : List (List Int)) (j : Nat) (hj : j < G.length) (hl : G.length ≤ 1048576) (y : Int) (hg : (rd_L1 G (j : Int)).length ≤ 1048576) : ∀ (d i : Nat), i + d = (rd_L1 G (j : Int)).length → y ∈ (rd_L1 G (j : Int)).drop i →
    Evt (fun K => spec_l05Letter.l0 K G (-((j + 1 : Nat) : Int)) y (i : Int)) (idxF ((rd_L1 G (j : Int)).drop i) y i)
  | 0, i, hd, hy => by
    rw [List.drop_of_length_le (by omega)] at hy
    exact absurd hy (by simp)
  | d + 1, i, hd, hy => by
    have hi : i < (rd_L1 G (j : Int)).length := by omega
    have hd2 : i + 1 + d = (rd_L1 G (j : Int)).length := by omega
    have ei : wrap64 ((i : Int) + 1) = ((i + 1 : Nat) : Int) := w64n (i + 1) (by omega)
    have f1 : (i : Int) < ((rd_L1 G (j : Int)).length : Int) := Int.ofNat_lt.2 hi
    have e1 := neg_letter j (by omega)
    rw [drop_rd _ i hi] at hy ⊢
    unfold idxF
    by_cases c : rd (rd_L1 G (j : Int)) (i : Int) = y
    · rw [if_pos c]
      exact Evt.now fun K => by rw [spec_l05Letter.l0, e1, if_pos (Int.natCast_nonneg j), if_pos (Int.ofNat_lt.2 hj), if_pos (Int.natCast_nonneg i), if_pos f1, if_pos c]
    · rw [if_neg c]
      have hy2 : y ∈ (rd_L1 G (j : Int)).drop (i + 1) := by
        rcases List.mem_cons.1 hy with e | e
        · exact absurd e.symm c
        · exact e
      exact Evt.step (l05Letter_l0 G j hj hl y hg d (i + 1) hd2 hy2) fun K => by rw [spec_l05Letter.l0, e1, if_pos (Int.natCast_nonneg j), if_pos (Int.ofNat_lt.2 hj), if_pos (Int.natCast_nonneg i), if_pos f1, if_neg c, ei]
theorem l05Letter_ev {n : Nat} (hn : n ≤ 8) {G : List (List Int)} (hG : ∀ g ∈ G, PermN n g) (hl : G.length ≤ 1048576) {a x : Int} (ha : LetterIn G a) (h0 : 0 ≤ x) (h1 : x < n) : Evt (fun K => spec_l05Letter.f K G a x) (actL G a x) := by
  obtain ⟨j, hj, rfl | rfl⟩ := ha.cases
  · have hp := hG _ (rdL1_mem G j hj)
    have e1 := pos_letter j (by omega)
    rw [actL_pos]
    refine Evt.const fun K => ?_
    unfold spec_l05Letter.f
    rw [if_pos (by clear e1; omega), e1, if_pos (Int.natCast_nonneg j), if_pos (Int.ofNat_lt.2 hj), if_pos h0, if_pos (by rw [hp.1]; exact h1)]
  · have hp := hG _ (rdL1_mem G j hj)
    rw [actL_neg]
    have hy := full_of hp.2.1 hp.2.2 (by rw [hp.1]; exact Nat.le_refl _) x h0 h1
    refine Evt.same (l05Letter_l0 G j hj hl x (by rw [hp.1]; exact Nat.le_trans hn (by decide)) _ 0 (Nat.zero_add _) (by rw [List.drop_zero]; exact hy)) fun K => ?_
    unfold spec_l05Letter.f
    rw [if_neg (by omega)]
    rfl
theorem l05Move_l0 {n : Nat} (hn : n ≤ 8) {G : List (List Int)} (hG : ∀ g ∈ G, PermN n g) (hl : G.length ≤ 1048576) (w : List Int) (hw : ∀ a ∈ w, LetterIn G a) (hwl : w.length ≤ 1048576) : ∀ (d i : Nat) (x : Int), i + d = w.length → 0 ≤ x → x < n →
    Evt (fun K => spec_l05Move.l0 K G w x (i : Int)) (actW G (w.drop i) x)
  | 0, i, x, hd, h0, h1 => by
    refine Evt.now fun K => ?_
    rw [spec_l05Move.l0, if_neg (by omega), List.drop_of_length_le (by omega)]
    rfl
  | d + 1, i, x, hd, h0, h1 => by
    have hi : i < w.length := by omega
    have hd2 : i + 1 + d = w.length := by omega
    have ei : wrap64 ((i : Int) + 1) = ((i + 1 : Nat) : Int) := w64n (i + 1) (by omega)
    have f1 : (i : Int) < (w.length : Int) := Int.ofNat_lt.2 hi
    have ha := hw _ (rd_in w (i : Int) (Int.natCast_nonneg i) f1)
    have hx := actL_in hG ha h0 h1
    rw [drop_rd w i hi]
    refine Evt.bind1 (l05Letter_ev hn hG hl ha h0 h1) (h := fun K t => spec_l05Move.l0 K G w t ((i + 1 : Nat) : Int)) (l05Move_l0 hn hG hl w hw hwl d (i + 1) _ hd2 hx.1 hx.2) fun K => ?_
    rw [spec_l05Move.l0, if_pos f1, if_pos (Int.natCast_nonneg i), ei]
theorem l05Move_ev {n : Nat} (hn : n ≤ 8) {G : List (List Int)} (hG : ∀ g ∈ G, PermN n g) (hl : G.length ≤ 1048576) (w : List Int) (hw : ∀ a ∈ w, LetterIn G a) (hwl : w.length ≤ 1048576) (x : Int) (h0 : 0 ≤ x) (h1 : x < n) :
    Evt (fun K => spec_l05Move.f K G w x) (actW G w x) := by
  have h := l05Move_l0 hn hG hl w hw hwl w.length 0 x (Nat.zero_add _) h0 h1
  rw [List.drop_zero] at h
  exact h

theorem l05Trivial_l1 {n : Nat} (hn : n ≤ 8) {G : List (List Int)} (hG : ∀ g ∈ G, PermN n g) (hl : G.length ≤ 1048576) (a : Int) (R : List (List Int)) (j : Nat) (hj : j < R.length) (hw : ∀ b ∈ rd_L1 R (j : Int), LetterIn G b) (hwl : (rd_L1 R (j : Int)).length ≤ 1048576) (hR : R.length ≤ 1048576) (r : Bool)
    (h : Evt (fun K => spec_l05Trivial.l0 K (n : Int) G ((j + 1 : Nat) : Int) a R) r) : ∀ (d x : Nat), x + d = n →
    Evt (fun K => spec_l05Trivial.l1 K (n : Int) G (j : Int) (x : Int) a R) (trivB G (rd_L1 R (j : Int)) d x && r)
  | 0, x, hd => by
    have ej : wrap64 ((j : Int) + 1) = ((j + 1 : Nat) : Int) := w64n (j + 1) (by omega)
    unfold trivB
    rw [Bool.true_and]
    refine Evt.step h fun K => ?_
    rw [spec_l05Trivial.l1, if_neg (by clear ej; omega), ej]
  | d + 1, x, hd => by
    have hx : x < n := by omega
    have hd2 : x + 1 + d = n := by omega
    have ei : wrap64 ((x : Int) + 1) = ((x + 1 : Nat) : Int) := w64n (x + 1) (by omega)
    have f1 : (x : Int) < (n : Int) := Int.ofNat_lt.2 hx
    unfold trivB
    refine Evt.bind1 (l05Move_ev hn hG hl (rd_L1 R (j : Int)) hw hwl (x : Int) (Int.natCast_nonneg x) f1) (h := fun K t => if t = (x : Int) then spec_l05Trivial.l1 K (n : Int) G (j : Int) ((x + 1 : Nat) : Int) a R else some false) ?_ fun K => ?_
    · by_cases c : actW G (rd_L1 R (j : Int)) (x : Int) = (x : Int)
      · rw [decide_eq_true c, Bool.true_and]
        exact Evt.same (l05Trivial_l1 hn hG hl a R j hj hw hwl hR r h d (x + 1) hd2) fun K => if_pos c
      · rw [decide_eq_false c, Bool.false_and]
        exact Evt.const fun K => if_neg c
    · rw [spec_l05Trivial.l1, if_pos f1, if_pos (Int.natCast_nonneg j), if_pos (Int.ofNat_lt.2 hj), ei]
theorem l05Trivial_l0 {n : Nat} (hn : n ≤ 8) {G : List (List Int)} (hG : ∀ g ∈ G, PermN n g) (hl : G.length ≤ 1048576) (a : Int) (R : List (List Int)) (hw : ∀ w ∈ R, ∀ b ∈ w, LetterIn G b) (hwl : ∀ w ∈ R, w.length ≤ 1048576) (hR : R.length ≤ 1048576) : ∀ (d j : Nat), j + d = R.length →
    Evt (fun K => spec_l05Trivial.l0 K (n : Int) G (j : Int) a R) ((R.drop j).all fun w => trivB G w n 0)
  | 0, j, hd => by
    refine Evt.now fun K => ?_
    rw [spec_l05Trivial.l0, if_neg (by omega), List.drop_of_length_le (by omega)]
    rfl
  | d + 1, j, hd => by
    have hj : j < R.length := by omega
    have hd2 : j + 1 + d = R.length := by omega
    have f1 : (j : Int) < (R.length : Int) := Int.ofNat_lt.2 hj
    have hm := rdL1_mem R j hj
    rw [drop_rdL1 R j hj, List.all_cons]
    refine Evt.step (l05Trivial_l1 hn hG hl a R j hj (hw _ hm) (hwl _ hm) hR _ (l05Trivial_l0 hn hG hl a R hw hwl hR d (j + 1) hd2) n 0 (Nat.zero_add _)) fun K => ?_
    rw [spec_l05Trivial.l0, if_pos f1]
    rfl
theorem l05Trivial_ev {n : Nat} (hn : n ≤ 8) {G : List (List Int)} (hG : ∀ g ∈ G, PermN n g) (hl : G.length ≤ 1048576) (a : Int) (R : List (List Int)) (hw : ∀ w ∈ R, ∀ b ∈ w, LetterIn G b) (hwl : ∀ w ∈ R, w.length ≤ 1048576) (hR : R.length ≤ 1048576) :
    Evt (fun K => spec_l05Trivial.f K a R (n : Int) G) (R.all fun w => trivB G w n 0) := by
  have h := l05Trivial_l0 hn hG hl a R hw hwl hR R.length 0 (Nat.zero_add _)
  rw [List.drop_zero] at h
  exact h

def encN (ds : List Nat) : List Int := ds.map fun a : Nat => (a : Int)
theorem encN_rd (ds : List Nat) (i : Nat) (h : i < ds.length) : rd (encN ds) (i : Int) = (ds[i] : Int) := by
  rw [rd_nat _ i (by simpa [encN] using h)]
  simp [encN]
theorem rdL1_cast (all : List (List Int)) (a : Nat) : rd_L1 all (a : Int) = all.getD a [] := by
  simp [rd_L1]
section
variable {n g : Nat} {x2 : Bool} {all : List (List Int)} {R : List (List Int)} {r : List (List (List Int))}
theorem search_l1 (hg : g ≤ 24) (X : List (List (List Int))) (ds : List Nat) (hds : ds.length = g) (hlt : ∀ a ∈ ds, a < all.length) (t : Nat → Option (List (List (List Int))))
    (ht : ∀ K, spec_l05Search.l1 (K + 1) (n : Int) x2 all X (encN ds) (pickT all ds) (g : Int) (g : Int) R = t K) (h : Evt t r) : ∀ (d i : Nat), i + d = g → Evt (fun K => spec_l05Search.l1 K (n : Int) x2 all X (encN ds) (pickT all (ds.take i)) (i : Int) (g : Int) R) r
  | 0, i, hd => by
    obtain rfl : i = g := by omega
    rw [List.take_of_length_le (by omega)]
    exact Evt.step h ht
  | d + 1, i, hd => by
    have hi : i < ds.length := by omega
    have e1 : wrap64 ((i : Int) + 1) = ((i + 1 : Nat) : Int) := w64n (i + 1) (by omega)
    have e2 : (encN ds).length = g := by simp [encN, hds]
    have e3 := encN_rd ds i hi
    have ha : ds[i] < all.length := hlt _ (List.getElem_mem hi)
    have e4 : pickT all (ds.take (i + 1)) = pickT all (ds.take i) ++ [rd_L1 all (ds[i] : Int)] := by
      rw [rdL1_cast, List.take_succ_eq_append_getElem hi]
      simp only [pickT, List.map_append, List.map_cons, List.map_nil]
    have e5 : (pickT all (ds.take i)).length < 5864062014805 := by
      simp only [pickT, List.length_map, List.length_take]
      omega
    have ih := search_l1 hg X ds hds hlt t ht h d (i + 1) (by omega)
    rw [e4] at ih
    refine Evt.step ih fun K => ?_
    rw [spec_l05Search.l1, e2, if_pos (Int.ofNat_lt.2 (by omega)), if_pos (Int.natCast_nonneg i), e3, if_pos (Int.natCast_nonneg _), if_pos (Int.ofNat_lt.2 ha), if_pos e5, e1]
theorem search_l2 {L : Nat} (hL : all.length = L + 1) (hL2 : L ≤ 1000000) (hg : g ≤ 24) (X : List (List (List Int))) : ∀ (rs : List Nat) (j : Nat), rs.length + j = g → (∀ a ∈ rs, a < L + 1) →
    (match nextT (L + 1) rs j with | none => r = X | some ds => Evt (fun K => spec_l05Search.l0 K (n : Int) x2 all X (encN ds) (g : Int) R) r) → Evt (fun K => spec_l05Search.l2 K (n : Int) x2 all X (encN (rs.reverse ++ List.replicate j 0)) ((rs.length : Int) - 1) (g : Int) R) r
  | [], j, hj, _, h => by
    obtain rfl : r = X := h
    refine Evt.now fun K => ?_
    rw [spec_l05Search.l2, if_neg (by simp), if_pos (by simp)]
  | a :: rs, j, hj, hr, h => by
    rw [List.length_cons] at hj
    have hlen : (encN ((a :: rs).reverse ++ List.replicate j 0)).length = g := by
      simp [encN]
      omega
    have hi : ((a :: rs).length : Int) - 1 = (rs.length : Int) := by
      show ((rs.length + 1 : Nat) : Int) - 1 = (rs.length : Int)
      omega
    have hnn : ¬ (rs.length : Int) < 0 := by omega
    have hq : a + 1 = L + 1 → (a : Int) = (L : Int) := fun h => by omega
    have hq2 : ¬ a + 1 = L + 1 → ¬ (a : Int) = (L : Int) := fun h => by omega
    have hs : (encN ((a :: rs).reverse ++ List.replicate j 0)).set (rs.length : Int).toNat 0 = encN (rs.reverse ++ 0 :: List.replicate j 0) := by
      rw [Int.toNat_natCast]
      simp [encN, List.set_append]
    have hwn : (rs.length : Int) ≤ 24 := by omega
    have hx : rd (encN ((a :: rs).reverse ++ List.replicate j 0)) (rs.length : Int) = (a : Int) := by
      rw [encN_rd _ rs.length (by simp)]
      simp [List.getElem_append, List.getElem_reverse]
    have hset : ∀ b : Nat, (encN ((a :: rs).reverse ++ List.replicate j 0)).set (rs.length : Int).toNat (b : Int) = encN (rs.reverse ++ b :: List.replicate j 0) := fun b => by
      rw [Int.toNat_natCast]
      simp [encN, List.set_append]
    have eL : wrap64 ((all.length : Int) - 1) = (L : Int) := by
      rw [hL, show ((L + 1 : Nat) : Int) - 1 = (L : Int) by omega]
      exact w64n L (by omega)
    have f0 : (rs.length : Int) < (g : Int) := Int.ofNat_lt.2 (by omega)
    rw [hi]
    by_cases c : a + 1 = L + 1
    · have e1 : wrap64 ((rs.length : Int) - 1) = (rs.length : Int) - 1 := w64 _ (by clear eL; omega) (by clear eL; omega)
      rw [nextT, if_pos c] at h
      have ih := search_l2 hL hL2 hg X rs (j + 1) (by clear e1 eL; omega) (fun b hb => hr b (List.mem_cons_of_mem _ hb)) h
      refine Evt.step ih fun K => ?_
      rw [spec_l05Search.l2, if_pos (show (rs.length : Int) ≥ 0 from Int.natCast_nonneg _), if_pos (Int.natCast_nonneg _), hlen, if_pos f0, hx, eL, if_pos (hq c), e1, hs]
      rfl
    · have ha := hr a List.mem_cons_self
      have e1 : wrap64 ((a : Int) + 1) = ((a + 1 : Nat) : Int) := w64n (a + 1) (by clear eL; omega)
      rw [nextT, if_neg c] at h
      refine Evt.step h fun K => ?_
      rw [spec_l05Search.l2, if_pos (show (rs.length : Int) ≥ 0 from Int.natCast_nonneg _), if_pos (Int.natCast_nonneg _), hlen, if_pos f0, hx, eL, if_neg (hq2 c), if_neg hnn, e1, hset]
/-- What the reference keeps. -/
def keepT (n : Nat) (R : List (List Int)) (x2 : Bool) (tB : List (List Int) → Bool) (G : List (List Int)) : Bool := (R.all fun w => trivB G w n 0) && (!x2 || tB G)
theorem search_l0 {L : Nat} (hn : n ≤ 8) (hL : all.length = L + 1) (hL2 : L ≤ 1000000) (hg : g ≤ 24) (hall : ∀ l ∈ all, PermN n l) (hRw : ∀ x ∈ R, ∀ a ∈ x, a ≠ 0 ∧ -(g : Int) ≤ a ∧ a ≤ g) (hRl : ∀ x ∈ R, x.length ≤ 1048576) (hR : R.length ≤ 1048576) (tB : List (List Int) → Bool)
    (hO : x2 = true → ∀ G, G.length = g → (∀ l ∈ G, PermN n l) → ∃ os, Evt (fun K => spec_l05Orbits.f K (n : Int) G) os ∧ ((os.length : Int) == 1) = tB G) :
    ∀ (N : Nat) (ds : List Nat) (X : List (List (List Int))), (restT all ds).length = N → X.length + N ≤ 1000000 → ds.length = g → (∀ a ∈ ds, a < L + 1) → Evt (fun K => spec_l05Search.l0 K (n : Int) x2 all X (encN ds) (g : Int) R) (X ++ (restT all ds).filter (keepT n R x2 tB)) := by
  intro N
  induction N with
  | zero =>
    intro ds X hN _ _ _
    obtain ⟨t, ht⟩ := restT_head all ds
    rw [ht] at hN
    simp at hN
  | succ N ih =>
    intro ds X hN hX hds hlt
    obtain ⟨t, ht⟩ := restT_head all ds
    obtain ⟨G, hGd⟩ : ∃ G, G = pickT all ds := ⟨_, rfl⟩
    have hGl : G.length = g := by rw [hGd]; simp [pickT, hds]
    have hG : ∀ l ∈ G, PermN n l := fun l hl => by
      rw [hGd] at hl
      obtain ⟨a, ha, rfl⟩ := List.mem_map.1 hl
      have hal : a < all.length := by rw [hL]; exact hlt a ha
      rw [List.getD_eq_getElem?_getD, List.getElem?_eq_getElem hal]
      exact hall _ (List.getElem_mem hal)
    have htl : (restT all ds).tail = match nextT (L + 1) ds.reverse 0 with | none => [] | some d => restT all d := by
      have := restT_next all hL ds.reverse 0 (fun a ha => by have := hlt a (List.mem_reverse.1 ha); omega)
      rwa [List.reverse_reverse, List.replicate_zero, List.append_nil] at this
    have e0 : (encN ds).length = g := by simp [encN, hds]
    -- behind the test
    have tail : ∀ Y : List (List (List Int)), Y.length ≤ X.length + 1 → Evt (fun K => spec_l05Search.l2 K (n : Int) x2 all Y (encN ds) ((g : Int) - 1) (g : Int) R) (Y ++ t.filter (keepT n R x2 tB)) := by
      intro Y hY
      have h2 := search_l2 (n := n) (x2 := x2) (R := R) (r := Y ++ t.filter (keepT n R x2 tB)) hL hL2 hg Y ds.reverse 0 (by rw [List.length_reverse]; omega) (fun a ha => hlt a (List.mem_reverse.1 ha)) (by
        rw [ht, List.tail_cons] at htl
        cases hx : nextT (L + 1) ds.reverse 0 with
        | none =>
          rw [hx] at htl
          rw [htl]
          simp
        | some d =>
          rw [hx] at htl
          simp only at htl ⊢
          obtain ⟨h1, h3⟩ := nextT_ok (L + 1) ds.reverse 0 d (fun a ha => hlt a (List.mem_reverse.1 ha)) (by omega) hx
          have hN2 : (restT all d).length = N := by
            rw [ht, htl, List.length_cons] at hN
            omega
          rw [htl]
          exact ih d Y hN2 (by omega) (by rw [h1, List.length_reverse]; omega) h3)
      rwa [List.reverse_reverse, List.replicate_zero, List.append_nil, List.length_reverse, hds] at h2
    have e1 : wrap64 ((g : Int) - 1) = (g : Int) - 1 := w64 _ (by omega) (by omega)
    have j3 : ∀ Y : List (List (List Int)), Y.length ≤ X.length + 1 → Evt (fun K => spec_l05Search.j3 K (n : Int) x2 all Y (encN ds) (g : Int) R) (Y ++ t.filter (keepT n R x2 tB)) := fun Y hY => Evt.step (tail Y hY) fun K => by rw [spec_l05Search.j3, e0, e1]
    have j2 : Evt (fun K => spec_l05Search.j2 K (n : Int) x2 all X (encN ds) G (keepT n R x2 tB G) (g : Int) R) (X ++ (restT all ds).filter (keepT n R x2 tB)) := by
      rw [ht, ← hGd, List.filter_cons]
      by_cases c : keepT n R x2 tB G = true
      · rw [if_pos c]
        have := j3 (X ++ [G]) (by simp)
        rw [List.append_assoc, List.singleton_append] at this
        exact Evt.step this fun K => by rw [spec_l05Search.j2, if_pos c, if_pos (by omega)]
      · rw [if_neg c]
        exact Evt.step (j3 X (by omega)) fun K => by rw [spec_l05Search.j2, if_neg c]
    have hlet : ∀ w ∈ R, ∀ b ∈ w, LetterIn G b := fun w hw b hb => by
      have := hRw w hw b hb
      unfold LetterIn
      rw [hGl]
      exact this
    have tr := l05Trivial_ev hn hG (by omega) (g : Int) R hlet hRl hR
    have hrest : Evt (fun K => (spec_l05Trivial.f K (g : Int) R (n : Int) G).bind fun t198 => (if t198 = true then (if x2 = true then ((spec_l05Orbits.f K (n : Int) G).bind fun t199 => (spec_l05Search.j2 K (n : Int) x2 all X (encN ds) G ((t199.length : Int) == 1) (g : Int) R)) else (spec_l05Search.j2 K (n : Int) x2 all X (encN ds) G true (g : Int) R)) else (spec_l05Search.j2 K (n : Int) x2 all X (encN ds) G false (g : Int) R))) (X ++ (restT all ds).filter (keepT n R x2 tB)) := by
      refine Evt.bind tr (h := fun K t198 => (if t198 = true then (if x2 = true then ((spec_l05Orbits.f K (n : Int) G).bind fun t199 => (spec_l05Search.j2 K (n : Int) x2 all X (encN ds) G ((t199.length : Int) == 1) (g : Int) R)) else (spec_l05Search.j2 K (n : Int) x2 all X (encN ds) G true (g : Int) R)) else (spec_l05Search.j2 K (n : Int) x2 all X (encN ds) G false (g : Int) R))) ?_ fun _ => rfl
      by_cases c : (R.all fun w => trivB G w n 0) = true
      · by_cases c2 : x2 = true
        · obtain ⟨os, ho, hb⟩ := hO c2 G hGl hG
          have hk : keepT n R x2 tB G = ((os.length : Int) == 1) := by
            unfold keepT
            rw [c, c2, hb]
            simp
          rw [hk] at j2
          exact Evt.bind ho (h := fun K t199 => spec_l05Search.j2 K (n : Int) x2 all X (encN ds) G ((t199.length : Int) == 1) (g : Int) R) j2 fun K => by rw [if_pos c, if_pos c2]
        · have hk : keepT n R x2 tB G = true := by
            unfold keepT
            rw [c]
            simp [Bool.not_eq_true _ |>.mp c2]
          rw [hk] at j2
          exact Evt.same j2 fun K => by rw [if_pos c, if_neg c2]
      · have hk : keepT n R x2 tB G = false := by
          unfold keepT
          rw [Bool.not_eq_true _ |>.mp c, Bool.false_and]
        rw [hk] at j2
        exact Evt.same j2 fun K => by rw [if_neg c]
    have hl1 := search_l1 (n := n) (x2 := x2) (R := R) (all := all) hg X ds hds (fun a ha => by rw [hL]; exact hlt a ha) _ (fun K => by rw [spec_l05Search.l1, e0, if_neg (Int.lt_irrefl _), ← hGd]) hrest g 0 (by omega)
    rw [List.take_zero] at hl1
    exact Evt.step hl1 fun K => by rw [spec_l05Search.l0]; rfl
end

/-- The test of a permutation, entry by entry. -/
def goP (n len : Nat) : List Int → List Int → Bool
  | _, [] => decide (len = n)
  | q, x :: t => if 0 ≤ x ∧ x ≤ (n : Int) - 1 then (if x ∈ q then false else goP n len (q ++ [x]) t) else false
theorem goP_true (n len : Nat) : ∀ (t q : List Int), goP n len q t = true → q.Nodup → InN n q → (q ++ t).Nodup ∧ InN n (q ++ t) ∧ len = n
  | [], q, h, h1, h2 => by
    rw [List.append_nil]
    exact ⟨h1, h2, of_decide_eq_true h⟩
  | x :: t, q, h, h1, h2 => by
    unfold goP at h
    by_cases c : 0 ≤ x ∧ x ≤ (n : Int) - 1
    · rw [if_pos c] at h
      by_cases e : x ∈ q
      · rw [if_pos e] at h
        exact absurd h (by simp)
      · rw [if_neg e] at h
        have := goP_true n len t (q ++ [x]) h (List.nodup_append.2 ⟨h1, by simp, fun a ha b hb e2 => by
          rw [List.mem_singleton] at hb
          exact e (hb ▸ e2 ▸ ha)⟩) (fun y hy => by
          rw [List.mem_append, List.mem_singleton] at hy
          rcases hy with hy | rfl
          · exact h2 y hy
          · omega)
        rwa [List.append_assoc] at this
    · rw [if_neg c] at h
      exact absurd h (by simp)
theorem permN_of {n : Nat} {g : List Int} (h : goP n g.length [] g = true) : PermN n g := by
  obtain ⟨h1, h2, h3⟩ := goP_true n g.length g [] h (by simp) (fun x hx => absurd hx (by simp))
  exact ⟨h3, h1, h2⟩

/-- The reference's permutations are the program's, and are permutations. -/
def allTab (n : Nat) : Bool := decide (spec_l05All.f 2000 (n : Int) = some (permsF n n [] [])) && ((permsF n n [] []).all fun l => goP n l.length [] l) && decide (0 < (permsF n n [] []).length ∧ (permsF n n [] []).length ≤ 24)
theorem allTab_ok : ((List.range 4).all fun m => allTab (m + 1)) = true := by decide +kernel
theorem allTab_at {n : Nat} (h1 : 1 ≤ n) (h4 : n ≤ 4) : allTab n = true := by
  have := List.all_eq_true.1 allTab_ok (n - 1) (List.mem_range.2 (by omega))
  rwa [show n - 1 + 1 = n by omega] at this
theorem all_ev {n : Nat} (h1 : 1 ≤ n) (h4 : n ≤ 4) : Evt (fun K => spec_l05All.f K (n : Int)) (permsF n n [] []) := by
  have h := allTab_at h1 h4
  unfold allTab at h
  rw [Bool.and_eq_true, Bool.and_eq_true] at h
  exact ⟨2000, fun K hK => at_rounds (g := fun K => spec_l05All.f K (n : Int)) (spec_l05All.mono _) hK (of_decide_eq_true h.1.1)⟩
theorem all_perm {n : Nat} (h1 : 1 ≤ n) (h4 : n ≤ 4) : ∀ l ∈ permsF n n [] [], PermN n l := by
  have h := allTab_at h1 h4
  unfold allTab at h
  rw [Bool.and_eq_true, Bool.and_eq_true] at h
  exact fun l hl => permN_of (List.all_eq_true.1 h.1.2 l hl)
theorem all_len {n : Nat} (h1 : 1 ≤ n) (h4 : n ≤ 4) : 0 < (permsF n n [] []).length ∧ (permsF n n [] []).length ≤ 24 := by
  have h := allTab_at h1 h4
  unfold allTab at h
  rw [Bool.and_eq_true, Bool.and_eq_true] at h
  exact of_decide_eq_true h.2

theorem index_l0 (y : Int) (g : List Int) (hl : g.length ≤ 1048576) : ∀ (d i : Nat), i + d = g.length → Evt (fun K => slices_Index_int64_int64.l0 K g y (g.length : Int) (i : Int)) (idxF (g.drop i) y i)
  | 0, i, hd => by
    refine Evt.now fun K => ?_
    rw [slices_Index_int64_int64.l0, if_neg (by omega), List.drop_of_length_le (by omega)]
    rfl
  | d + 1, i, hd => by
    have hi : i < g.length := by omega
    have hd2 : i + 1 + d = g.length := by omega
    have ei : wrap64 ((i : Int) + 1) = ((i + 1 : Nat) : Int) := w64n (i + 1) (by omega)
    have f1 : (i : Int) < (g.length : Int) := Int.ofNat_lt.2 hi
    rw [drop_rd g i hi]
    unfold idxF
    by_cases c : rd g (i : Int) = y
    · rw [if_pos c]
      exact Evt.now fun K => by rw [slices_Index_int64_int64.l0, if_pos f1, if_pos (Int.natCast_nonneg i), if_pos f1, if_pos c.symm]
    · rw [if_neg c]
      exact Evt.step (index_l0 y g hl d (i + 1) hd2) fun K => by rw [slices_Index_int64_int64.l0, if_pos f1, if_pos (Int.natCast_nonneg i), if_pos f1, if_neg (Ne.symm c), ei]
theorem back_ev (y : Int) (g : List Int) (hl : g.length ≤ 1048576) : Evt (fun K => impl_back.f K g y) (invI g y) := by
  have h := index_l0 y g hl g.length 0 (Nat.zero_add _)
  rw [List.drop_zero] at h
  exact Evt.bind h (h := fun _ t => some t) (Evt.const fun _ => rfl) fun _ => rfl
theorem act_ev {n : Nat} (hn : n ≤ 8) {G : List (List Int)} (hG : ∀ g ∈ G, PermN n g) (hl : G.length ≤ 1048576) {a x : Int} (ha : LetterIn G a) (h0 : 0 ≤ x) (h1 : x < n) : Evt (fun K => impl_act.f K G a x) (actL G a x) := by
  obtain ⟨j, hj, rfl | rfl⟩ := ha.cases
  · have hp := hG _ (rdL1_mem G j hj)
    have e1 := pos_letter j (by omega)
    rw [actL_pos]
    refine Evt.const fun K => ?_
    unfold impl_act.f
    rw [if_pos (by clear e1; omega), e1, if_pos (Int.natCast_nonneg j), if_pos (Int.ofNat_lt.2 hj), if_pos h0, if_pos (by rw [hp.1]; exact h1)]
  · have hp := hG _ (rdL1_mem G j hj)
    have e1 := neg_letter j (by omega)
    rw [actL_neg]
    refine Evt.bind (back_ev x (rd_L1 G (j : Int)) (by rw [hp.1]; exact Nat.le_trans hn (by decide))) (h := fun _ t => some t) (Evt.const fun _ => rfl) fun K => ?_
    unfold impl_act.f
    rw [w64 (-(-((j + 1 : Nat) : Int))) (by clear e1; omega) (by clear e1; omega)] at e1
    rw [if_neg (by clear e1; omega), w64 (-(-((j + 1 : Nat) : Int))) (by clear e1; omega) (by clear e1; omega), e1, if_pos (Int.natCast_nonneg j), if_pos (Int.ofNat_lt.2 hj)]
theorem actWord_l0 {n : Nat} (hn : n ≤ 8) {G : List (List Int)} (hG : ∀ g ∈ G, PermN n g) (hl : G.length ≤ 1048576) (w : List Int) (hw : ∀ a ∈ w, LetterIn G a) (hwl : w.length ≤ 1048576) : ∀ (d i : Nat) (x : Int), i + d = w.length → 0 ≤ x → x < n →
    Evt (fun K => impl_actWord.l0 K G x w (w.length : Int) (i : Int)) (actW G (w.drop i) x)
  | 0, i, x, hd, h0, h1 => by
    refine Evt.now fun K => ?_
    rw [impl_actWord.l0, if_neg (by omega), List.drop_of_length_le (by omega)]
    rfl
  | d + 1, i, x, hd, h0, h1 => by
    have hi : i < w.length := by omega
    have hd2 : i + 1 + d = w.length := by omega
    have ei : wrap64 ((i : Int) + 1) = ((i + 1 : Nat) : Int) := w64n (i + 1) (by omega)
    have f1 : (i : Int) < (w.length : Int) := Int.ofNat_lt.2 hi
    have ha := hw _ (rd_in w (i : Int) (Int.natCast_nonneg i) f1)
    have hx := actL_in hG ha h0 h1
    rw [drop_rd w i hi]
    refine Evt.bind1 (act_ev hn hG hl ha h0 h1) (h := fun K t => impl_actWord.l0 K G t w (w.length : Int) ((i + 1 : Nat) : Int)) (actWord_l0 hn hG hl w hw hwl d (i + 1) _ hd2 hx.1 hx.2) fun K => ?_
    rw [impl_actWord.l0, if_pos f1, if_pos (Int.natCast_nonneg i), if_pos f1, ei]
theorem actWord_ev {n : Nat} (hn : n ≤ 8) {G : List (List Int)} (hG : ∀ g ∈ G, PermN n g) (hl : G.length ≤ 1048576) (w : List Int) (hw : ∀ a ∈ w, LetterIn G a) (hwl : w.length ≤ 1048576) (x : Int) (h0 : 0 ≤ x) (h1 : x < n) :
    Evt (fun K => impl_actWord.f K G w x) (actW G w x) := by
  have h := actWord_l0 hn hG hl w hw hwl w.length 0 x (Nat.zero_add _) h0 h1
  rw [List.drop_zero] at h
  exact h

theorem isTrivial_l0 {n : Nat} (hn : n ≤ 8) {G : List (List Int)} (hG : ∀ g ∈ G, PermN n g) (hl : G.length ≤ 1048576) (w : List Int) (hw : ∀ a ∈ w, LetterIn G a) (hwl : w.length ≤ 1048576) : ∀ (d x : Nat), x + d = n →
    Evt (fun K => impl_isTrivial.l0 K G w (n : Int) (x : Int)) (trivB G w d x)
  | 0, x, hd => by
    refine Evt.now fun K => ?_
    rw [impl_isTrivial.l0, if_neg (by omega)]
    rfl
  | d + 1, x, hd => by
    have hx : x < n := by omega
    have hd2 : x + 1 + d = n := by omega
    have ei : wrap64 ((x : Int) + 1) = ((x + 1 : Nat) : Int) := w64n (x + 1) (by omega)
    have f1 : (x : Int) < (n : Int) := Int.ofNat_lt.2 hx
    unfold trivB
    refine Evt.bind1 (actWord_ev hn hG hl w hw hwl (x : Int) (Int.natCast_nonneg x) f1) (h := fun K t => if t = (x : Int) then impl_isTrivial.l0 K G w (n : Int) ((x + 1 : Nat) : Int) else some false) ?_ fun K => ?_
    · by_cases c : actW G w (x : Int) = (x : Int)
      · rw [decide_eq_true c, Bool.true_and]
        exact Evt.same (isTrivial_l0 hn hG hl w hw hwl d (x + 1) hd2) fun K => if_pos c
      · rw [decide_eq_false c, Bool.false_and]
        exact Evt.const fun K => if_neg c
    · rw [impl_isTrivial.l0, if_pos f1, ei]
theorem isTrivial_ev {n : Nat} (hn : n ≤ 8) {G : List (List Int)} (hG : ∀ g ∈ G, PermN n g) (hl : G.length ≤ 1048576) (w : List Int) (hw : ∀ a ∈ w, LetterIn G a) (hwl : w.length ≤ 1048576) :
    Evt (fun K => impl_isTrivial.f K (n : Int) G w) (trivB G w n 0) := isTrivial_l0 hn hG hl w hw hwl n 0 (Nat.zero_add _)

/-- The tests of the places from m on hold. -/
def okT (n : Nat) (T : List (List (List Int))) : Nat → Nat → List (List Int) → Bool
  | m, 0, G => (T.getD m []).all fun w => trivB G w n 0
  | m, d + 1, G => ((T.getD m []).all fun w => trivB G w n 0) && okT n T (m + 1) d G
theorem anyO_trivQ {n : Nat} (hn : n ≤ 8) {G : List (List Int)} (hG : ∀ g ∈ G, PermN n g) (hl : G.length ≤ 1048576) : ∀ (R : List (List Int)), (∀ w ∈ R, ∀ b ∈ w, LetterIn G b) → (∀ w ∈ R, w.length ≤ 1048576) → Evt (fun K => anyO (trivQ K (n : Int) G) R) (!(R.all fun w => trivB G w n 0))
  | [], _, _ => Evt.const fun _ => rfl
  | w :: R, hw, hwl => by
    have h := isTrivial_ev hn hG hl w (hw w List.mem_cons_self) (hwl w List.mem_cons_self)
    have hq : Evt (fun K => trivQ K (n : Int) G w) (!(trivB G w n 0)) := Evt.bind h (h := fun _ b => some (!b)) (Evt.const fun _ => rfl) fun _ => rfl
    rw [List.all_cons]
    refine Evt.bind hq (h := fun K b => if b = true then some true else anyO (trivQ K (n : Int) G) R) ?_ fun _ => rfl
    by_cases c : trivB G w n 0 = true
    · rw [c, Bool.true_and]
      exact Evt.same (anyO_trivQ hn hG hl R (fun x hx => hw x (List.mem_cons_of_mem _ hx)) fun x hx => hwl x (List.mem_cons_of_mem _ hx)) fun K => if_neg (by simp)
    · rw [Bool.not_eq_true] at c
      rw [c, Bool.false_and]
      exact Evt.const fun K => if_pos rfl
theorem rdL1_app (G t : List (List Int)) (j : Nat) (h : j < G.length) : rd_L1 (G ++ t) (j : Int) = rd_L1 G (j : Int) := by
  simp only [rd_L1, Int.toNat_natCast]
  rw [List.getD_eq_getElem?_getD, List.getD_eq_getElem?_getD, List.getElem?_append_left h]
theorem actL_app (G t : List (List Int)) (a x : Int) (h : LetterIn G a) : actL (G ++ t) a x = actL G a x := by
  obtain ⟨j, hj, rfl | rfl⟩ := h.cases
  · rw [actL_pos, actL_pos, rdL1_app G t j hj]
  · rw [actL_neg, actL_neg, rdL1_app G t j hj]
theorem actW_app (G t : List (List Int)) : ∀ (w : List Int) (x : Int), (∀ a ∈ w, LetterIn G a) → actW (G ++ t) w x = actW G w x
  | [], x, _ => rfl
  | a :: w, x, h => by
    show actW (G ++ t) w (actL (G ++ t) a x) = actW G w (actL G a x)
    rw [actL_app G t a x (h a List.mem_cons_self)]
    exact actW_app G t w _ fun b hb => h b (List.mem_cons_of_mem _ hb)
theorem trivB_app (G t : List (List Int)) (w : List Int) (h : ∀ a ∈ w, LetterIn G a) : ∀ d x, trivB (G ++ t) w d x = trivB G w d x
  | 0, _ => rfl
  | d + 1, x => by rw [trivB, trivB, actW_app G t w _ h, trivB_app G t w h d]
theorem all_app (G t : List (List Int)) (n : Nat) : ∀ (R : List (List Int)), (∀ w ∈ R, ∀ a ∈ w, LetterIn G a) → (R.all fun w => trivB (G ++ t) w n 0) = R.all fun w => trivB G w n 0
  | [], _ => rfl
  | w :: R, h => by rw [List.all_cons, List.all_cons, trivB_app G t w (h w List.mem_cons_self), all_app G t n R fun x hx => h x (List.mem_cons_of_mem _ hx)]
theorem filter_none {α : Type} {p : α → Bool} : ∀ (l : List α), (∀ x ∈ l, p x = false) → l.filter p = []
  | [], _ => rfl
  | x :: l, h => by rw [List.filter_cons, if_neg (by rw [h x List.mem_cons_self]; simp), filter_none l fun y hy => h y (List.mem_cons_of_mem _ hy)]
/-- The search shows the visitor those tuples for which all tests hold. -/
theorem growEv {σ : Type} {n g : Nat} (hn : n ≤ 8) (hg : g ≤ 24) (T : List (List (List Int))) (hT : ∀ m w, w ∈ T.getD m [] → (∀ a ∈ w, a ≠ 0 ∧ -(m : Int) ≤ a ∧ a ≤ m) ∧ w.length ≤ 1048576) (all : List (List Int)) (hall : ∀ l ∈ all, PermN n l)
    (vis : Nat → List (List Int) → σ → Option (Bool × σ)) (vp : List (List Int) → σ → Bool × σ) (hv : ∀ G, G.length = g → (∀ l ∈ G, PermN n l) → ∀ s, Evt (fun K => vis K G s) (vp G s)) :
    ∀ (d : Nat) (images : List (List Int)) (s : σ), images.length + d = g → (∀ l ∈ images, PermN n l) → Evt (fun K => growG K (n : Int) T all (vis K) d images s) (visP vp (((tup all d).map (images ++ ·)).filter (okT n T images.length d)) s)
  | 0, images, s, hd, hi => by
    have hw : ∀ w ∈ T.getD images.length [], ∀ b ∈ w, LetterIn images b := fun w hw b hb => (hT _ w hw).1 b hb
    have ha := anyO_trivQ hn hi (by omega) (T.getD images.length []) hw (fun w hw => (hT _ w hw).2)
    refine Evt.bind ha (h := fun K b => if b = true then some (true, s) else vis K images s) ?_ fun _ => rfl
    rw [tup, List.map_singleton, List.append_nil, List.filter_cons, List.filter_nil, okT]
    by_cases c : ((T.getD images.length []).all fun w => trivB images w n 0) = true
    · rw [c, if_pos rfl, visP_one]
      refine Evt.same (hv images (by omega) hi s) fun K => ?_
      rw [if_neg (by simp)]
    · rw [Bool.not_eq_true] at c
      rw [c]
      exact Evt.const fun K => rfl
  | d + 1, images, s, hd, hi => by
    have hw : ∀ w ∈ T.getD images.length [], ∀ b ∈ w, LetterIn images b := fun w hw b hb => (hT _ w hw).1 b hb
    have ha := anyO_trivQ hn hi (by omega) (T.getD images.length []) hw (fun w hw => (hT _ w hw).2)
    refine Evt.bind ha (h := fun K b => if b = true then some (true, s) else foldG (fun l s => growG K (n : Int) T all (vis K) d (images ++ [l]) s) all s) ?_ fun _ => rfl
    by_cases c : ((T.getD images.length []).all fun w => trivB images w n 0) = true
    · rw [c]
      have e : ∀ (l : List (List Int)), (∀ x ∈ l, PermN n x) → ∀ s, Evt (fun K => foldG (fun l s => growG K (n : Int) T all (vis K) d (images ++ [l]) s) l s) (visP vp (((l.flatMap fun x => (tup all d).map (x :: ·)).map (images ++ ·)).filter (okT n T images.length (d + 1))) s) := by
        intro l
        induction l with
        | nil => exact fun _ s => Evt.const fun _ => rfl
        | cons x l ih =>
          intro hx s
          have h1 := growEv hn hg T hT all hall vis vp hv d (images ++ [x]) s (by rw [List.length_append, List.length_singleton]; omega) (fun y hy => by
            rcases List.mem_append.1 hy with h | h
            · exact hi y h
            · rw [List.mem_singleton.1 h]
              exact hx x List.mem_cons_self)
          have e1 : (((tup all d).map (x :: ·)).map (images ++ ·)).filter (okT n T images.length (d + 1)) = ((tup all d).map ((images ++ [x]) ++ ·)).filter (okT n T (images ++ [x]).length d) := by
            rw [List.map_map, show ((images ++ ·) ∘ (x :: ·) : List (List Int) → List (List Int)) = fun t => (images ++ [x]) ++ t from funext fun t => by simp]
            refine List.filter_congr fun G hG => ?_
            obtain ⟨t, _, rfl⟩ := List.mem_map.1 hG
            rw [okT, List.append_assoc, all_app images ([x] ++ t) n _ hw, c, Bool.true_and, List.length_append, List.length_singleton]
          rw [List.flatMap_cons, List.map_append, List.filter_append, visP_append, e1]
          refine Evt.bind h1 (h := fun K r => if r.1 = true then foldG (fun l s => growG K (n : Int) T all (vis K) d (images ++ [l]) s) l r.2 else some (false, r.2)) ?_ fun _ => rfl
          by_cases c2 : (visP vp (((tup all d).map ((images ++ [x]) ++ ·)).filter (okT n T (images ++ [x]).length d)) s).1 = true
          · rw [if_pos c2]
            exact Evt.same (ih (fun y hy => hx y (List.mem_cons_of_mem _ hy)) _) fun K => if_pos c2
          · rw [if_neg c2]
            exact Evt.const fun K => if_neg c2
      refine Evt.same (e all hall s) fun K => ?_
      rw [if_neg (by simp)]
    · rw [Bool.not_eq_true] at c
      rw [c, filter_none]
      · exact Evt.const fun K => rfl
      · intro G hG
        obtain ⟨t, _, rfl⟩ := List.mem_map.1 hG
        rw [okT, all_app images t n _ hw, c, Bool.false_and]
/-! the tests -/
theorem lastN_mono : ∀ (x : List Int) (m : Nat), m ≤ lastN x m
  | [], m => Nat.le_refl _
  | a :: t, m => Nat.le_trans (Nat.le_max_left _ _) (lastN_mono t _)
theorem lastN_mem : ∀ (x : List Int) (m : Nat) (a : Int), a ∈ x → a.natAbs ≤ lastN x m
  | b :: t, m, a, h => by
    rcases List.mem_cons.1 h with rfl | h
    · exact Nat.le_trans (Nat.le_max_right _ _) (lastN_mono t _)
    · exact lastN_mem t _ a h
theorem testsN_mem : ∀ (R : List (List Int)) (T : List (List (List Int))), (∀ x ∈ R, lastN x 0 < T.length) → ∀ m w, w ∈ (testsN R T).getD m [] ↔ w ∈ T.getD m [] ∨ w ∈ R ∧ lastN w 0 = m
  | [], T, _, m, w => by simp [testsN]
  | x :: R, T, h, m, w => by
    have hx := h x List.mem_cons_self
    rw [testsN, testsN_mem R _ (fun y hy => by rw [List.length_set]; exact h y (List.mem_cons_of_mem _ hy)) m w, List.mem_cons, List.getD_eq_getElem?_getD, List.getElem?_set]
    by_cases c : lastN x 0 = m
    · rw [if_pos c, if_pos hx, Option.getD_some, List.mem_append, List.mem_singleton, c]
      constructor
      · rintro ((h | rfl) | h)
        · exact .inl h
        · exact .inr ⟨.inl rfl, c⟩
        · exact .inr ⟨.inr h.1, h.2⟩
      · rintro (h | ⟨rfl | h, h2⟩)
        · exact .inl (.inl h)
        · exact .inl (.inr rfl)
        · exact .inr ⟨h, h2⟩
    · rw [if_neg c, ← List.getD_eq_getElem?_getD]
      constructor
      · rintro (h | h)
        · exact .inl h
        · exact .inr ⟨.inr h.1, h.2⟩
      · rintro (h | ⟨rfl | h, h2⟩)
        · exact .inl h
        · exact absurd h2 c
        · exact .inr ⟨h, h2⟩
theorem okT_iff (n : Nat) (T : List (List (List Int))) (G : List (List Int)) : ∀ (d m : Nat), okT n T m d G = true ↔ ∀ j, m ≤ j → j ≤ m + d → ∀ w ∈ T.getD j [], trivB G w n 0 = true
  | 0, m => by
    rw [okT, List.all_eq_true]
    constructor
    · intro h j h1 h2
      obtain rfl : j = m := by omega
      exact h
    · exact fun h => h m (Nat.le_refl _) (Nat.le_refl _)
  | d + 1, m => by
    rw [okT, Bool.and_eq_true, List.all_eq_true, okT_iff n T G d (m + 1)]
    constructor
    · rintro ⟨h1, h2⟩ j h3 h4
      by_cases c : j = m
      · subst c
        exact h1
      · exact h2 j (by omega) (by omega)
    · exact fun h => ⟨h m (Nat.le_refl _) (by omega), fun j h1 h2 => h j (by omega) (by omega)⟩
/-- All representations, shown to a visitor. -/
theorem runEv {σ : Type} {n g : Nat} (h1 : 1 ≤ n) (h4 : n ≤ 4) (hg : g ≤ 24) (R : List (List Int)) (hR : R.length ≤ 48) (hRw : ∀ x ∈ R, ∀ a ∈ x, a ≠ 0 ∧ -(g : Int) ≤ a ∧ a ≤ g) (hRl : ∀ x ∈ R, x.length ≤ 1048576) (hall : ∀ l ∈ permsF n n [] [], PermN n l)
    (vis : Nat → List (List Int) → σ → Option (Bool × σ)) (vp : List (List Int) → σ → Bool × σ) (hv : ∀ G, G.length = g → (∀ l ∈ G, PermN n l) → ∀ s, Evt (fun K => vis K G s) (vp G s)) (s : σ) :
    Evt (fun K => repsRun K (g : Int) R (n : Int) (vis K) s) (visP vp ((tup (permsF n n [] []) g).filter fun G => R.all fun w => trivB G w n 0) s) := by
  have hok : okReps (g : Int) R (n : Int) := ⟨by omega, by omega, by omega, by omega, hR, fun x hx a ha => by have := hRw x hx a ha; omega⟩
  have hle : ∀ x ∈ R, lastN x 0 ≤ g := fun x hx => lastN_le g x 0 (Nat.zero_le _) fun a ha => by have := hRw x hx a ha; omega
  obtain ⟨T, hTd⟩ : ∃ T, T = testsN R (List.replicate (g + 1) []) := ⟨_, rfl⟩
  have hTm : ∀ m w, w ∈ T.getD m [] ↔ w ∈ R ∧ lastN w 0 = m := fun m w => by
    rw [hTd, testsN_mem R _ (fun x hx => by rw [List.length_replicate]; exact Nat.lt_succ_of_le (hle x hx)) m w]
    have : ¬ w ∈ (List.replicate (g + 1) ([] : List (List Int))).getD m [] := by
      rw [List.getD_eq_getElem?_getD, List.getElem?_replicate]
      split <;> simp
    exact ⟨fun h => h.resolve_left this, .inr⟩
  have h := growEv (by omega : n ≤ 8) hg T (fun m w hw => by
    have hm := (hTm m w).1 hw
    exact ⟨fun a ha => ⟨(hRw w hm.1 a ha).1, by have := lastN_mem w 0 a ha; omega, by have := lastN_mem w 0 a ha; omega⟩, hRl w hm.1⟩) (permsF n n [] []) hall vis vp hv g [] s (by simp) (by simp)
  have e : ((tup (permsF n n [] []) g).map (([] : List (List Int)) ++ ·)).filter (okT n T ([] : List (List Int)).length g) = (tup (permsF n n [] []) g).filter fun G => R.all fun w => trivB G w n 0 := by
    rw [show ((([] : List (List Int)) ++ ·) : List (List Int) → List (List Int)) = id from funext fun t => by simp, List.map_id]
    refine List.filter_congr fun G _ => ?_
    rw [Bool.eq_iff_iff, okT_iff, List.all_eq_true]
    constructor
    · exact fun h w hw => h (lastN w 0) (by simp) (by have := hle w hw; simpa using this) w ((hTm _ w).2 ⟨hw, rfl⟩)
    · exact fun h j _ _ w hw => h w ((hTm j w).1 hw).1
  rw [e] at h
  refine Evt.same h fun K => ?_
  unfold repsRun
  rw [if_pos hok, Int.toNat_natCast, Int.toNat_natCast, hTd]

/-- Is a list a word? -/
def letters (g : Int) (l : List Int) : Bool := l.all fun x => decide (x ≠ 0) && (decide (-g ≤ x) && decide (x ≤ g))
theorem letters_mem {g : Int} {w : List Int} (h : letters g w = true) : ∀ a ∈ w, a ≠ 0 ∧ -g ≤ a ∧ a ≤ g := by
  intro a ha
  have := List.all_eq_true.1 h a ha
  simpa using this

/-- One more letter behind a reduced word. -/
def redStep (out : List Int) (x : Int) : List Int :=
  if 0 < out.length ∧ rd out (((out.length - 1 : Nat) : Int)) = wrap64 (-x) then out.take (out.length - 1) else out ++ [x]
def redOf (l : List Int) : List Int := l.foldl redStep []
theorem redStep_length (out : List Int) (x : Int) : (redStep out x).length ≤ out.length + 1 := by
  unfold redStep
  split
  · simp; omega
  · simp
theorem foldl_length : ∀ (l out : List Int), (l.foldl redStep out).length ≤ out.length + l.length
  | [], out => by simp
  | x :: r, out => by
    have h1 := foldl_length r (redStep out x)
    have h2 := redStep_length out x
    simp only [List.foldl_cons, List.length_cons]
    omega
/-- No letter of l cancels the one before it, out being what stands before. -/
def chainB : List Int → List Int → Bool
  | _, [] => true
  | out, x :: r => !(decide (0 < out.length) && decide (rd out ((out.length - 1 : Nat) : Int) = wrap64 (-x))) && chainB (out ++ [x]) r
theorem chain_iff : ∀ (l out : List Int), ((l.foldl redStep out).length = out.length + l.length) ↔ chainB out l = true
  | [], out => by simp [chainB]
  | x :: r, out => by
    simp only [List.foldl_cons, List.length_cons, chainB]
    by_cases h : 0 < out.length ∧ rd out ((out.length - 1 : Nat) : Int) = wrap64 (-x)
    · have e : redStep out x = out.take (out.length - 1) := if_pos h
      have hb : (decide (0 < out.length) && decide (rd out ((out.length - 1 : Nat) : Int) = wrap64 (-x))) = true := by
        rw [decide_eq_true h.1, decide_eq_true h.2]
        rfl
      rw [hb, e]
      have := foldl_length r (out.take (out.length - 1))
      rw [List.length_take] at this
      simp
      omega
    · have e : redStep out x = out ++ [x] := if_neg h
      have hb : (decide (0 < out.length) && decide (rd out ((out.length - 1 : Nat) : Int) = wrap64 (-x))) = false := by
        by_cases h0 : 0 < out.length
        · rw [decide_eq_false fun h1 => h ⟨h0, h1⟩, Bool.and_false]
        · rw [decide_eq_false h0]
          rfl
      rw [hb, e]
      have ih := chain_iff r (out ++ [x])
      simp only [List.length_append, List.length_singleton] at ih
      simp only [Bool.not_false, Bool.true_and]
      rw [← ih]
      omega
/-- A reduced word with letters up to g. -/
def redB (g : Int) (x : List Int) : Bool := letters g x && decide (x.length ≤ 120) && chainB [] x

theorem neg_swap (a b : Int) (ha : (Lit.int .i64 a).wf = true) (hb : (Lit.int .i64 b).wf = true) : a = wrap64 (-b) ↔ b = wrap64 (-a) := by
  have h1 : -9223372036854775808 ≤ a ∧ a ≤ 9223372036854775807 := by simpa [Lit.wf, IntKind.min, IntKind.max, IntKind.signed, IntKind.bits] using ha
  have h2 : -9223372036854775808 ≤ b ∧ b ≤ 9223372036854775807 := by simpa [Lit.wf, IntKind.min, IntKind.max, IntKind.signed, IntKind.bits] using hb
  unfold wrap64
  omega
theorem rd_wf (l : List Int) (hw : ∀ x ∈ l, (Lit.int .i64 x).wf = true) (i : Nat) (h : i < l.length) : (Lit.int .i64 (rd l (i : Int))).wf = true := by
  rw [rd_nat l i h]
  exact hw _ (List.getElem_mem h)
theorem rd_take (l : List Int) (n i : Nat) (h : i < n) (hn : n ≤ l.length) : rd (l.take n) (i : Int) = rd l (i : Int) := by
  rw [rd_nat _ i (by simp; omega), rd_nat l i (by omega)]
  simp
theorem specLetters_l0 (l : List Int) (hw : ∀ x ∈ l, (Lit.int .i64 x).wf = true) (g : Int) (hg : 0 ≤ g) (hg1 : g ≤ 4611686018427387904) (hl : l.length ≤ 4611686018427387904) : ∀ (d i k : Nat), i + d = l.length → d < k →
    spec_l04Letters.l0 k l g (i : Int) = some (letters g (l.drop i) && decide (l.length ≤ 120) && chainB (l.take i) (l.drop i)) := by
  intro d
  induction d with
  | zero =>
    intro i k hd hk
    obtain ⟨k, rfl⟩ := succ_k hk
    simp only [spec_l04Letters.l0]
    rw [if_neg (by omega), List.drop_of_length_le (by omega)]
    simp [letters, chainB]
    omega
  | succ d ih =>
    intro i k hd hk
    obtain ⟨k, rfl⟩ := succ_k hk
    have hc : (l.take i) ++ [rd l (i : Int)] = l.take (i + 1) := by
      rw [List.take_succ_eq_append_getElem (by omega), rd_nat l i (by omega)]
    have hwi := rd_wf l hw i (by omega)
    simp only [spec_l04Letters.l0]
    rw [if_pos (by omega), if_pos (by omega), w64 (-g) (by omega) (by omega), w64 ((i : Int) + 1) (by omega) (by omega), cast_succ, ih (i + 1) k (by omega) (by omega), drop_rd l i (by omega)]
    simp only [chainB, hc]
    unfold spec_l01In.f
    have hlen : (l.take i).length = i := by simp; omega
    rw [hlen]
    have hl2 : letters g (rd l (i : Int) :: l.drop (i + 1)) = ((decide (rd l (i : Int) ≠ 0) && (decide (-g ≤ rd l (i : Int)) && decide (rd l (i : Int) ≤ g))) && letters g (l.drop (i + 1))) := rfl
    rw [hl2]
    by_cases h0 : rd l (i : Int) = 0
    · simp [h0]
    · rw [if_neg h0]
      by_cases h1 : -g ≤ rd l (i : Int) <;> by_cases h2 : rd l (i : Int) ≤ g
      · by_cases hi : 0 < i
        · have e1 : wrap64 ((i : Int) - 1) = ((i - 1 : Nat) : Int) := by rw [w64 _ (by omega) (by omega)]; omega
          have hwj := rd_wf l hw (i - 1) (by omega)
          have hn := neg_swap _ _ hwi hwj
          have hi1 : (0 : Int) ≤ ((i - 1 : Nat) : Int) := by omega
          have hi2 : ((i - 1 : Nat) : Int) < (l.length : Int) := by omega
          have hi3 : (i : Int) > 0 := by omega
          rw [e1, rd_take l i (i - 1) (by omega) (by omega)]
          generalize rd l (i : Int) = a at h0 h1 h2 hn
          generalize rd l ((i - 1 : Nat) : Int) = b at hn
          generalize ((i - 1 : Nat) : Int) = m at hi1 hi2
          by_cases h3 : b = wrap64 (-a)
          · have h4 : (a = wrap64 (-b)) = True := eq_true (hn.mpr h3)
            have h5 : (b = wrap64 (-a)) = True := eq_true h3
            clear h3 hn
            simp [h0, h1, h2, hi, h4, h5, hi1, hi2, hi3]
          · have h4 : (a = wrap64 (-b)) = False := eq_false fun e => h3 (hn.mp e)
            have h5 : (b = wrap64 (-a)) = False := eq_false h3
            clear h3 hn
            simp [h0, h1, h2, hi, h4, h5, hi1, hi2, hi3]
        · have hi0 : i = 0 := by omega
          subst hi0
          simp at h0 h1 h2
          simp [h0, h1, h2]
      · simp [h0, h1, h2]
      · simp [h0, h1, h2]
      · simp [h0, h1, h2]
theorem specLetters_eq (l : List Int) (hw : ∀ x ∈ l, (Lit.int .i64 x).wf = true) (g : Int) (hg : 0 ≤ g) (hg1 : g ≤ 4611686018427387904) (k : Nat) (hl : l.length ≤ 4611686018427387904) (hk : l.length < k) : spec_l04Letters.f k l g = some (redB g l) := by
  have := specLetters_l0 l hw g hg hg1 hl l.length 0 k (by omega) hk
  unfold spec_l04Letters.f redB
  simpa using this

def presB (g : Int) (l : List (List Int)) : Bool := decide (0 ≤ g) && decide (g ≤ 24) && decide (l.length ≤ 48) && l.all (redB g)
theorem specPres_l0 (g : Int) (hg : 0 ≤ g) (hg1 : g ≤ 24) (l : List (List Int)) (n : Nat) (hn : n ≤ 1048576) (hl : l.length ≤ 1048576) (hr : ∀ x ∈ l, x.length ≤ n) (hw : ∀ x ∈ l, ∀ y ∈ x, (Lit.int .i64 y).wf = true) : ∀ (d i k : Nat), i + d = l.length → d + n < k →
    spec_IsPresentation.l0 k (i : Int) g l = some ((l.drop i).all (redB g)) := by
  intro d
  induction d with
  | zero =>
    intro i k hd hk
    obtain ⟨k, rfl⟩ := succ_k hk
    simp only [spec_IsPresentation.l0]
    rw [if_neg (by omega), List.drop_of_length_le (by omega)]
    rfl
  | succ d ih =>
    intro i k hd hk
    obtain ⟨k, rfl⟩ := succ_k hk
    simp only [spec_IsPresentation.l0]
    have hm := rdL1_mem l i (by omega)
    have hlen := hr _ hm
    rw [if_pos (by omega), if_pos (by omega), specLetters_eq _ (hw _ hm) g hg (by omega) k (by omega) (by omega), w64 _ (by omega) (by omega), cast_succ, ih (i + 1) k (by omega) (by omega), drop_rdL1 l i (by omega), List.all_cons]
    simp only [Option.bind_some]
    by_cases h : redB g (rd_L1 l (i : Int)) = true
    · simp [h]
    · simp [h]
theorem specPres_eq (g : Int) (l : List (List Int)) (n k : Nat) (hn : n ≤ 1048576) (hl : l.length ≤ 1048576) (hr : ∀ x ∈ l, x.length ≤ n) (hw : ∀ x ∈ l, ∀ y ∈ x, (Lit.int .i64 y).wf = true) (hk : 2097200 < k) :
    spec_IsPresentation.f k g l = some (presB g l) := by
  obtain ⟨k, rfl⟩ := succ_k hk
  unfold spec_IsPresentation.f spec_l01In.f presB
  simp only [spec_IsPresentation.j0]
  by_cases h1 : 0 ≤ g
  · by_cases h2 : g ≤ 24
    · by_cases h3 : l.length ≤ 48
      · have := specPres_l0 g h1 h2 l n hn hl hr hw l.length 0 k (by omega) (by omega)
        have h3' : ¬ (l.length : Int) > 48 := by omega
        simp only [List.drop_zero] at this
        simp [h1, h2, h3, h3']
        exact this
      · have h3' : (l.length : Int) > 48 := by omega
        simp [h1, h2, h3, h3']
    · simp [h1, h2]
  · simp [h1]

theorem rels_in {g : Nat} {R : List (List Int)} (h : presB (g : Int) R = true) : R.length ≤ 48 ∧ ∀ w ∈ R, ∀ a ∈ w, a ≠ 0 ∧ -(g : Int) ≤ a ∧ a ≤ g := by
  unfold presB at h
  rw [Bool.and_eq_true, Bool.and_eq_true, Bool.and_eq_true] at h
  refine ⟨of_decide_eq_true h.1.2, fun w hw a ha => ?_⟩
  have h1 := List.all_eq_true.1 h.2 w hw
  unfold redB at h1
  rw [Bool.and_eq_true, Bool.and_eq_true] at h1
  exact letters_mem h1.1.1 a ha
theorem searchEv {n g : Nat} {x2 : Bool} (h1 : 1 ≤ n) (h4 : n ≤ 4) (hg : g ≤ 24) {R : List (List Int)} (hp : presB (g : Int) R = true) (hRl : ∀ x ∈ R, x.length ≤ 1048576) (hN : (permsF n n [] []).length ^ g ≤ 200000) (tB : List (List Int) → Bool)
    (hO : x2 = true → ∀ G, G.length = g → (∀ l ∈ G, PermN n l) → ∃ os, Evt (fun K => spec_l05Orbits.f K (n : Int) G) os ∧ ((os.length : Int) == 1) = tB G) :
    Evt (fun K => spec_l05Search.f K (g : Int) R (n : Int) x2) ((tup (permsF n n [] []) g).filter (keepT n R x2 tB)) := by
  obtain ⟨hR, hRw⟩ := rels_in hp
  obtain ⟨l1, l2⟩ := all_len h1 h4
  obtain ⟨L, hL⟩ : ∃ L, (permsF n n [] []).length = L + 1 := ⟨(permsF n n [] []).length - 1, by omega⟩
  have hz := restT_zero (permsF n n [] []) l1 g
  have h := search_l0 (n := n) (g := g) (x2 := x2) (all := permsF n n [] []) (R := R) (by omega) hL (by omega) hg (all_perm h1 h4) hRw hRl (by omega) tB hO _ (List.replicate g 0) [] rfl (by rw [hz, tup_len]; simp; omega) (List.length_replicate ..) (fun a ha => by rw [(List.mem_replicate.1 ha).2]; omega)
  rw [hz, List.nil_append] at h
  refine Evt.bind (all_ev h1 h4) (h := fun K t181 => if 0 ≤ (g : Int) then (if (g : Int).toNat ≤ 35184372088832 then (spec_l05Search.l0 K (n : Int) x2 t181 [] (List.replicate (g : Int).toNat 0) (g : Int) R) else none) else none) (Evt.same h fun K => ?_) fun _ => rfl
  rw [if_pos (Int.natCast_nonneg g), if_pos (by rw [Int.toNat_natCast]; omega), Int.toNat_natCast, show encN (List.replicate g 0) = List.replicate g (0 : Int) by simp [encN]]

theorem wf64 {x : Int} (h : (Lit.int .i64 x).wf = true) : -9223372036854775808 ≤ x ∧ x ≤ 9223372036854775807 := by
  simpa [Lit.wf, IntKind.min, IntKind.max, IntKind.signed, IntKind.bits] using h
theorem bad_iff (g x : Int) (hg : 0 ≤ g) (hg1 : g ≤ 4611686018427387904) (h : (Lit.int .i64 x).wf = true) : isWord_bad g x = !(decide (x ≠ 0) && (decide (-g ≤ x) && decide (x ≤ g))) := by
  have hx := wf64 h
  have e : (!(decide (x ≠ 0) && (decide (-g ≤ x) && decide (x ≤ g)))) = decide (x = 0 ∨ ¬ (-g ≤ x ∧ x ≤ g)) := by
    by_cases h0 : x = 0 <;> by_cases h1 : -g ≤ x <;> by_cases h2 : x ≤ g <;> simp [h0, h1, h2]
  rw [e]
  unfold isWord_bad abs64
  rw [w64 (-g) (by omega) (by omega)]
  have e2 : (x == 0 || (decide (g < if x < 0 then wrap64 (-x) else x) || decide (x < -g))) = decide (x = 0 ∨ (g < (if x < 0 then wrap64 (-x) else x) ∨ x < -g)) := by
    show (decide (x = 0) || _) = _
    simp [Bool.decide_or]
  rw [e2]
  apply decide_eq_decide.mpr
  by_cases hn : x < 0
  · rw [if_pos hn]
    by_cases hm : x = -9223372036854775808
    · subst hm
      have : wrap64 (-(-9223372036854775808)) = -9223372036854775808 := by unfold wrap64; omega
      rw [this]
      omega
    · rw [w64 (-x) (by omega) (by omega)]
      omega
  · rw [if_neg hn]
    omega
theorem any_bad (g : Int) (hg : 0 ≤ g) (hg1 : g ≤ 4611686018427387904) (l : List Int) (h : ∀ x ∈ l, (Lit.int .i64 x).wf = true) : (!(l.any (isWord_bad g))) = letters g l := by
  unfold letters
  induction l with
  | nil => rfl
  | cons x r ih =>
    rw [List.any_cons, List.all_cons, Bool.not_or, ih fun y hy => h y (List.mem_cons_of_mem _ hy), bad_iff g x hg hg1 (h x List.mem_cons_self)]
    simp
theorem implisWord_eq (g : Int) (hg : 0 ≤ g) (hg1 : g ≤ 4611686018427387904) (l : List Int) (h : ∀ x ∈ l, (Lit.int .i64 x).wf = true) : impl_isWord.f l g = some (letters g l && decide (l.length ≤ 120)) := by
  unfold impl_isWord.f
  rw [any_bad g hg hg1 l h, Bool.and_comm]

theorem implReduced_l0 (l : List Int) (hl : l.length ≤ 1099511627776) : ∀ (d i k : Nat) (out : List Int), i + d = l.length → out.length ≤ i → d < k →
    impl_reduced.l0 k out l (l.length : Int) (i : Int) = some ((l.drop i).foldl redStep out) := by
  intro d
  induction d with
  | zero =>
    intro i k out hd ho hk
    obtain ⟨k, rfl⟩ := succ_k hk
    simp only [impl_reduced.l0]
    rw [if_neg (by omega), List.drop_of_length_le (by omega)]
    rfl
  | succ d ih =>
    intro i k out hd ho hk
    obtain ⟨k, rfl⟩ := succ_k hk
    have hs := redStep_length out (rd l (i : Int))
    simp only [impl_reduced.l0]
    rw [if_pos (by omega), if_pos (by omega), if_pos (by omega), drop_rd l i (by omega), List.foldl_cons, w64 ((i : Int) + 1) (by omega) (by omega), cast_succ]
    by_cases h0 : 0 < out.length
    · have e1 : wrap64 ((out.length : Int) - 1) = ((out.length - 1 : Nat) : Int) := by rw [w64 _ (by omega) (by omega)]; omega
      rw [if_pos (by omega), e1, if_pos (by omega), if_pos (by omega)]
      by_cases h1 : rd out (((out.length - 1 : Nat) : Int)) = wrap64 (-(rd l (i : Int)))
      · have e2 : redStep out (rd l (i : Int)) = out.take (out.length - 1) := if_pos ⟨h0, h1⟩
        rw [if_pos h1, if_pos (by omega), Int.toNat_natCast, e2, ih (i + 1) k _ (by omega) (by simp; omega) (by omega)]
      · have e2 : redStep out (rd l (i : Int)) = out ++ [rd l (i : Int)] := if_neg fun h => h1 h.2
        rw [if_neg h1, if_pos (by omega), e2, ih (i + 1) k _ (by omega) (by simp; omega) (by omega)]
    · have e2 : redStep out (rd l (i : Int)) = out ++ [rd l (i : Int)] := if_neg fun h => h0 h.1
      rw [if_neg (by omega), if_pos (by omega), e2, ih (i + 1) k _ (by omega) (by simp; omega) (by omega)]
theorem implReduced_eq (l : List Int) (k : Nat) (hl : l.length ≤ 1099511627776) (hk : l.length < k) : impl_reduced.f k l = some (redOf l) := by
  have := implReduced_l0 l hl l.length 0 k [] (by omega) (by simp) hk
  unfold impl_reduced.f redOf
  simpa using this

theorem implisReduced_eq (g : Int) (hg : 0 ≤ g) (hg1 : g ≤ 4611686018427387904) (x : List Int) (k : Nat) (h : ∀ y ∈ x, (Lit.int .i64 y).wf = true) (hx : x.length ≤ 1099511627776) (hk : x.length < k) :
    impl_isReduced.f k x g = some (redB g x) := by
  unfold impl_isReduced.f redB
  rw [implisWord_eq g hg hg1 x h]
  simp only [Option.bind_some]
  by_cases hw : (letters g x && decide (x.length ≤ 120)) = true
  · rw [if_pos hw, hw, implReduced_eq x k hx hk]
    simp only [Option.bind_some, Bool.true_and]
    have := chain_iff x []
    simp only [List.length_nil, Nat.zero_add] at this
    congr 1
    rw [Bool.eq_iff_iff, ← this]
    simp [redOf]
    omega
  · rw [if_neg hw]
    have : (letters g x && decide (x.length ≤ 120)) = false := by simpa using hw
    rw [this]
    rfl

theorem anyO_all (g : Int) (hg : 0 ≤ g) (hg1 : g ≤ 24) (n k : Nat) (hn : n ≤ 1048576) (hk : n < k) : ∀ (l : List (List Int)), (∀ x ∈ l, x.length ≤ n) → (∀ x ∈ l, ∀ y ∈ x, (Lit.int .i64 y).wf = true) → anyO (impl_isPresentation.q k g) l = some (!(l.all (redB g)))
  | [], _, _ => rfl
  | x :: t, hr, hw => by
    simp only [anyO, impl_isPresentation.q]
    have hx := hr x List.mem_cons_self
    rw [implisReduced_eq g hg (by omega) x k (hw x List.mem_cons_self) (by omega) (by omega)]
    simp only [Option.bind_some]
    rw [anyO_all g hg hg1 n k hn hk t (fun y hy => hr y (List.mem_cons_of_mem _ hy)) (fun y hy => hw y (List.mem_cons_of_mem _ hy))]
    by_cases h : redB g x = true
    · simp [h]
    · simp [h]
theorem implisPres_eq (g : Int) (l : List (List Int)) (n k : Nat) (hn : n ≤ 1048576) (hr : ∀ x ∈ l, x.length ≤ n) (hw : ∀ x ∈ l, ∀ y ∈ x, (Lit.int .i64 y).wf = true) (hk : n < k) :
    impl_isPresentation.f k g l = some (presB g l) := by
  unfold impl_isPresentation.f presB
  by_cases h1 : 0 ≤ g ∧ g ≤ 24
  · rw [if_pos h1]
    by_cases h3 : l.length ≤ 48
    · rw [if_pos h3, anyO_all g h1.1 h1.2 n k hn hk l hr hw]
      simp [h1.1, h1.2, h3]
    · rw [if_neg h3]
      simp [h3]
  · rw [if_neg h1]
    by_cases h0 : 0 ≤ g <;> by_cases h4 : g ≤ 24 <;> simp [h0, h4]
    exact absurd ⟨h0, h4⟩ h1

def codeTab (g n : Nat) : Bool := decide (impl_searchCode.l0 100 (n : Int) 1 (g : Int) 0 = spec_l05Code.l0 100 (n : Int) 200000 0 (g : Int) []) && (spec_l05Code.l0 100 (n : Int) 200000 0 (g : Int) []).isSome && (!decide (spec_l05Code.l0 100 (n : Int) 200000 0 (g : Int) [] = some 0) || decide ((permsF n n [] []).length ^ g ≤ 200000))
theorem codeTab_ok : ((List.range 25).all fun g => (List.range 4).all fun m => codeTab g (m + 1)) = true := by decide +kernel
theorem codeTab_at {g n : Nat} (hg : g ≤ 24) (h1 : 1 ≤ n) (h4 : n ≤ 4) : codeTab g n = true := by
  have := List.all_eq_true.1 (List.all_eq_true.1 codeTab_ok g (List.mem_range.2 (by omega))) (n - 1) (List.mem_range.2 (by omega))
  rwa [show n - 1 + 1 = n by omega] at this
theorem code_rels (n g : Int) (R R' : List (List Int)) : ∀ (k : Nat) (x5 x6 : Int), spec_l05Code.l0 k n x5 x6 g R = spec_l05Code.l0 k n x5 x6 g R'
  | 0, _, _ => by rw [spec_l05Code.l0, spec_l05Code.l0]
  | k + 1, x5, x6 => by
    rw [spec_l05Code.l0, spec_l05Code.l0]
    simp only [code_rels n g R R' k]
theorem codeTab_codes {g n : Nat} (hg : g ≤ 24) (h1 : 1 ≤ n) (h4 : n ≤ 4) (R : List (List Int)) : ∃ c, Evt (fun K => impl_searchCode.l0 K (n : Int) 1 (g : Int) 0) c ∧ Evt (fun K => spec_l05Code.l0 K (n : Int) 200000 0 (g : Int) R) c ∧ (c = 0 → (permsF n n [] []).length ^ g ≤ 200000) := by
  have h := codeTab_at hg h1 h4
  unfold codeTab at h
  rw [Bool.and_eq_true, Bool.and_eq_true] at h
  obtain ⟨⟨e1, e2⟩, e3⟩ := h
  have e1 := of_decide_eq_true e1
  obtain ⟨c, hc⟩ := Option.isSome_iff_exists.1 e2
  rw [hc] at e1 e3
  rw [code_rels _ _ [] R] at hc
  refine ⟨c, ⟨100, fun K hK => at_rounds (g := fun K => impl_searchCode.l0 K (n : Int) 1 (g : Int) 0) (fun k => impl_searchCode.mono_l k _ _ _ _) hK e1⟩, ⟨100, fun K hK => at_rounds (g := fun K => spec_l05Code.l0 K (n : Int) 200000 0 (g : Int) R) (fun k => spec_l05Code.mono_l k _ _ _ _ _) hK hc⟩, fun h0 => ?_⟩
  subst h0
  rw [decide_eq_true rfl] at e3
  simpa using e3
/-- Both codes are one; where it is 0 the arguments are good. -/
theorem code_both (a0 a1 : Int) (R : List (List Int)) (hR : R.length ≤ 1048576) (hRl : ∀ w ∈ R, w.length ≤ 1048576) (hRw : ∀ w ∈ R, ∀ y ∈ w, (Lit.int .i64 y).wf = true) :
    ∃ c, Evt (fun K => impl_searchCode.f K a0 R a1) c ∧ Evt (fun K => spec_l05Code.f K a0 R a1) c ∧ (c = 0 → presB a0 R = true ∧ ∃ g n : Nat, a0 = g ∧ a1 = n ∧ g ≤ 24 ∧ 1 ≤ n ∧ n ≤ 4 ∧ (permsF n n [] []).length ^ g ≤ 200000) := by
  have p1 : Evt (fun K => spec_IsPresentation.f K a0 R) (presB a0 R) := ⟨2097201, fun K hK => specPres_eq a0 R 1048576 K (Nat.le_refl _) hR hRl hRw (by omega)⟩
  have p2 : Evt (fun K => impl_isPresentation.f K a0 R) (presB a0 R) := ⟨1048577, fun K hK => implisPres_eq a0 R 1048576 K (Nat.le_refl _) hRl hRw (by omega)⟩
  have i1 : spec_l01In.f a1 1 4 = some (decide (1 ≤ a1 ∧ a1 ≤ 4)) := by
    unfold spec_l01In.f
    by_cases c : a1 ≥ 1
    · rw [if_pos c, Option.some.injEq, decide_eq_decide]
      omega
    · rw [if_neg c, decide_eq_false (by omega)]
  have i2 : impl_inRange.f a1 1 4 = some (decide (1 ≤ a1 ∧ a1 ≤ 4)) := by
    unfold impl_inRange.f
    by_cases c : 1 ≤ a1
    · rw [if_pos c, Option.some.injEq, decide_eq_decide]
      omega
    · rw [if_neg c, decide_eq_false (by omega)]
  by_cases c1 : presB a0 R = true
  · rw [c1] at p1 p2
    by_cases c2 : 1 ≤ a1 ∧ a1 ≤ 4
    · rw [decide_eq_true c2] at i1 i2
      have hp := c1
      unfold presB at hp
      rw [Bool.and_eq_true, Bool.and_eq_true, Bool.and_eq_true] at hp
      have hp1 := of_decide_eq_true hp.1.1.1
      have hp2 := of_decide_eq_true hp.1.1.2
      obtain ⟨g, rfl⟩ : ∃ g : Nat, a0 = g := ⟨a0.toNat, by omega⟩
      obtain ⟨n, rfl⟩ : ∃ n : Nat, a1 = n := ⟨a1.toNat, by omega⟩
      obtain ⟨c, h1, h2, h3⟩ := codeTab_codes (g := g) (n := n) (by omega) (by omega) (by omega) R
      refine ⟨c, ?_, ?_, fun h0 => ⟨c1, g, n, rfl, rfl, by omega, by omega, by omega, h3 h0⟩⟩
      · refine Evt.bind p2 (h := fun K t => if t = true then ((impl_inRange.f (n : Int) 1 4).bind fun t252 => (if t252 = true then (impl_searchCode.l0 K (n : Int) 1 (g : Int) 0) else (some 2))) else (some 1)) (Evt.same h1 fun K => ?_) fun _ => rfl
        rw [if_pos rfl, i2, Option.bind_some, if_pos rfl]
      · refine Evt.bind p1 (h := fun K t => if t = true then ((spec_l01In.f (n : Int) 1 4).bind fun t252 => (if t252 = true then (spec_l05Code.l0 K (n : Int) 200000 0 (g : Int) R) else (some 2))) else (some 1)) (Evt.same h2 fun K => ?_) fun _ => rfl
        rw [if_pos rfl, i1, Option.bind_some, if_pos rfl]
    · rw [decide_eq_false c2] at i1 i2
      refine ⟨2, ?_, ?_, fun h => absurd h (by decide)⟩
      · refine Evt.bind p2 (h := fun K t => if t = true then ((impl_inRange.f a1 1 4).bind fun t252 => (if t252 = true then (impl_searchCode.l0 K a1 1 a0 0) else (some 2))) else (some 1)) (Evt.const fun K => ?_) fun _ => rfl
        rw [if_pos rfl, i2, Option.bind_some, if_neg (by simp)]
      · refine Evt.bind p1 (h := fun K t => if t = true then ((spec_l01In.f a1 1 4).bind fun t252 => (if t252 = true then (spec_l05Code.l0 K a1 200000 0 a0 R) else (some 2))) else (some 1)) (Evt.const fun K => ?_) fun _ => rfl
        rw [if_pos rfl, i1, Option.bind_some, if_neg (by simp)]
  · rw [Bool.not_eq_true] at c1
    rw [c1] at p1 p2
    refine ⟨1, ?_, ?_, fun h => absurd h (by decide)⟩
    · exact Evt.bind p2 (h := fun K t => if t = true then ((impl_inRange.f a1 1 4).bind fun t252 => (if t252 = true then (impl_searchCode.l0 K a1 1 a0 0) else (some 2))) else (some 1)) (Evt.const fun K => if_neg (by simp)) fun _ => rfl
    · exact Evt.bind p1 (h := fun K t => if t = true then ((spec_l01In.f a1 1 4).bind fun t252 => (if t252 = true then (spec_l05Code.l0 K a1 200000 0 a0 R) else (some 2))) else (some 1)) (Evt.const fun K => if_neg (by simp)) fun _ => rfl

theorem visP_count (vp : List (List Int) → Int → Bool × Int) (p : List (List Int) → Bool) : ∀ (L : List (List (List Int))) (s : Nat), s + L.length ≤ 1000000 → (∀ G ∈ L, ∀ s : Nat, s ≤ 1000000 → vp G (s : Int) = (true, if p G = true then wrap64 ((s : Int) + 1) else (s : Int))) → visP vp L (s : Int) = (true, ((s + (L.filter p).length : Nat) : Int))
  | [], s, _, _ => by simp [visP]
  | G :: L, s, hs, h => by
    rw [List.length_cons] at hs
    have hG := h G List.mem_cons_self s (by omega)
    have hL : ∀ G ∈ L, ∀ s : Nat, s ≤ 1000000 → vp G (s : Int) = (true, if p G = true then wrap64 ((s : Int) + 1) else (s : Int)) := fun x hx => h x (List.mem_cons_of_mem _ hx)
    rw [visP, hG, if_pos rfl, List.filter_cons]
    by_cases c : p G = true
    · have e : wrap64 ((s : Int) + 1) = ((s + 1 : Nat) : Int) := w64n (s + 1) (by omega)
      rw [if_pos c, if_pos c, e, visP_count vp p L (s + 1) (by omega) hL, List.length_cons]
      congr 2
      omega
    · rw [if_neg c, if_neg c]
      exact visP_count vp p L s (by omega) hL

theorem rdSet (l : List Int) (p q : Nat) (h : p < l.length) (v : Int) : rd (l.set p v) (q : Int) = if q = p then v else rd l (q : Int) := by
  unfold rd
  rw [Int.toNat_natCast, List.getD_eq_getElem?_getD, List.getD_eq_getElem?_getD]
  by_cases e : p = q
  · subst e
    rw [if_pos rfl, List.getElem?_set_self h]
    rfl
  · rw [if_neg (Ne.symm e), List.getElem?_set_ne e]
/-- The first entries stand in order. -/
def SortedTo (i : Nat) (x : List Int) : Prop := ∀ a b : Nat, a < b → b < i → rd x (a : Int) ≤ rd x (b : Int)
theorem less_eq (a b : Int) : cmp_Less_int64.f a b = some (decide (a < b)) := by
  unfold cmp_Less_int64.f cmp_isNaN_int64.f
  simp
theorem sort_l1 (L i : Nat) (hL : L ≤ 1000) (hi : i < L) (Q : List Int → Prop) : ∀ (j : Nat) (x : List Int), j ≤ i → x.length = L → (∀ a b : Nat, a < b → b ≤ i → b ≠ j → rd x (a : Int) ≤ rd x (b : Int)) →
    (∀ x' : List Int, x'.Perm x → SortedTo (i + 1) x' → ∃ r, Evt (fun K => slices_insertionSortOrdered_int64.l0 K x' 0 (L : Int) ((i + 1 : Nat) : Int)) r ∧ Q r) →
    ∃ r, Evt (fun K => slices_insertionSortOrdered_int64.l1 K x 0 (L : Int) (i : Int) (j : Int)) r ∧ Q r
  | 0, x, hj, hx, hs, hk => by
    obtain ⟨r, h1, h2⟩ := hk x (List.Perm.refl _) (fun a b hab hb => hs a b hab (by omega) (by omega))
    have e2 : wrap64 ((i : Int) + 1) = ((i + 1 : Nat) : Int) := w64n (i + 1) (by omega)
    refine ⟨r, Evt.step h1 fun K => ?_, h2⟩
    rw [slices_insertionSortOrdered_int64.l1, if_neg (by simp), e2]
  | j + 1, x, hj, hx, hs, hk => by
    have e2 : wrap64 ((i : Int) + 1) = ((i + 1 : Nat) : Int) := w64n (i + 1) (by omega)
    have e1 : wrap64 (((j + 1 : Nat) : Int) - 1) = (j : Int) := by rw [show ((j + 1 : Nat) : Int) - 1 = (j : Int) by omega]; exact w64n j (by omega)
    have hf : ∀ K, slices_insertionSortOrdered_int64.l1 (K + 1) x 0 (L : Int) (i : Int) ((j + 1 : Nat) : Int) = (if rd x ((j + 1 : Nat) : Int) < rd x (j : Int) then slices_insertionSortOrdered_int64.l1 K ((x.set (j + 1) (rd x (j : Int))).set j (rd x ((j + 1 : Nat) : Int))) 0 (L : Int) (i : Int) (j : Int) else slices_insertionSortOrdered_int64.l0 K x 0 (L : Int) ((i + 1 : Nat) : Int)) := by
      intro K
      rw [slices_insertionSortOrdered_int64.l1, if_pos (by omega), if_pos (by omega), if_pos (by omega), e1, if_pos (by omega), if_pos (by omega), less_eq, Option.bind_some, e2, Int.toNat_natCast, Int.toNat_natCast]
      by_cases c : rd x ((j + 1 : Nat) : Int) < rd x (j : Int)
      · rw [if_pos c, if_pos (decide_eq_true c)]
      · rw [if_neg c, if_neg (by simpa using c)]
    by_cases c : rd x ((j + 1 : Nat) : Int) < rd x (j : Int)
    · have hp : ((x.set (j + 1) (rd x (j : Int))).set j (rd x ((j + 1 : Nat) : Int))).Perm x := by
        rw [rd_nat x j (by omega), rd_nat x (j + 1) (by omega)]
        exact List.set_set_perm (by omega) (by omega)
      have hv : ∀ q : Nat, rd ((x.set (j + 1) (rd x (j : Int))).set j (rd x ((j + 1 : Nat) : Int))) (q : Int) = if q = j then rd x ((j + 1 : Nat) : Int) else if q = j + 1 then rd x (j : Int) else rd x (q : Int) := by
        intro q
        rw [rdSet _ j q (by simp; omega), rdSet x (j + 1) q (by omega)]
      obtain ⟨r, h1, h2⟩ := sort_l1 L i hL hi Q j _ (by omega) (by simp [hx]) (fun a b hab hb hne => by
        rw [hv a, hv b, if_neg hne]
        by_cases b1 : b = j + 1
        · rw [if_pos b1]
          by_cases a1 : a = j
          · rw [if_pos a1]
            omega
          · rw [if_neg a1, if_neg (by omega)]
            exact hs a j (by omega) (by omega) (by omega)
        · rw [if_neg b1]
          have h3 := hs a b hab hb b1
          by_cases a1 : a = j
          · rw [if_pos a1]
            exact hs (j + 1) b (by omega) hb b1
          · rw [if_neg a1]
            by_cases a2 : a = j + 1
            · rw [if_pos a2]
              exact hs j b (by omega) hb b1
            · rw [if_neg a2]
              exact h3) (fun x' hx' hs' => hk x' (hx'.trans hp) hs')
      exact ⟨r, Evt.step h1 fun K => by rw [hf, if_pos c], h2⟩
    · obtain ⟨r, h1, h2⟩ := hk x (List.Perm.refl _) (fun a b hab hb => by
        by_cases b1 : b = j + 1
        · subst b1
          by_cases a1 : a = j
          · subst a1
            omega
          · have := hs a j (by omega) (by omega) (by omega)
            omega
        · exact hs a b hab (by omega) b1)
      exact ⟨r, Evt.step h1 fun K => by rw [hf, if_neg c], h2⟩
theorem sort_l0 (L : Nat) (hL : L ≤ 1000) : ∀ (d i : Nat) (x : List Int), i + d = L → x.length = L → SortedTo i x →
    ∃ r, Evt (fun K => slices_insertionSortOrdered_int64.l0 K x 0 (L : Int) (i : Int)) r ∧ r.Perm x ∧ SortedTo L r
  | 0, i, x, hd, hx, hs => by
    refine ⟨x, Evt.now fun K => ?_, List.Perm.refl _, by rw [← hd]; exact hs⟩
    rw [slices_insertionSortOrdered_int64.l0, if_neg (by omega)]
  | d + 1, i, x, hd, hx, hs => by
    obtain ⟨r, h1, h2⟩ := sort_l1 L i hL (by omega) (fun r => r.Perm x ∧ SortedTo L r) i x (Nat.le_refl _) hx (fun a b hab hb hne => hs a b hab (by omega)) (fun x' hp hs' => by
      obtain ⟨r, g1, g2, g3⟩ := sort_l0 L hL d (i + 1) x' (by omega) (by rw [hp.length_eq, hx]) hs'
      exact ⟨r, g1, g2.trans hp, g3⟩)
    refine ⟨r, Evt.step h1 fun K => ?_, h2⟩
    rw [slices_insertionSortOrdered_int64.l0, if_pos (by omega)]
theorem sort_ev (l : List Int) (hl : l.length ≤ 12) : ∃ r, Evt (fun K => slices_Sort_int64_int64.f K l) r ∧ r.Perm l ∧ SortedTo l.length r := by
  have e01 : wrap64 (0 + 1) = ((1 : Nat) : Int) := w64n 1 (by omega)
  by_cases c : l.length = 0
  · refine ⟨l, Evt.now fun K => ?_, List.Perm.refl _, fun a b _ hb => by omega⟩
    unfold slices_Sort_int64_int64.f slices_insertionSortOrdered_int64.f
    rw [if_pos hl, slices_insertionSortOrdered_int64.l0, if_neg (by rw [c, e01]; omega)]
  · obtain ⟨r, h1, h2⟩ := sort_l0 l.length (by omega) (l.length - 1) 1 l (by omega) rfl (fun a b h1 h2 => by omega)
    refine ⟨r, Evt.same h1 fun K => ?_, h2⟩
    unfold slices_Sort_int64_int64.f slices_insertionSortOrdered_int64.f
    rw [if_pos hl, e01]

/-- The images of a point. -/
def candI (G : List (List Int)) (y : Int) : List Int := G.map fun g => rd g y
theorem candI_in {n : Nat} {G : List (List Int)} (hG : ∀ g ∈ G, PermN n g) (y : Int) (h0 : 0 ≤ y) (h1 : y < n) : InN n (candI G y) := by
  intro x hx
  obtain ⟨g, hg, rfl⟩ := List.mem_map.1 hx
  exact (hG g hg).at h0 h1
theorem orb_l2 {n : Nat} (hn : n ≤ 8) {G : List (List Int)} (hG : ∀ g ∈ G, PermN n g) (hl : G.length ≤ 1048576) (out : List (List Int)) (o : List Int) (X x : Int) (i : Nat) (y : Int) (h0 : 0 ≤ y) (h1 : y < n) (r : List (List Int)) :
    ∀ (d j : Nat) (q : List Int), j + d = G.length → i < q.length → rd q (i : Int) = y → Good n o q →
      Evt (fun K => impl_orbits.l1 K G out (mkB n (o ++ ((G.drop j).map fun g => rd g y).foldl (pushO o) q)) (((G.drop j).map fun g => rd g y).foldl (pushO o) q) ((i + 1 : Nat) : Int) X x) r →
      Evt (fun K => impl_orbits.l2 K G out (mkB n (o ++ q)) q (i : Int) X x G (G.length : Int) (j : Int)) r
  | 0, j, q, hd, hi, hy, hg, h => by
    rw [List.drop_of_length_le (by omega)] at h
    refine Evt.step h fun K => ?_
    have hq := hg.len
    have ei : wrap64 ((i : Int) + 1) = ((i + 1 : Nat) : Int) := w64n (i + 1) (by omega)
    rw [impl_orbits.l2, if_neg (by omega), ei]
    rfl
  | d + 1, j, q, hd, hi, hy, hg, h => by
    have hq := hg.len
    have hj : j < G.length := by omega
    have hd2 : (j + 1) + d = G.length := by omega
    have ej : wrap64 ((j : Int) + 1) = ((j + 1 : Nat) : Int) := w64n (j + 1) (by omega)
    have f1 : (j : Int) < (G.length : Int) := Int.ofNat_lt.2 hj
    have f2 : (0 : Int) ≤ (j : Int) := Int.natCast_nonneg j
    have f3 : (0 : Int) ≤ (i : Int) := Int.natCast_nonneg i
    have f4 : (i : Int) < (q.length : Int) := Int.ofNat_lt.2 hi
    have f7 : q.length < 17592186044416 := Nat.lt_of_le_of_lt (Nat.le_trans hq hn) (by decide)
    have hm := rdL1_mem G j hj
    obtain ⟨g, hge⟩ : ∃ g, g = rd_L1 G (j : Int) := ⟨_, rfl⟩
    rw [drop_rdL1 G j hj, ← hge, List.map_cons, List.foldl_cons] at h
    rw [← hge] at hm
    have hp := hG g hm
    have hc := hp.at h0 h1
    have f5 : y < (g.length : Int) := by rw [hp.1]; exact h1
    obtain ⟨c, hce⟩ : ∃ c, c = rd g y := ⟨_, rfl⟩
    rw [← hce] at h hc
    have f6 : c < ((mkB n (o ++ q)).length : Int) := by rw [mkB_length]; exact hc.2
    obtain ⟨t, ht⟩ := pushO_pre o q c
    have hi2 : i < (pushO o q c).length := by rw [ht, List.length_append]; exact Nat.lt_of_lt_of_le hi (Nat.le_add_right _ _)
    have ih := orb_l2 hn hG hl out o X x i y h0 h1 r d (j + 1) (pushO o q c) hd2 hi2 (by rw [ht, rd_pre q t i hi, hy]) (hg.push hc.1 hc.2) h
    refine Evt.step ih fun K => ?_
    clear ih h
    rw [impl_orbits.l2, if_pos f1, if_pos f2, if_pos f1, if_pos f3, if_pos f4, hy, ← hge, if_pos h0, if_pos f5, ← hce, if_pos hc.1, if_pos f6, rdB n _ c hc.1 hc.2, ej]
    by_cases e : c ∈ o ++ q
    · have e1 : pushO o q c = q := if_pos e
      rw [e1, if_pos (decide_eq_true e)]
    · have e1 : pushO o q c = q ++ [c] := if_neg e
      rw [e1, if_neg (by simpa using e), if_pos f7, mkB_set n _ c hc.1, List.append_assoc]
theorem orb_l1 {n : Nat} (hn : n ≤ 8) {G : List (List Int)} (hG : ∀ g ∈ G, PermN n g) (hl : G.length ≤ 1048576) (out : List (List Int)) (o : List Int) (X x : Int) (r : List (List Int)) :
    ∀ (d i : Nat) (q : List Int), Good n o q → i ≤ q.length → n < d + i →
      Evt (fun K => (slices_Sort_int64_int64.f K (bfsO o (candI G) d i q)).bind fun t => if out.length < 5864062014805 then impl_orbits.l0 K G (out ++ [t]) (mkB n (o ++ bfsO o (candI G) d i q)) X (wrap64 (x + 1)) else none) r →
      Evt (fun K => impl_orbits.l1 K G out (mkB n (o ++ q)) q (i : Int) X x) r
  | 0, i, q, hg, hi, hd, _ => by
    have := hg.len
    omega
  | d + 1, i, q, hg, hi, hd, h => by
    unfold bfsO at h
    by_cases c : i < q.length
    · rw [if_pos c] at h
      have hy := hg.right.2 _ (rd_in q (i : Int) (by omega) (by omega))
      obtain ⟨g1, ⟨t, g2⟩, g3, g4⟩ := foldO (n := n) (o := o) (candI G (rd q (i : Int))) q hg (candI_in hG _ hy.1 hy.2)
      have ih := orb_l1 hn hG hl out o X x r d (i + 1) _ g1 (by rw [g2]; simp; omega) (by omega) h
      have h2 := orb_l2 hn hG hl out o X x i (rd q (i : Int)) hy.1 hy.2 r G.length 0 q (by omega) c rfl hg ih
      refine Evt.step h2 fun K => ?_
      rw [impl_orbits.l1, if_pos (by omega)]
      rfl
    · rw [if_neg c] at h
      refine Evt.step h fun K => ?_
      rw [impl_orbits.l1, if_neg (by omega)]
/-- The orbits that are found from x on, each in the order in which it was found. -/
def orbL (n : Nat) (G : List (List Int)) : Nat → Nat → List Int → List (List Int)
  | 0, _, _ => []
  | d + 1, x, o => if (x : Int) ∈ o then orbL n G d (x + 1) o else bfsO o (candI G) (n + 1) 0 [(x : Int)] :: orbL n G d (x + 1) (o ++ bfsO o (candI G) (n + 1) 0 [(x : Int)])
/-- The same lists, each sorted. -/
def Like : List (List Int) → List (List Int) → Prop
  | [], [] => True
  | a :: s, b :: t => (a.Perm b ∧ SortedTo b.length a) ∧ Like s t
  | _, _ => False
theorem Like.len : ∀ {s t : List (List Int)}, Like s t → s.length = t.length
  | [], [], _ => rfl
  | _ :: s, _ :: t, h => by rw [List.length_cons, List.length_cons, Like.len h.2]
  | [], _ :: _, h => h.elim
  | _ :: _, [], h => h.elim
theorem good_one {n : Nat} {o : List Int} (hg : Good n o []) {x : Int} (h0 : 0 ≤ x) (h1 : x < n) (c : x ∉ o) : Good n o [x] := by
  have := hg.push (c := x) h0 h1
  unfold pushO at this
  rw [List.append_nil, if_neg c] at this
  exact this
theorem orb_l0 {n : Nat} (hn : n ≤ 8) {G : List (List Int)} (hG : ∀ g ∈ G, PermN n g) (hl : G.length ≤ 1048576) :
    ∀ (d x : Nat) (o : List Int) (out : List (List Int)), x + d = n → Good n o [] → out.length ≤ x →
      ∃ more, Evt (fun K => impl_orbits.l0 K G out (mkB n o) (n : Int) (x : Int)) (out ++ more) ∧ Like more (orbL n G d x o)
  | 0, x, o, out, hd, hg, ho => by
    refine ⟨[], Evt.now fun K => ?_, trivial⟩
    rw [impl_orbits.l0, if_neg (by omega), List.append_nil]
  | d + 1, x, o, out, hd, hg, ho => by
    have hxn : (x : Int) < (n : Int) := by omega
    have ho2 : out.length < 5864062014805 := Nat.lt_of_le_of_lt (show out.length ≤ 8 by omega) (by decide)
    have ex : wrap64 ((x : Int) + 1) = ((x + 1 : Nat) : Int) := w64n (x + 1) (by omega)
    have hf : ∀ K, impl_orbits.l0 (K + 1) G out (mkB n o) (n : Int) (x : Int) = (if (x : Int) ∈ o then impl_orbits.l0 K G out (mkB n o) (n : Int) ((x + 1 : Nat) : Int) else impl_orbits.l1 K G out (mkB n (o ++ [(x : Int)])) [(x : Int)] 0 (n : Int) (x : Int)) := by
      intro K
      rw [impl_orbits.l0, if_pos hxn, if_pos (Int.natCast_nonneg x), if_pos (by rw [mkB_length]; exact hxn), rdB n o (x : Int) (Int.natCast_nonneg x) hxn, ex, mkB_set n o (x : Int) (Int.natCast_nonneg x)]
      by_cases c : (x : Int) ∈ o
      · rw [if_pos c, if_pos (decide_eq_true c)]
      · rw [if_neg c, if_neg (by simpa using c)]
    have hd2 : x + 1 + d = n := by omega
    unfold orbL
    by_cases c : (x : Int) ∈ o
    · obtain ⟨more, h1, h2⟩ := orb_l0 hn hG hl d (x + 1) o out hd2 hg (Nat.le_succ_of_le ho)
      rw [if_pos c]
      exact ⟨more, Evt.step h1 fun K => by rw [hf, if_pos c], h2⟩
    · have hg1 := good_one hg (Int.natCast_nonneg x) hxn c
      obtain ⟨g1, g2, _, _⟩ := bfsO_facts (n := n) (o := o) (cand := candI G) (fun y h0 h1 => candI_in hG y h0 h1) (n + 1) 0 [(x : Int)] hg1 (Nat.zero_le _) (by clear ex hf; omega) (fun j hj => absurd hj (Nat.not_lt_zero j))
      obtain ⟨s, s1, s2, s3⟩ := sort_ev (bfsO o (candI G) (n + 1) 0 [(x : Int)]) (Nat.le_trans g1.len (Nat.le_trans hn (by decide)))
      obtain ⟨more, h1, h2⟩ := orb_l0 hn hG hl d (x + 1) (o ++ bfsO o (candI G) (n + 1) 0 [(x : Int)]) (out ++ [s]) hd2 (by unfold Good; rw [List.append_nil]; exact g1) (by rw [List.length_append]; exact Nat.succ_le_succ ho)
      rw [if_neg c]
      refine ⟨s :: more, ?_, ⟨s2, s3⟩, h2⟩
      have h3 := orb_l1 hn hG hl out o (n : Int) (x : Int) (out ++ s :: more) (n + 1) 0 [(x : Int)] hg1 (Nat.zero_le _) (by clear ex hf; omega) (Evt.bind s1 (h := fun K t => if out.length < 5864062014805 then impl_orbits.l0 K G (out ++ [t]) (mkB n (o ++ bfsO o (candI G) (n + 1) 0 [(x : Int)])) (n : Int) (wrap64 ((x : Int) + 1)) else none) (by
        rw [List.append_assoc, List.singleton_append] at h1
        exact Evt.same h1 fun K => by rw [if_pos ho2, ex]) fun _ => rfl)
      exact Evt.step h3 fun K => by rw [hf, if_neg c]; rfl
theorem orbits_ev {n : Nat} (hn : n ≤ 8) {G : List (List Int)} (hG : ∀ g ∈ G, PermN n g) (hl : G.length ≤ 1048576) : ∃ r, Evt (fun K => impl_orbits.f K (n : Int) G) r ∧ Like r (orbL n G n 0 []) := by
  obtain ⟨r, h1, h2⟩ := orb_l0 hn hG hl n 0 [] [] (by omega) ⟨by simp, fun x hx => absurd hx (by simp)⟩ (Nat.le_refl _)
  refine ⟨r, Evt.same h1 fun K => ?_, h2⟩
  unfold impl_orbits.f
  rw [if_pos (Int.natCast_nonneg n), Int.toNat_natCast, if_pos (Nat.le_trans hn (by decide)), mkB_nil]
  rfl

/-- All labels of one kind become another. -/
def mergeL (L : List Int) (a b : Int) : List Int := L.map fun v => if v = mx a b then mn a b else v
theorem mergeL_length (L : List Int) (a b : Int) : (mergeL L a b).length = L.length := by simp [mergeL]
theorem rd_merge (L : List Int) (a b y : Int) (h0 : 0 ≤ y) (h1 : y < L.length) : rd (mergeL L a b) y = if rd L y = mx a b then mn a b else rd L y := by
  obtain ⟨m, rfl⟩ : ∃ m : Nat, y = m := ⟨y.toNat, by omega⟩
  rw [rd_nat _ m (by rw [mergeL_length]; omega), rd_nat L m (by omega)]
  unfold mergeL
  rw [List.getElem_map]
/-- Closed under the letters, and under their inverses. -/
def Inv (n : Nat) (G : List (List Int)) (P : Int → Prop) : Prop := ∀ g ∈ G, ∀ x : Int, 0 ≤ x → x < n → (P x ↔ P (rd g x))
/-- Labels: each is the label of itself, none is above its place, and a label stands in its place's orbit. -/
def Lab (n : Nat) (G : List (List Int)) (L : List Int) : Prop := L.length = n ∧ (∀ y : Int, 0 ≤ y → y < n → 0 ≤ rd L y ∧ rd L y ≤ y ∧ rd L (rd L y) = rd L y) ∧ ∀ P, Inv n G P → ∀ y : Int, 0 ≤ y → y < n → (P y ↔ P (rd L y))
theorem rangeI_rd (n : Nat) (y : Int) (h0 : 0 ≤ y) (h1 : y < n) : rd (rangeI n) y = y := by
  obtain ⟨m, rfl⟩ : ∃ m : Nat, y = m := ⟨y.toNat, by omega⟩
  rw [rd_nat _ m (by rw [rangeI_len]; omega)]
  simp [rangeI]
theorem Lab.start (n : Nat) (G : List (List Int)) : Lab n G (rangeI n) := by
  refine ⟨rangeI_len n, fun y h0 h1 => ?_, fun P _ y h0 h1 => by rw [rangeI_rd n y h0 h1]⟩
  rw [rangeI_rd n y h0 h1, rangeI_rd n y h0 h1]
  exact ⟨h0, Int.le_refl y, rfl⟩
theorem mx_mn (a b : Int) : (mx a b = a ∧ mn a b = b ∨ mx a b = b ∧ mn a b = a) ∧ mn a b ≤ mx a b := by
  unfold mx mn
  split <;> split <;> omega
theorem Lab.merge {n : Nat} {G : List (List Int)} (hG : ∀ g ∈ G, PermN n g) {L : List Int} (h : Lab n G L) {g : List Int} (hg : g ∈ G) {x : Int} (h0 : 0 ≤ x) (h1 : x < n) : Lab n G (mergeL L (rd L x) (rd L (rd g x))) := by
  obtain ⟨hl, hr, hp⟩ := h
  have hx := hr x h0 h1
  have hgx := (hG g hg).at h0 h1
  have hy := hr _ hgx.1 hgx.2
  generalize ha : rd L x = a at hx
  generalize hb : rd L (rd g x) = b at hy
  obtain ⟨hm, hle⟩ := mx_mn a b
  have hv : ∀ y : Int, 0 ≤ y → y < n → rd (mergeL L a b) y = if rd L y = mx a b then mn a b else rd L y := fun y y0 y1 => rd_merge L a b y y0 (by rw [hl]; exact y1)
  have hmn : 0 ≤ mn a b ∧ mn a b < n ∧ rd L (mn a b) = mn a b := by
    rcases hm with ⟨_, e⟩ | ⟨_, e⟩ <;> rw [e]
    · exact ⟨hy.1, by omega, hy.2.2⟩
    · exact ⟨hx.1, by omega, hx.2.2⟩
  refine ⟨by rw [mergeL_length, hl], fun y y0 y1 => ?_, fun P hP y y0 y1 => ?_⟩
  · have hyy := hr y y0 y1
    rw [hv y y0 y1]
    by_cases c : rd L y = mx a b
    · rw [if_pos c, hv _ hmn.1 hmn.2.1, hmn.2.2]
      refine ⟨hmn.1, by omega, ?_⟩
      split <;> rfl
    · rw [if_neg c, hv _ hyy.1 (by omega), hyy.2.2, if_neg c]
      exact ⟨hyy.1, hyy.2.1, rfl⟩
  · rw [hv y y0 y1, hp P hP y y0 y1]
    by_cases c : rd L y = mx a b
    · rw [if_pos c, c]
      have e1 := hp P hP x h0 h1
      have e2 := hp P hP _ hgx.1 hgx.2
      have e3 := hP g hg x h0 h1
      rw [ha] at e1
      rw [hb] at e2
      rcases hm with ⟨p1, p2⟩ | ⟨p1, p2⟩ <;> rw [p1, p2]
      · exact e1.symm.trans (e3.trans e2)
      · exact (e1.symm.trans (e3.trans e2)).symm
    · rw [if_neg c]
theorem merge_same (L : List Int) (a b y z : Int) (h0 : 0 ≤ y) (h1 : y < L.length) (z0 : 0 ≤ z) (z1 : z < L.length) (h : rd L y = rd L z) : rd (mergeL L a b) y = rd (mergeL L a b) z := by
  rw [rd_merge L a b y h0 h1, rd_merge L a b z z0 z1, h]
theorem merge_now (L : List Int) (y z : Int) (h0 : 0 ≤ y) (h1 : y < L.length) (z0 : 0 ≤ z) (z1 : z < L.length) : rd (mergeL L (rd L y) (rd L z)) y = rd (mergeL L (rd L y) (rd L z)) z := by
  rw [rd_merge L _ _ y h0 h1, rd_merge L _ _ z z0 z1]
  obtain ⟨hm, _⟩ := mx_mn (rd L y) (rd L z)
  rcases hm with ⟨p1, p2⟩ | ⟨p1, p2⟩ <;> rw [p1, p2]
  · rw [if_pos rfl]
    split
    · rfl
    · rfl
  · rw [if_pos rfl]
    split
    · rfl
    · rfl
/-- The rows of one label each. -/
def labRows (n : Nat) (L : List Int) : Nat → Nat → List (List Int)
  | 0, _ => []
  | d + 1, v => if (rangeI n).filter (fun y => decide (rd L y = (v : Int))) = [] then labRows n L d (v + 1) else (rangeI n).filter (fun y => decide (rd L y = (v : Int))) :: labRows n L d (v + 1)
theorem incr_eq : ∀ (s t : List Int), s.Pairwise (· < ·) → t.Pairwise (· < ·) → (∀ x, x ∈ s ↔ x ∈ t) → s = t
  | [], [], _, _, _ => rfl
  | [], b :: t, _, _, h => absurd ((h b).2 (by simp)) (by simp)
  | a :: s, [], _, _, h => absurd ((h a).1 (by simp)) (by simp)
  | a :: s, b :: t, hs, ht, h => by
    obtain ⟨hs1, hs2⟩ := List.pairwise_cons.1 hs
    obtain ⟨ht1, ht2⟩ := List.pairwise_cons.1 ht
    have hab : a = b := by
      rcases List.mem_cons.1 ((h a).1 (by simp)) with e | e
      · exact e
      · rcases List.mem_cons.1 ((h b).2 (by simp)) with e2 | e2
        · exact e2.symm
        · have := hs1 b e2
          have := ht1 a e
          omega
    subst hab
    rw [incr_eq s t hs2 ht2 fun x => ?_]
    constructor
    · intro hx
      rcases List.mem_cons.1 ((h x).1 (List.mem_cons_of_mem _ hx)) with e | e
      · have := hs1 x hx
        omega
      · exact e
    · intro hx
      rcases List.mem_cons.1 ((h x).2 (List.mem_cons_of_mem _ hx)) with e | e
      · have := ht1 x hx
        omega
      · exact e
theorem incr_of_sorted {a : List Int} {m : Nat} (hs : SortedTo m a) (hm : a.length ≤ m) (hn : a.Nodup) : a.Pairwise (· < ·) := by
  refine List.pairwise_iff_getElem.2 fun i j hi hj hij => ?_
  have h1 := hs i j hij (by omega)
  rw [rd_nat a i hi, rd_nat a j hj] at h1
  have h2 := List.pairwise_iff_getElem.1 hn i j hi hj hij
  omega
/-- The program's orbits are the rows of labels. -/
theorem like_labels {n : Nat} {G : List (List Int)} (hG : ∀ g ∈ G, PermN n g) {L : List Int} (hL : Lab n G L) (hs : ∀ g ∈ G, ∀ x : Int, 0 ≤ x → x < n → rd L x = rd L (rd g x)) :
    ∀ (d x : Nat) (o : List Int) (r : List (List Int)), x + d = n → Good n o [] → (∀ y : Int, 0 ≤ y → y < n → (y ∈ o ↔ rd L y < x)) → Like r (orbL n G d x o) → r = labRows n L d x
  | 0, x, o, r, hd, hg, ho, h => by
    unfold orbL at h
    match r, h with
    | [], _ => rfl
    | _ :: _, h => exact h.elim
  | d + 1, x, o, r, hd, hg, ho, h => by
    have hx0 : (0 : Int) ≤ (x : Int) := Int.natCast_nonneg x
    have hx1 : (x : Int) < n := by omega
    have hLx := hL.2.1 (x : Int) hx0 hx1
    unfold orbL at h
    unfold labRows
    by_cases c : (x : Int) ∈ o
    · rw [if_pos c] at h
      have hlt := (ho _ hx0 hx1).1 c
      have e : (rangeI n).filter (fun y => decide (rd L y = (x : Int))) = [] := by
        refine List.filter_eq_nil_iff.2 fun y hy hxy => ?_
        rw [rangeI_mem] at hy
        have hxy := of_decide_eq_true hxy
        have := (hL.2.1 y hy.1 hy.2).2.2
        rw [hxy] at this
        omega
      rw [if_pos e]
      refine like_labels hG hL hs d (x + 1) o r (by omega) hg (fun y y0 y1 => ?_) h
      rw [ho y y0 y1]
      constructor
      · intro hh
        omega
      · intro hh
        by_cases e2 : rd L y = (x : Int)
        · have := (hL.2.1 y y0 y1).2.2
          rw [e2] at this
          omega
        · omega
    · rw [if_neg c] at h
      have hge : ¬ rd L (x : Int) < x := fun hh => c ((ho _ hx0 hx1).2 hh)
      have hxx : rd L (x : Int) = x := by omega
      have hg1 := good_one hg hx0 hx1 c
      obtain ⟨g1, g2, g3, g4⟩ := bfsO_facts (n := n) (o := o) (cand := candI G) (fun y h0 h1 => candI_in hG y h0 h1) (n + 1) 0 [(x : Int)] hg1 (Nat.zero_le _) (by omega) (fun j hj => absurd hj (Nat.not_lt_zero j))
      generalize bfsO o (candI G) (n + 1) 0 [(x : Int)] = q at h g1 g2 g3 g4
      have q1 : ∀ y ∈ q, rd L y = x := g4 (fun y => rd L y = (x : Int)) (fun y y0 y1 hy z hz => by
        obtain ⟨g, hgG, rfl⟩ := List.mem_map.1 hz
        rw [← hs g hgG y y0 y1]
        exact hy) (fun y hy => by
        rw [List.mem_singleton] at hy
        rw [hy]
        exact hxx)
      have cl : ∀ g ∈ G, ∀ y ∈ q, rd g y ∈ q := fun g hgG y hy => by
        have hyr := g1.right.2 y hy
        have hz := (hG g hgG).at hyr.1 hyr.2
        rcases List.mem_append.1 (g3 y hy _ (List.mem_map.2 ⟨g, hgG, rfl⟩)) with h1 | h1
        · have := (ho _ hz.1 hz.2).1 h1
          rw [← hs g hgG y hyr.1 hyr.2, q1 y hy] at this
          omega
        · exact h1
      have hI : Inv n G (fun y => y ∈ q) := fun g hgG y y0 y1 => ⟨fun hy => cl g hgG y hy, fun hy => (hG g hgG).back g1.right.1 g1.right.2 (fun z hz => cl g hgG z hz) y0 y1 hy⟩
      have q2 : ∀ y : Int, 0 ≤ y → y < n → (y ∈ q ↔ rd L y = x) := fun y y0 y1 => ⟨q1 y, fun hy => (hL.2.2 _ hI y y0 y1).2 (by rw [hy]; exact g2 _ (by simp))⟩
      match r, h with
      | a :: r, h =>
        have ha : a = (rangeI n).filter (fun y => decide (rd L y = (x : Int))) := by
          refine incr_eq _ _ (incr_of_sorted h.1.2 (by rw [h.1.1.length_eq]; exact Nat.le_refl _) ((List.Perm.nodup_iff h.1.1).2 g1.right.1)) ?_ fun y => ?_
          · refine List.Pairwise.filter _ ?_
            unfold rangeI
            rw [List.pairwise_map]
            exact List.Pairwise.imp (fun {a b} hh => Int.ofNat_lt.2 hh) List.pairwise_lt_range
          · rw [List.mem_filter, rangeI_mem, h.1.1.mem_iff]
            constructor
            · intro hy
              have hyr := g1.right.2 y hy
              exact ⟨hyr, decide_eq_true (q1 y hy)⟩
            · rintro ⟨hyr, hy⟩
              exact (q2 y hyr.1 hyr.2).2 (of_decide_eq_true hy)
        have hne : (rangeI n).filter (fun y => decide (rd L y = (x : Int))) ≠ [] := fun e => by
          have hm : (x : Int) ∈ (rangeI n).filter (fun y => decide (rd L y = (x : Int))) := List.mem_filter.2 ⟨(rangeI_mem n _).2 ⟨hx0, hx1⟩, decide_eq_true hxx⟩
          rw [e] at hm
          exact absurd hm (by simp)
        rw [if_neg hne, ← ha]
        refine congrArg (a :: ·) (like_labels hG hL hs d (x + 1) (o ++ q) r (by omega) (by unfold Good; rw [List.append_nil]; exact g1) (fun y y0 y1 => ?_) h.2)
        rw [List.mem_append, ho y y0 y1, q2 y y0 y1]
        constructor
        · rintro (hh | hh) <;> omega
        · intro hh
          omega
      | [], h => exact h.elim

theorem merge_go (L : List Int) (a b : Int) : ∀ (d i : Nat) (M : List Int), i + d = L.length → M = (mergeL L a b).take i ++ L.drop i →
    (if rd M (i : Int) = mx a b then M.set i (mn a b) else M) = (mergeL L a b).take (i + 1) ++ L.drop (i + 1) ∨ d = 0
  | 0, _, _, _, _ => .inr rfl
  | d + 1, i, M, hd, hM => by
    left
    have hi : i < L.length := by omega
    have h1 : ((mergeL L a b).take i).length = i := by rw [List.length_take, mergeL_length]; omega
    have hr : rd M (i : Int) = rd L (i : Int) := by
      rw [hM, rd_nat _ i (by rw [List.length_append, List.length_drop, h1]; omega), rd_nat L i hi, List.getElem_append_right (by omega), List.getElem_drop]
      congr 1
      omega
    have hm : (mergeL L a b)[i]'(by rw [mergeL_length]; exact hi) = if rd L (i : Int) = mx a b then mn a b else rd L (i : Int) := by
      rw [rd_nat L i hi]
      unfold mergeL
      rw [List.getElem_map]
    rw [hr, List.take_succ_eq_append_getElem (by rw [mergeL_length]; exact hi), hm]
    by_cases c : rd L (i : Int) = mx a b
    · rw [if_pos c, if_pos c, hM, List.set_append_right _ _ (by omega), h1, Nat.sub_self, List.drop_eq_getElem_cons hi, List.set_cons_zero, List.append_assoc]
      rfl
    · rw [if_neg c, if_neg c, hM, List.drop_eq_getElem_cons hi, rd_nat L i hi, List.append_assoc]
      rfl
theorem so_l3 (n : Nat) (G : List (List Int)) (X x : Int) (L : List Int) (hl : L.length ≤ 1000) (a b : Int) (r : List (List Int)) (h : Evt (fun K => spec_l05Orbits.l2 K (n : Int) G (mergeL L a b) X (wrap64 (x + 1))) r) :
    ∀ (d i : Nat) (M : List Int), i + d = L.length → M = (mergeL L a b).take i ++ L.drop i → Evt (fun K => spec_l05Orbits.l3 K (n : Int) G M X x a b (i : Int)) r
  | 0, i, M, hd, hM => by
    have hi : i = L.length := by omega
    have e : M = mergeL L a b := by rw [hM, hi, List.drop_length, List.append_nil, List.take_of_length_le (by rw [mergeL_length]; exact Nat.le_refl _)]
    refine Evt.step h fun K => ?_
    rw [spec_l05Orbits.l3, if_neg (by rw [e, mergeL_length]; omega), e]
  | d + 1, i, M, hd, hM => by
    have hi : i < L.length := by omega
    have hd2 : i + 1 + d = L.length := by omega
    have hMl : M.length = L.length := by
      rw [hM, List.length_append, List.length_take, List.length_drop, mergeL_length]
      omega
    have f1 : (i : Int) < (M.length : Int) := by omega
    have ei : wrap64 ((i : Int) + 1) = ((i + 1 : Nat) : Int) := w64n (i + 1) (by omega)
    have hs := (merge_go L a b (d + 1) i M hd hM).resolve_right (by simp)
    refine Evt.step (so_l3 n G X x L hl a b r h d (i + 1) _ hd2 hs) fun K => ?_
    rw [spec_l05Orbits.l3, if_pos f1, if_pos (Int.natCast_nonneg i), ei, Int.toNat_natCast]
    by_cases c : rd M (i : Int) = mx a b
    · rw [if_pos c, if_pos c]
    · rw [if_neg c, if_neg c]
/-- What was merged before stays merged. -/
def Done (G : List (List Int)) (n : Nat) (L : List Int) (j x : Nat) : Prop := ∀ (p : Nat) (hp : p < G.length), ∀ y : Int, 0 ≤ y → y < n → (p < j ∨ p = j ∧ y < x) → rd L y = rd L (rd (G[p]) y)
theorem so_l2 {n : Nat} (hn : n ≤ 8) {G : List (List Int)} (hG : ∀ g ∈ G, PermN n g) (hl : G.length ≤ 1048576) (j : Nat) (hj : j < G.length) (Q : List (List Int) → Prop)
    (h : ∀ L, Lab n G L → Done G n L (j + 1) 0 → ∃ r, Evt (fun K => spec_l05Orbits.l1 K (n : Int) G L ((j + 1 : Nat) : Int)) r ∧ Q r) :
    ∀ (d x : Nat) (L : List Int), x + d = n → Lab n G L → Done G n L j x → ∃ r, Evt (fun K => spec_l05Orbits.l2 K (n : Int) G L (j : Int) (x : Int)) r ∧ Q r
  | 0, x, L, hd, hL, hD => by
    have ej : wrap64 ((j : Int) + 1) = ((j + 1 : Nat) : Int) := w64n (j + 1) (by omega)
    obtain ⟨r, h1, h2⟩ := h L hL (fun p hp y y0 y1 hh => hD p hp y y0 y1 (by
      rcases hh with hh | hh
      · by_cases e : p = j
        · right
          exact ⟨e, by omega⟩
        · left
          omega
      · omega))
    refine ⟨r, Evt.step h1 fun K => ?_, h2⟩
    rw [spec_l05Orbits.l2, if_neg (by omega), ej]
  | d + 1, x, L, hd, hL, hD => by
    have hx0 : (0 : Int) ≤ (x : Int) := Int.natCast_nonneg x
    have hx1 : (x : Int) < (n : Int) := by omega
    have hd2 : x + 1 + d = n := by omega
    have hm : G[j] ∈ G := List.getElem_mem hj
    have hp := hG _ hm
    have hg : rd_L1 G (j : Int) = G[j] := rdL1_nat G j hj
    have hy := hp.at hx0 hx1
    have ex : wrap64 ((x : Int) + 1) = ((x + 1 : Nat) : Int) := w64n (x + 1) (by omega)
    have hlen := hL.1
    have f1 : (x : Int) < (L.length : Int) := by rw [hlen]; exact hx1
    have f2 : (x : Int) < ((G[j]).length : Int) := by rw [hp.1]; exact hx1
    have f3 : rd G[j] (x : Int) < (L.length : Int) := by rw [hlen]; exact hy.2
    have f4 : (j : Int) < (G.length : Int) := Int.ofNat_lt.2 hj
    have hL8 : L.length ≤ 1000 := by rw [hlen]; exact Nat.le_trans hn (by decide)
    obtain ⟨r, h1, h2⟩ := so_l2 hn hG hl j hj Q h d (x + 1) (mergeL L (rd L (x : Int)) (rd L (rd G[j] (x : Int)))) hd2 (hL.merge hG hm hx0 hx1) (fun p hp2 y y0 y1 hh => by
      have hpp := hG _ (List.getElem_mem hp2)
      have hz := hpp.at y0 y1
      by_cases e : p = j ∧ y = (x : Int)
      · obtain ⟨e1, e2⟩ := e
        subst e1 e2
        exact merge_now L _ _ hx0 f1 hy.1 f3
      · exact merge_same L _ _ y _ y0 (by rw [hlen]; exact y1) hz.1 (by rw [hlen]; exact hz.2) (hD p hp2 y y0 y1 (by
          rcases hh with hh | hh
          · exact .inl hh
          · exact .inr ⟨hh.1, by
              have : y ≠ (x : Int) := fun e2 => e ⟨hh.1, e2⟩
              have := hh.2
              omega⟩)))
    have h3 := so_l3 n G (j : Int) (x : Int) L hL8 (rd L (x : Int)) (rd L (rd G[j] (x : Int))) r (by rw [ex]; exact h1) L.length 0 L (Nat.zero_add _) (by rw [List.take_zero, List.drop_zero, List.nil_append])
    refine ⟨r, Evt.step h3 fun K => ?_, h2⟩
    rw [spec_l05Orbits.l2, if_pos hx1, if_pos hx0, if_pos f1, if_pos (Int.natCast_nonneg j), if_pos f4, hg, if_pos f2, if_pos hy.1, if_pos f3]
    rfl
theorem so_l1 {n : Nat} (hn : n ≤ 8) {G : List (List Int)} (hG : ∀ g ∈ G, PermN n g) (hl : G.length ≤ 1048576) (Q : List (List Int) → Prop)
    (h : ∀ L, Lab n G L → Done G n L G.length 0 → ∃ r, Evt (fun K => spec_l05Orbits.l4 K (n : Int) L [] 0) r ∧ Q r) :
    ∀ (d j : Nat) (L : List Int), j + d = G.length → Lab n G L → Done G n L j 0 → ∃ r, Evt (fun K => spec_l05Orbits.l1 K (n : Int) G L (j : Int)) r ∧ Q r
  | 0, j, L, hd, hL, hD => by
    obtain ⟨r, h1, h2⟩ := h L hL (by rw [← hd]; exact hD)
    refine ⟨r, Evt.step h1 fun K => ?_, h2⟩
    rw [spec_l05Orbits.l1, if_neg (by omega)]
  | d + 1, j, L, hd, hL, hD => by
    have hj : j < G.length := by omega
    have hd2 : j + 1 + d = G.length := by omega
    obtain ⟨r, h1, h2⟩ := so_l2 hn hG hl j hj Q (fun L' h1 h2 => so_l1 hn hG hl Q h d (j + 1) L' hd2 h1 h2) n 0 L (Nat.zero_add _) hL hD
    refine ⟨r, Evt.step h1 fun K => ?_, h2⟩
    rw [spec_l05Orbits.l1, if_pos (Int.ofNat_lt.2 hj)]
    rfl
theorem so_l5 {n : Nat} (hn : n ≤ 8) (L : List Int) (hL : L.length = n) (v : Nat) (out : List (List Int)) (r : List (List Int))
    (h : Evt (fun K => if (((rangeI n).filter fun y => decide (rd L y = (v : Int))).length : Int) > 0 then (if out.length < 5864062014805 then spec_l05Orbits.l4 K (n : Int) L (out ++ [(rangeI n).filter fun y => decide (rd L y = (v : Int))]) (wrap64 ((v : Int) + 1)) else none) else spec_l05Orbits.l4 K (n : Int) L out (wrap64 ((v : Int) + 1))) r) :
    ∀ (d i : Nat) (acc : List Int), i + d = n → acc.length ≤ i → acc ++ ((rangeI n).drop i).filter (fun y => decide (rd L y = (v : Int))) = (rangeI n).filter (fun y => decide (rd L y = (v : Int))) → Evt (fun K => spec_l05Orbits.l5 K (n : Int) L out (v : Int) acc (i : Int)) r
  | 0, i, acc, hd, ha, he => by
    rw [List.drop_of_length_le (by rw [rangeI_len]; omega), List.filter_nil, List.append_nil] at he
    rw [← he] at h
    refine Evt.step h fun K => ?_
    rw [spec_l05Orbits.l5, if_neg (by omega)]
  | d + 1, i, acc, hd, ha, he => by
    have hi : i < n := by omega
    have hd2 : i + 1 + d = n := by omega
    have ei : wrap64 ((i : Int) + 1) = ((i + 1 : Nat) : Int) := w64n (i + 1) (by omega)
    have hr : (rangeI n).drop i = (i : Int) :: (rangeI n).drop (i + 1) := by
      rw [drop_rd _ i (by rw [rangeI_len]; exact hi), rangeI_rd n (i : Int) (by omega) (by omega)]
    have f1 : (i : Int) < (n : Int) := Int.ofNat_lt.2 hi
    have f2 : (i : Int) < (L.length : Int) := by rw [hL]; exact f1
    have f7 : acc.length < 17592186044416 := Nat.lt_of_le_of_lt (show acc.length ≤ 8 by omega) (by decide)
    rw [hr] at he
    by_cases c : rd L (i : Int) = (v : Int)
    · rw [List.filter_cons, if_pos (decide_eq_true c)] at he
      have ih := so_l5 hn L hL v out r h d (i + 1) (acc ++ [(i : Int)]) hd2 (by rw [List.length_append]; exact Nat.succ_le_succ ha) (by rw [List.append_assoc]; exact he)
      refine Evt.step ih fun K => ?_
      rw [spec_l05Orbits.l5, if_pos f1, if_pos (Int.natCast_nonneg i), if_pos f2, if_pos c, if_pos f7, ei]
    · rw [List.filter_cons, if_neg (by simpa using c)] at he
      have ih := so_l5 hn L hL v out r h d (i + 1) acc hd2 (Nat.le_succ_of_le ha) he
      refine Evt.step ih fun K => ?_
      rw [spec_l05Orbits.l5, if_pos f1, if_pos (Int.natCast_nonneg i), if_pos f2, if_neg c, ei]
theorem so_l4 {n : Nat} (hn : n ≤ 8) (L : List Int) (hL : L.length = n) : ∀ (d v : Nat) (out : List (List Int)), v + d = n → out.length ≤ v → Evt (fun K => spec_l05Orbits.l4 K (n : Int) L out (v : Int)) (out ++ labRows n L d v)
  | 0, v, out, hd, ho => by
    refine Evt.now fun K => ?_
    rw [spec_l05Orbits.l4, if_neg (by omega)]
    unfold labRows
    rw [List.append_nil]
  | d + 1, v, out, hd, ho => by
    have hd2 : v + 1 + d = n := by omega
    have f1 : (v : Int) < (n : Int) := by omega
    have ev : wrap64 ((v : Int) + 1) = ((v + 1 : Nat) : Int) := w64n (v + 1) (by omega)
    have f7 : out.length < 5864062014805 := Nat.lt_of_le_of_lt (show out.length ≤ 8 by omega) (by decide)
    have h5 := so_l5 hn L hL v out (out ++ labRows n L (d + 1) v) (by
      unfold labRows
      by_cases c : (rangeI n).filter (fun y => decide (rd L y = (v : Int))) = []
      · rw [if_pos c, c]
        refine Evt.same (so_l4 hn L hL d (v + 1) out hd2 (Nat.le_succ_of_le ho)) fun K => ?_
        rw [if_neg (by simp), ev]
      · rw [if_neg c]
        have hp : ((((rangeI n).filter fun y => decide (rd L y = (v : Int))).length : Nat) : Int) > 0 := by
          have := List.length_pos_iff.2 c
          omega
        have ih := so_l4 hn L hL d (v + 1) (out ++ [(rangeI n).filter fun y => decide (rd L y = (v : Int))]) hd2 (by rw [List.length_append]; exact Nat.succ_le_succ ho)
        rw [List.append_assoc, List.singleton_append] at ih
        refine Evt.same ih fun K => ?_
        rw [if_pos hp, if_pos f7, ev]) n 0 [] (Nat.zero_add _) (Nat.le_refl _) (by rw [List.drop_zero, List.nil_append])
    refine Evt.step h5 fun K => ?_
    rw [spec_l05Orbits.l4, if_pos f1]
    rfl
theorem so_l0 {n : Nat} (hn : n ≤ 8) (G : List (List Int)) (r : List (List Int)) (h : Evt (fun K => spec_l05Orbits.l1 K (n : Int) G (rangeI n) 0) r) : ∀ (d i : Nat), i + d = n → Evt (fun K => spec_l05Orbits.l0 K (n : Int) G ((rangeI n).take i) (i : Int)) r
  | 0, i, hd => by
    refine Evt.step h fun K => ?_
    rw [spec_l05Orbits.l0, if_neg (by omega), List.take_of_length_le (by rw [rangeI_len]; omega)]
  | d + 1, i, hd => by
    have hi : i < n := by omega
    have ei : wrap64 ((i : Int) + 1) = ((i + 1 : Nat) : Int) := w64n (i + 1) (by omega)
    have f7 : ((rangeI n).take i).length < 17592186044416 := Nat.lt_of_le_of_lt (show ((rangeI n).take i).length ≤ 8 by rw [List.length_take]; omega) (by decide)
    refine Evt.step (so_l0 hn G r h d (i + 1) (by omega)) fun K => ?_
    rw [spec_l05Orbits.l0, if_pos (Int.ofNat_lt.2 hi), if_pos f7, ei, List.take_succ_eq_append_getElem (by rw [rangeI_len]; exact hi), ← rd_nat _ i (by rw [rangeI_len]; exact hi), rangeI_rd n (i : Int) (Int.natCast_nonneg i) (Int.ofNat_lt.2 hi)]
theorem labRows_small (n : Nat) (L : List Int) : ∀ (d v : Nat), (labRows n L d v).length ≤ d ∧ ∀ x ∈ labRows n L d v, x.length ≤ n
  | 0, v => ⟨Nat.le_refl _, fun x hx => absurd hx (by simp [labRows])⟩
  | d + 1, v => by
    have ih := labRows_small n L d (v + 1)
    unfold labRows
    split
    · exact ⟨Nat.le_succ_of_le ih.1, ih.2⟩
    · refine ⟨Nat.succ_le_succ ih.1, fun x hx => ?_⟩
      rcases List.mem_cons.1 hx with rfl | hx
      · have := List.length_filter_le (fun y => decide (rd L y = (v : Int))) (rangeI n)
        rwa [rangeI_len] at this
      · exact ih.2 x hx
/-- Program and reference find the same orbits. -/
theorem orbits_both {n : Nat} (hn : n ≤ 8) {G : List (List Int)} (hG : ∀ g ∈ G, PermN n g) (hl : G.length ≤ 1048576) : ∃ r, Evt (fun K => spec_l05Orbits.f K (n : Int) G) r ∧ Evt (fun K => impl_orbits.f K (n : Int) G) r ∧ r.length ≤ n ∧ ∀ x ∈ r, x.length ≤ n := by
  obtain ⟨r, r1, r2⟩ := orbits_ev hn hG hl
  obtain ⟨r', s1, s2⟩ := so_l1 hn hG hl (fun r' => r' = r ∧ r'.length ≤ n ∧ ∀ x ∈ r', x.length ≤ n) (fun L hL hD => ⟨labRows n L n 0, by
    have := so_l4 hn L hL.1 n 0 [] (Nat.zero_add _) (Nat.le_refl _)
    rwa [List.nil_append] at this, ⟨(like_labels hG hL (fun g hg x h0 h1 => by
      obtain ⟨p, hp, e⟩ := List.getElem_of_mem hg
      rw [← e]
      exact hD p hp x h0 h1 (.inl hp)) n 0 [] r (Nat.zero_add _) ⟨by simp, fun x hx => absurd hx (by simp)⟩ (fun y y0 y1 => ⟨fun hh => absurd hh (by simp), fun hh => by
      have := (hL.2.1 y y0 y1).1
      omega⟩) r2).symm, labRows_small n L n 0⟩⟩) G.length 0 (rangeI n) (Nat.zero_add _) (Lab.start n G) (fun p hp y y0 y1 hh => by omega)
  obtain ⟨s2, s3⟩ := s2
  rw [s2] at s1 s3
  refine ⟨r, ?_, r1, s3⟩
  have h0 := so_l0 hn G r s1 n 0 (Nat.zero_add _)
  rw [List.take_zero] at h0
  exact h0

theorem Evt.uniq {α : Type} {f : Nat → Option α} {r r' : α} (h : Evt f r) (h' : Evt f r') : r = r' := by
  obtain ⟨c, h⟩ := h
  obtain ⟨c', h'⟩ := h'
  have h1 := h (c + c') (by omega)
  rw [h' (c + c') (by omega)] at h1
  exact (Option.some.inj h1).symm
open Classical in
/-- Is there but one orbit? -/
noncomputable def tOrb (n : Nat) (G : List (List Int)) : Bool := decide (∃ os, Evt (fun K => spec_l05Orbits.f K (n : Int) G) os ∧ os.length = 1)
open Classical in
theorem tOrb_at {n : Nat} (hn : n ≤ 8) {G : List (List Int)} (hG : ∀ g ∈ G, PermN n g) (hl : G.length ≤ 1048576) : ∃ os, Evt (fun K => spec_l05Orbits.f K (n : Int) G) os ∧ Evt (fun K => impl_orbits.f K (n : Int) G) os ∧ ((os.length : Int) == 1) = tOrb n G := by
  obtain ⟨os, h1, h2, _⟩ := orbits_both hn hG hl
  refine ⟨os, h1, h2, ?_⟩
  rw [Bool.eq_iff_iff, beq_iff_eq]
  unfold tOrb
  rw [decide_eq_true_iff]
  constructor
  · exact fun h => ⟨os, h1, by omega⟩
  · rintro ⟨os', h3, h4⟩
    rw [Evt.uniq h1 h3]
    omega

theorem transCount_both (a0 a1 : Int) (R : List (List Int)) (hR : R.length ≤ 1048576) (hRl : ∀ w ∈ R, w.length ≤ 1048576) (hRw : ∀ w ∈ R, ∀ y ∈ w, (Lit.int .i64 y).wf = true) :
    ∃ r, Evt (fun K => spec_TransitiveCount.f K a0 R a1) r ∧ Evt (fun K => impl_TransitiveCount.f K a0 R a1) r ∧ (r.2 = 0 → presB a0 R = true ∧ ∃ g n : Nat, a0 = g ∧ a1 = n ∧ g ≤ 24 ∧ 1 ≤ n ∧ n ≤ 4 ∧ r.1 = (((tup (permsF n n [] []) g).filter (keepT n R true (tOrb n))).length : Int) ∧ (permsF n n [] []).length ^ g ≤ 200000) := by
  obtain ⟨c, h1, h2, h3⟩ := code_both a0 a1 R hR hRl hRw
  by_cases c0 : c = 0
  · obtain ⟨hp, g, n, rfl, rfl, hg, n1, n4, hN⟩ := h3 c0
    subst c0
    have hrel := rels_in hp
    have hs := searchEv (x2 := true) n1 n4 hg hp hRl hN (tOrb n) (fun _ G hGl hG => by
      obtain ⟨os, o1, _, o3⟩ := tOrb_at (by omega : n ≤ 8) hG (by omega)
      exact ⟨os, o1, o3⟩)
    have hi := runEv n1 n4 hg R hrel.1 hrel.2 hRl (all_perm n1 n4) (fun K => transCount.vis K (n : Int)) (fun G s => (true, if tOrb n G = true then wrap64 (s + 1) else s)) (fun G hGl hG s => by
      obtain ⟨os, _, o2, o3⟩ := tOrb_at (by omega : n ≤ 8) hG (by omega)
      have ht : Evt (fun K => impl_isTransitive.f K (n : Int) G) (tOrb n G) := Evt.bind o2 (h := fun _ t => some ((t.length : Int) == 1)) (Evt.const fun _ => by rw [o3]) fun _ => rfl
      exact Evt.bind ht (h := fun _ b => some (true, if b = true then wrap64 (s + 1) else s)) (Evt.const fun _ => rfl) fun _ => rfl) 0
    have hl : ((tup (permsF n n [] []) g).filter fun G => R.all fun w => trivB G w n 0).length ≤ 200000 := Nat.le_trans (List.length_filter_le _ _) (by rw [tup_len]; exact hN)
    have hv := visP_count (fun G s => (true, if tOrb n G = true then wrap64 (s + 1) else s)) (tOrb n) ((tup (permsF n n [] []) g).filter fun G => R.all fun w => trivB G w n 0) 0 (by omega) (fun _ _ _ _ => rfl)
    have hk : (((tup (permsF n n [] []) g).filter fun G => R.all fun w => trivB G w n 0).filter (tOrb n)) = (tup (permsF n n [] []) g).filter (keepT n R true (tOrb n)) := by
      rw [List.filter_filter]
      refine List.filter_congr fun G _ => ?_
      unfold keepT
      rw [Bool.not_true, Bool.false_or, Bool.and_comm]
    rw [show ((0 : Nat) : Int) = 0 from rfl] at hv
    rw [hv, Nat.zero_add, hk] at hi
    refine ⟨((((tup (permsF n n [] []) g).filter (keepT n R true (tOrb n))).length : Int), 0), ?_, ?_, fun _ => ⟨hp, g, n, rfl, rfl, hg, n1, n4, rfl, hN⟩⟩
    · refine Evt.bind h2 (h := fun K t212 => if t212 = 0 then ((spec_l05Search.f K (g : Int) R (n : Int) true).bind fun t213 => (some ((t213.length : Int), 0))) else (some (0, t212))) ?_ fun _ => rfl
      exact Evt.bind hs (h := fun _ t213 => some ((t213.length : Int), 0)) (Evt.const fun _ => rfl) fun K => if_pos rfl
    · refine Evt.bind h1 (h := fun K c => if c = 0 then (repsRun K (g : Int) R (n : Int) (transCount.vis K (n : Int)) 0).bind fun r => some (r.2, 0) else some (0, c)) ?_ fun _ => rfl
      exact Evt.bind hi (h := fun _ r => some (r.2, 0)) (Evt.const fun _ => rfl) fun K => if_pos rfl
  · refine ⟨(0, c), ?_, ?_, fun h => absurd h c0⟩
    · exact Evt.bind h2 (h := fun K t212 => if t212 = 0 then ((spec_l05Search.f K a0 R a1 true).bind fun t213 => (some ((t213.length : Int), 0))) else (some (0, t212))) (Evt.const fun K => if_neg c0) fun _ => rfl
    · exact Evt.bind h1 (h := fun K c => if c = 0 then (repsRun K a0 R a1 (transCount.vis K a1) 0).bind fun r => some (r.2, 0) else some (0, c)) (Evt.const fun K => if_neg c0) fun _ => rfl

def facTab (n : Nat) : Bool := decide (impl_factorial.f 20 (wrap64 ((n : Int) - 1)) = some (rd [1, 1, 1, 2, 6] (n : Int))) && decide (rd [1, 1, 1, 2, 6] (n : Int) ≠ 0)
theorem facTab_ok : ((List.range 4).all fun m => facTab (m + 1)) = true := by decide +kernel
theorem facTab_at {n : Nat} (h1 : 1 ≤ n) (h4 : n ≤ 4) : facTab n = true := by
  have := List.all_eq_true.1 facTab_ok (n - 1) (List.mem_range.2 (by omega))
  rwa [show n - 1 + 1 = n by omega] at this
theorem subCount_both (a0 a1 : Int) (R : List (List Int)) (hR : R.length ≤ 1048576) (hRl : ∀ w ∈ R, w.length ≤ 1048576) (hRw : ∀ w ∈ R, ∀ y ∈ w, (Lit.int .i64 y).wf = true) :
    ∃ r, Evt (fun K => spec_SubgroupCount.f K a0 R a1) r ∧ Evt (fun K => impl_SubgroupCount.f K a0 R a1) r ∧ (r.2 = 0 → presB a0 R = true ∧ ∃ g n : Nat, a0 = g ∧ a1 = n ∧ g ≤ 24 ∧ 1 ≤ n ∧ n ≤ 4 ∧ r.1 = wrap64 (Int.tdiv (((tup (permsF n n [] []) g).filter (keepT n R true (tOrb n))).length : Int) (rd [1, 1, 1, 2, 6] (n : Int))) ∧ (permsF n n [] []).length ^ g ≤ 200000) := by
  obtain ⟨⟨x, c⟩, h1, h2, h3⟩ := transCount_both a0 a1 R hR hRl hRw
  by_cases c0 : c = 0
  · subst c0
    obtain ⟨hp, g, n, rfl, rfl, hg, n1, n4, hx, hN⟩ := h3 rfl
    simp only at hx
    have hf := facTab_at n1 n4
    unfold facTab at hf
    rw [Bool.and_eq_true] at hf
    have f1 := of_decide_eq_true hf.1
    have f2 := of_decide_eq_true hf.2
    have fe : Evt (fun K => impl_factorial.f K (wrap64 ((n : Int) - 1))) (rd [1, 1, 1, 2, 6] (n : Int)) := ⟨20, fun K hK => at_rounds (g := fun K => impl_factorial.f K (wrap64 ((n : Int) - 1))) (impl_factorial.mono _) hK f1⟩
    refine ⟨(wrap64 (Int.tdiv x (rd [1, 1, 1, 2, 6] (n : Int))), 0), ?_, ?_, fun _ => ⟨hp, g, n, rfl, rfl, hg, n1, n4, by rw [hx], hN⟩⟩
    · refine Evt.bind h1 (h := fun K bt244 => if bt244.2 = 0 then ((some (([1, 1, 1, 2, 6] : List Int) : List Int)).bind fun y246 => (if 0 ≤ (n : Int) then (if (n : Int) < (y246.length : Int) then (if (rd y246 (n : Int)) = 0 then (none) else (some (wrap64 (Int.tdiv bt244.1 (rd y246 (n : Int))), 0))) else (none)) else (none))) else (some (0, bt244.2))) (Evt.const fun K => ?_) fun _ => rfl
      rw [if_pos rfl, Option.bind_some, if_pos (Int.natCast_nonneg n), if_pos (by show (n : Int) < 5; omega), if_neg f2]
    · refine Evt.bind h2 (h := fun K bt312 => if bt312.2 = 0 then ((impl_factorial.f K (wrap64 ((n : Int) - 1))).bind fun t314 => (if t314 = 0 then (none) else (some (wrap64 (Int.tdiv bt312.1 t314), 0)))) else (some (0, bt312.2))) ?_ fun _ => rfl
      exact Evt.bind fe (h := fun _ t314 => if t314 = 0 then (none) else (some (wrap64 (Int.tdiv x t314), 0))) (Evt.const fun K => if_neg f2) fun K => if_pos rfl
  · refine ⟨(0, c), ?_, ?_, fun h => absurd h c0⟩
    · exact Evt.bind h1 (h := fun K bt244 => if bt244.2 = 0 then ((some (([1, 1, 1, 2, 6] : List Int) : List Int)).bind fun y246 => (if 0 ≤ a1 then (if a1 < (y246.length : Int) then (if (rd y246 a1) = 0 then (none) else (some (wrap64 (Int.tdiv bt244.1 (rd y246 a1)), 0))) else (none)) else (none))) else (some (0, bt244.2))) (Evt.const fun K => if_neg c0) fun _ => rfl
    · exact Evt.bind h2 (h := fun K bt312 => if bt312.2 = 0 then ((impl_factorial.f K (wrap64 (a1 - 1))).bind fun t314 => (if t314 = 0 then (none) else (some (wrap64 (Int.tdiv bt312.1 t314), 0)))) else (some (0, bt312.2))) (Evt.const fun K => if_neg c0) fun _ => rfl

theorem FnExactSubgroupCount : laws_FnExactSubgroupCount.Pure := by
  intro a0 R a1 _ hR hRr _
  by_cases hb : R.length ≤ 1048576 ∧ ∀ x ∈ R, x.length ≤ 1048576
  · obtain ⟨b, ⟨c1, h1⟩, ⟨c2, h2⟩, _⟩ := subCount_both a0 a1 R hb.1 hb.2 (fun x hx => (hRr x hx).2)
    obtain ⟨K, hK⟩ : ∃ K : Nat, K = c1 + c2 + 2097300 := ⟨_, rfl⟩
    obtain ⟨K', hK'⟩ : ∃ K' : Nat, K = K' + 1 := ⟨K - 1, by omega⟩
    refine ⟨K, ?_⟩
    obtain ⟨r, e, hr1⟩ := szPresentation_eq a0 R 1048576 K (by omega) (by omega) hR (fun x hx => (hRr x hx).1) (by omega)
    unfold laws_FnExactSubgroupCount.f
    rw [e, Option.bind_some]
    by_cases h0 : r < 0
    · rw [if_pos h0]
    · have g1 := h1 K (by omega)
      have g2 := h2 K (by omega)
      simp only at g1 g2
      rw [if_neg h0, toPresentation_eq a0 R K hb.1 hb.2 (by omega), Option.bind_some]
      simp only
      rw [g1, Option.bind_some, Option.bind_some, g2, Option.bind_some, if_pos rfl, hK', laws_FnExactSubgroupCount.j0, if_neg (by simp), toPresentation_eq a0 R K' hb.1 hb.2 (by omega), Option.bind_some]
      simp only
      rw [eqPresentation_self a0 R 1048576 K' hb.1 (by omega) hb.2 (by omega), Option.bind_some, if_pos rfl]
  · obtain ⟨K, hK⟩ : ∃ K : Nat, K = 2097300 := ⟨_, rfl⟩
    refine ⟨K, ?_⟩
    obtain ⟨r, e, h⟩ := szPresentation_eq a0 R 1048576 K (by omega) (by omega) hR (fun x hx => (hRr x hx).1) (by omega)
    unfold laws_FnExactSubgroupCount.f
    rw [e, Option.bind_some]
    by_cases h0 : r < 0
    · rw [if_pos h0]
    · rcases h with h | ⟨_, _, g1, g2⟩
      · exact absurd h h0
      · exact absurd ⟨by omega, fun x hx => by have := g2 x hx; omega⟩ hb

end Go.Proofs.Ytinpfomadogadaa.Pure
