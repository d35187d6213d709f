/- Program and reference call the same lists of permutations transitive, and leave the argument. No condition: for every input that the statement lets in. -/
import Derived.Test.YtinpfomadogadaaStmtFnExactIsTransitive
namespace Go.Proofs.Ytinpfomadogadaa.Pure
open Go.RowKit Go.Proofs.Ytinpfomadogadaa.PFnExactIsTransitive Go.Proofs.YtinpfomadogadaaW.PrintWords Go.Proofs.YtinpfomadogadaaW.PrintLast

set_option linter.unusedSimpArgs false
set_option linter.unusedVariables false
theorem w64 (x : Int) (h0 : -9223372036854775808 ≤ x) (h1 : x ≤ 9223372036854775807) : wrap64 x = x := by
  unfold wrap64
  omega
theorem w64n (n : Nat) (h : n ≤ 9223372036854775807) : wrap64 (n : Int) = (n : Int) := w64 _ (by omega) (by omega)
theorem rd_nat (l : List Int) (i : Nat) (h : i < l.length) : rd l (i : Int) = l[i] := by
  simp [rd, List.getD, List.getElem?_eq_getElem h]
theorem succ_k {k n : Nat} (h : n < k) : ∃ m, k = m + 1 := ⟨k - 1, by omega⟩
theorem cast_succ (i : Nat) : ((i : Int) + 1) = ((i + 1 : Nat) : Int) := by omega
theorem drop_rd (l : List Int) (k : Nat) (h : k < l.length) : l.drop k = rd l (k : Int) :: l.drop (k + 1) := by
  rw [List.drop_eq_getElem_cons h, rd_nat l k h]


theorem szInt64S_eq (l : List Int) (a : Int) (h0 : 0 ≤ a) (h1 : a ≤ 1048576) (hl : l.length ≤ maxLen) : laws_szInt64S.f l a = some (if a < l.length then -1 else a - l.length) := by
  unfold maxLen at hl
  unfold laws_szInt64S.f
  rw [w64 _ (by omega) (by omega)]
  by_cases h : a < l.length
  · rw [if_pos (by omega), if_pos h]
  · rw [if_neg (by omega), if_neg h]


theorem rdL1_nat (l : List (List Int)) (i : Nat) (h : i < l.length) : rd_L1 l (i : Int) = l[i] := by
  simp [rd_L1, List.getD, List.getElem?_eq_getElem h]
theorem drop_rdL1 (l : List (List Int)) (k : Nat) (h : k < l.length) : l.drop k = rd_L1 l (k : Int) :: l.drop (k + 1) := by
  rw [List.drop_eq_getElem_cons h, rdL1_nat l k h]
theorem rdL1_mem (l : List (List Int)) (i : Nat) (h : i < l.length) : rd_L1 l (i : Int) ∈ l := by
  rw [rdL1_nat l i h]
  exact List.getElem_mem h


theorem szInt64SS_l0 (l : List (List Int)) (hl : l.length ≤ 1048576) (hr : ∀ x ∈ l, x.length ≤ maxLen) : ∀ (d i k : Nat) (a : Int), i + d = l.length → d < k → 0 ≤ a → a ≤ 1048576 →
    ∃ r, laws_szInt64SS.l0 k l a (i : Int) = some r ∧ (r < 0 ∨ (0 ≤ r ∧ r ≤ a ∧ ∀ x ∈ l.drop i, (x.length : Int) ≤ a)) := by
  intro d
  induction d with
  | zero =>
    intro i k a hd hk h0 h1
    obtain ⟨k, rfl⟩ := succ_k hk
    simp only [laws_szInt64SS.l0]
    rw [if_neg (by omega), List.drop_of_length_le (by omega)]
    exact ⟨a, rfl, .inr ⟨h0, Int.le_refl _, by simp⟩⟩
  | succ d ih =>
    intro i k a hd hk h0 h1
    obtain ⟨k, rfl⟩ := succ_k hk
    simp only [laws_szInt64SS.l0]
    rw [if_pos (by omega), if_pos (by omega), szInt64S_eq _ a h0 h1 (hr _ (rdL1_mem l i (by omega)))]
    simp only [Option.bind_some]
    by_cases h : a < (rd_L1 l (i : Int)).length
    · rw [if_pos h, if_pos (by omega)]
      exact ⟨-1, rfl, .inl (by omega)⟩
    · rw [if_neg h, if_neg (by omega), w64 _ (by omega) (by omega), cast_succ, drop_rdL1 l i (by omega)]
      obtain ⟨r, e, hr'⟩ := ih (i + 1) k (a - (rd_L1 l (i : Int)).length) (by omega) (by omega) (by omega) (by omega)
      refine ⟨r, e, ?_⟩
      rcases hr' with hr' | ⟨h2, h3, h4⟩
      · exact .inl hr'
      · refine .inr ⟨h2, by omega, fun x hx => ?_⟩
        rcases List.mem_cons.1 hx with e | hx
        · subst e
          omega
        · have := h4 x hx
          omega
theorem szInt64SS_eq (l : List (List Int)) (a : Int) (k : Nat) (h0 : 0 ≤ a) (h1 : a ≤ 1048576) (hl : l.length ≤ maxLen) (hr : ∀ x ∈ l, x.length ≤ maxLen) (hk : 1048576 < k) :
    ∃ r, laws_szInt64SS.f k l a = some r ∧ (r < 0 ∨ (0 ≤ r ∧ r ≤ a ∧ (l.length : Int) ≤ a ∧ ∀ x ∈ l, (x.length : Int) ≤ a)) := by
  unfold maxLen at hl
  unfold laws_szInt64SS.f
  rw [w64 _ (by omega) (by omega)]
  by_cases h : a - (l.length : Int) < 0
  · rw [if_pos h]
    exact ⟨-1, rfl, .inl (by omega)⟩
  · rw [if_neg h]
    obtain ⟨r, e, hr'⟩ := szInt64SS_l0 l (by omega) hr l.length 0 k (a - l.length) (by omega) (by omega) (by omega) (by omega)
    refine ⟨r, e, ?_⟩
    rcases hr' with hr' | ⟨h2, h3, h4⟩
    · exact .inl hr'
    · refine .inr ⟨h2, by omega, by omega, fun x hx => ?_⟩
      have := h4 x (by simpa using hx)
      omega


theorem toInt64S_l0 (l : List Int) (hl : l.length ≤ 4611686018427387904) : ∀ (d i : Nat) (x3 : List Int) (k : Nat), x3.length = l.length → i + d = l.length → x3.take i = l.take i → d < k → laws_toInt64S.l0 k l x3 (i : Int) = some l := by
  intro d
  induction d with
  | zero =>
    intro i x3 k h3 hd ht hk
    obtain ⟨k, rfl⟩ := succ_k hk
    simp only [laws_toInt64S.l0]
    rw [if_neg (by omega)]
    have e : i = l.length := by omega
    subst e
    rw [List.take_length, List.take_of_length_le (by omega)] at ht
    rw [ht]
  | succ d ih =>
    intro i x3 k h3 hd ht hk
    obtain ⟨k, rfl⟩ := succ_k hk
    simp only [laws_toInt64S.l0]
    rw [if_pos (by omega), if_pos (by omega), if_pos (by omega), w64 _ (by omega) (by omega), cast_succ]
    refine ih (i + 1) _ k (by simp [h3]) (by omega) ?_ (by omega)
    rw [Int.toNat_natCast, rd_nat l i (by omega)]
    rw [List.take_succ_eq_append_getElem (by simp; omega), List.take_succ_eq_append_getElem (by omega), List.take_set_of_le (by omega), ht]
    simp
theorem toInt64S_eq (l : List Int) (k : Nat) (hl : l.length ≤ 1048576) (hk : l.length < k) : laws_toInt64S.f k l = some l := by
  unfold laws_toInt64S.f
  rw [if_pos (by omega), if_pos (by omega)]
  exact toInt64S_l0 l (by omega) l.length 0 _ k (by simp) (by omega) (by simp) hk


theorem toInt64SS_l0 (l : List (List Int)) (hl : l.length ≤ 1048576) (hr : ∀ x ∈ l, x.length ≤ 1048576) : ∀ (d i : Nat) (x3 : List (List Int)) (k : Nat), x3.length = l.length → i + d = l.length → x3.take i = l.take i → d + 1048576 < k → laws_toInt64SS.l0 k l x3 (i : Int) = some l := by
  intro d
  induction d with
  | zero =>
    intro i x3 k h3 hd ht hk
    obtain ⟨k, rfl⟩ := succ_k hk
    simp only [laws_toInt64SS.l0]
    rw [if_neg (by omega)]
    have e : i = l.length := by omega
    subst e
    rw [List.take_length, List.take_of_length_le (by omega)] at ht
    rw [ht]
  | succ d ih =>
    intro i x3 k h3 hd ht hk
    obtain ⟨k, rfl⟩ := succ_k hk
    simp only [laws_toInt64SS.l0]
    have hm := hr _ (rdL1_mem l i (by omega))
    rw [if_pos (by omega), if_pos (by omega), toInt64S_eq _ k hm (by omega)]
    simp only [Option.bind_some]
    rw [if_pos (by omega), w64 _ (by omega) (by omega), cast_succ]
    refine ih (i + 1) _ k (by simp [h3]) (by omega) ?_ (by omega)
    rw [Int.toNat_natCast, rdL1_nat l i (by omega)]
    rw [List.take_succ_eq_append_getElem (by simp; omega), List.take_succ_eq_append_getElem (by omega), List.take_set_of_le (by omega), ht]
    simp
theorem toInt64SS_eq (l : List (List Int)) (k : Nat) (hl : l.length ≤ 1048576) (hr : ∀ x ∈ l, x.length ≤ 1048576) (hk : 2097152 < k) : laws_toInt64SS.f k l = some l := by
  unfold laws_toInt64SS.f
  rw [if_pos (by omega), if_pos (by omega)]
  exact toInt64SS_l0 l (by omega) hr l.length 0 _ k (by simp) (by omega) (by simp) (by omega)


theorem eqInt64S_l0 (l r : List Int) (hr : r.length = l.length) (hl : l.length ≤ 4611686018427387904) : ∀ (d i k : Nat), i + d = l.length → d < k → laws_eqInt64S.l0 k l r (i : Int) = some (decide (l.drop i = r.drop i)) := by
  intro d
  induction d with
  | zero =>
    intro i k hd hk
    obtain ⟨k, rfl⟩ := succ_k hk
    simp only [laws_eqInt64S.l0]
    rw [if_neg (by omega), List.drop_of_length_le (by omega), List.drop_of_length_le (by omega)]
    simp
  | succ d ih =>
    intro i k hd hk
    obtain ⟨k, rfl⟩ := succ_k hk
    simp only [laws_eqInt64S.l0]
    rw [if_pos (by omega), if_pos (by omega), if_pos (by omega), w64 _ (by omega) (by omega), cast_succ, ih (i + 1) k (by omega) (by omega), drop_rd l i (by omega), drop_rd r i (by omega)]
    by_cases h : rd l (i : Int) = rd r (i : Int)
    · simp [h]
    · simp [h]
theorem eqInt64S_eq (l r : List Int) (k : Nat) (hl : l.length ≤ 4611686018427387904) (hk : l.length < k) : laws_eqInt64S.f k l r = some (decide (l = r)) := by
  unfold laws_eqInt64S.f
  by_cases h : l.length = r.length
  · rw [if_pos (by omega)]
    have := eqInt64S_l0 l r h.symm hl l.length 0 k (by omega) hk
    simpa using this
  · rw [if_neg (by omega)]
    have : ¬ l = r := fun e => h (by rw [e])
    simp [this]
theorem eqInt64S_self (l : List Int) (k : Nat) (hl : l.length ≤ 4611686018427387904) (hk : l.length < k) : laws_eqInt64S.f k l l = some true := by
  rw [eqInt64S_eq l l k hl hk]
  simp


theorem eqInt64SS_l0 (l : List (List Int)) (hl : l.length ≤ 4611686018427387904) (n : Nat) (hn : n ≤ 4611686018427387904) (hr : ∀ x ∈ l, x.length ≤ n) : ∀ (d i k : Nat), i + d = l.length → d + n < k → laws_eqInt64SS.l0 k l l (i : Int) = some true := by
  intro d
  induction d with
  | zero =>
    intro i k hd hk
    obtain ⟨k, rfl⟩ := succ_k hk
    simp only [laws_eqInt64SS.l0]
    rw [if_neg (by omega)]
  | succ d ih =>
    intro i k hd hk
    obtain ⟨k, rfl⟩ := succ_k hk
    simp only [laws_eqInt64SS.l0]
    have hm := hr _ (rdL1_mem l i (by omega))
    rw [if_pos (by omega), if_pos (by omega), if_pos (by omega), eqInt64S_self _ k (by omega) (by omega)]
    simp only [Option.bind_some, if_true]
    rw [w64 _ (by omega) (by omega), cast_succ, ih (i + 1) k (by omega) (by omega)]
theorem eqInt64SS_self (l : List (List Int)) (n k : Nat) (hl : l.length ≤ 1048576) (hn : n ≤ 1048576) (hr : ∀ x ∈ l, x.length ≤ n) (hk : 2097152 < k) : laws_eqInt64SS.f k l l = some true := by
  unfold laws_eqInt64SS.f
  rw [if_pos rfl]
  exact eqInt64SS_l0 l (by omega) n (by omega) hr l.length 0 k (by omega) (by omega)


theorem len_le_of_sub : ∀ (l m : List Int), l.Nodup → (∀ x ∈ l, x ∈ m) → l.length ≤ m.length
  | [], m, _, _ => Nat.zero_le _
  | a :: l, m, h, hs => by
    obtain ⟨h1, h2⟩ := List.nodup_cons.1 h
    have ha : a ∈ m := hs a (by simp)
    have := len_le_of_sub l (m.erase a) h2 (fun x hx => (List.mem_erase_of_ne (fun (e : x = a) => h1 (e ▸ hx))).2 (hs x (List.mem_cons_of_mem _ hx)))
    rw [List.length_erase_of_mem ha] at this
    have hp : 0 < m.length := List.length_pos_of_mem ha
    rw [List.length_cons]
    omega
/-- The numbers below n. -/
def rangeI (n : Nat) : List Int := (List.range n).map fun (i : Nat) => (i : Int)
theorem rangeI_len (n : Nat) : (rangeI n).length = n := by simp [rangeI]
theorem rangeI_mem (n : Nat) (x : Int) : x ∈ rangeI n ↔ 0 ≤ x ∧ x < n := by
  unfold rangeI
  rw [List.mem_map]
  constructor
  · rintro ⟨i, hi, rfl⟩
    rw [List.mem_range] at hi
    omega
  · rintro ⟨h0, h1⟩
    exact ⟨x.toNat, by rw [List.mem_range]; omega, by omega⟩
theorem rangeI_nodup (n : Nat) : (rangeI n).Nodup := by
  unfold rangeI List.Nodup
  rw [List.pairwise_map]
  exact List.Pairwise.imp (fun h => by omega) (List.nodup_range (n := n))
def InN (n : Nat) (q : List Int) : Prop := ∀ x ∈ q, 0 ≤ x ∧ x < n
theorem short_of {n : Nat} {q : List Int} (h : q.Nodup) (hr : InN n q) : q.length ≤ n := by
  have := len_le_of_sub q (rangeI n) h (fun x hx => (rangeI_mem n x).2 (hr x hx))
  rwa [rangeI_len] at this
theorem full_of {n : Nat} {q : List Int} (h : q.Nodup) (hr : InN n q) (hl : n ≤ q.length) (y : Int) (h0 : 0 ≤ y) (h1 : y < n) : y ∈ q := by
  by_cases c : y ∈ q
  · exact c
  · have := short_of (q := y :: q) (List.nodup_cons.2 ⟨c, h⟩) (fun x hx => by
      rcases List.mem_cons.1 hx with rfl | hx
      · exact ⟨h0, h1⟩
      · exact hr x hx)
    rw [List.length_cons] at this
    omega
/-- A permutation of the numbers below n. -/
def PermN (n : Nat) (g : List Int) : Prop := g.length = n ∧ g.Nodup ∧ InN n g
theorem rd_in (l : List Int) (y : Int) (h0 : 0 ≤ y) (h1 : y < l.length) : rd l y ∈ l := by
  obtain ⟨m, rfl⟩ : ∃ m : Nat, y = m := ⟨y.toNat, by omega⟩
  rw [rd_nat l m (by omega)]
  exact List.getElem_mem _
theorem PermN.at {n : Nat} {g : List Int} (h : PermN n g) {y : Int} (h0 : 0 ≤ y) (h1 : y < n) : 0 ≤ rd g y ∧ rd g y < n := h.2.2 _ (rd_in g y h0 (by have := h.1; omega))
theorem PermN.inj {n : Nat} {g : List Int} (h : PermN n g) {a b : Int} (a0 : 0 ≤ a) (a1 : a < n) (b0 : 0 ≤ b) (b1 : b < n) (e : rd g a = rd g b) : a = b := by
  obtain ⟨i, rfl⟩ : ∃ m : Nat, a = m := ⟨a.toNat, by omega⟩
  obtain ⟨j, rfl⟩ : ∃ m : Nat, b = m := ⟨b.toNat, by omega⟩
  have hl := h.1
  rw [rd_nat g i (by omega), rd_nat g j (by omega)] at e
  have hp := List.pairwise_iff_getElem.1 h.2.1
  rcases Nat.lt_trichotomy i j with c | c | c
  · exact absurd e (hp i j (by omega) (by omega) c)
  · rw [c]
  · exact absurd e.symm (hp j i (by omega) (by omega) c)
/-- What a permutation sends into a closed set came out of it. -/
theorem PermN.back {n : Nat} {g : List Int} (h : PermN n g) {S : List Int} (hS : S.Nodup) (hr : InN n S) (hc : ∀ y ∈ S, rd g y ∈ S) {y : Int} (h0 : 0 ≤ y) (h1 : y < n) (hy : rd g y ∈ S) : y ∈ S := by
  by_cases c : y ∈ S
  · exact c
  · have hn : ((y :: S).map fun z => rd g z).Nodup := by
      unfold List.Nodup
      rw [List.pairwise_map]
      refine List.Pairwise.imp_of_mem (fun {a b} ha hb hab e => ?_) (List.nodup_cons.2 ⟨c, hS⟩)
      have ia : 0 ≤ a ∧ a < n := by rcases List.mem_cons.1 ha with rfl | ha; exact ⟨h0, h1⟩; exact hr a ha
      have ib : 0 ≤ b ∧ b < n := by rcases List.mem_cons.1 hb with rfl | hb; exact ⟨h0, h1⟩; exact hr b hb
      exact hab (h.inj ia.1 ia.2 ib.1 ib.2 e)
    have := len_le_of_sub _ S hn (fun x hx => by
      obtain ⟨z, hz, rfl⟩ := List.mem_map.1 hx
      rcases List.mem_cons.1 hz with rfl | hz
      · exact hy
      · exact hc z hz)
    rw [List.length_map, List.length_cons] at this
    omega
/-- The marks of a list. -/
def mkB (n : Nat) (q : List Int) : List Bool := (List.range n).map fun (i : Nat) => decide ((i : Int) ∈ q)
theorem mkB_length (n : Nat) (q : List Int) : (mkB n q).length = n := by simp [mkB]
theorem rdB (n : Nat) (q : List Int) (c : Int) (h0 : 0 ≤ c) (h1 : c < n) : rdOf false (mkB n q) c = decide (c ∈ q) := by
  obtain ⟨m, rfl⟩ : ∃ m : Nat, c = m := ⟨c.toNat, by omega⟩
  unfold rdOf mkB
  rw [Int.toNat_natCast, List.getD_eq_getElem?_getD, List.getElem?_map, List.getElem?_range (by omega)]
  rfl
theorem mkB_set (n : Nat) (q : List Int) (c : Int) (h0 : 0 ≤ c) : (mkB n q).set c.toNat true = mkB n (q ++ [c]) := by
  refine List.ext_getElem (by simp [mkB]) fun i h1 h2 => ?_
  simp only [mkB, List.getElem_set, List.getElem_map, List.getElem_range]
  by_cases e : c.toNat = i
  · rw [if_pos e]
    have : (i : Int) ∈ q ++ [c] := by simp; omega
    simp [this]
  · rw [if_neg e]
    have : ((i : Int) ∈ q ++ [c]) ↔ ((i : Int) ∈ q) := by
      rw [List.mem_append, List.mem_singleton]
      constructor
      · rintro (h | h)
        · exact h
        · omega
      · exact Or.inl
    exact decide_eq_decide.2 this.symm
theorem mkB_nil (n : Nat) : List.replicate n false = mkB n [] := by
  refine List.ext_getElem (by simp [mkB]) fun i h1 h2 => ?_
  unfold mkB
  simp
/-- A number is put to the list, if it is not there. -/
def pushO (o q : List Int) (c : Int) : List Int := if c ∈ o ++ q then q else q ++ [c]
def Good (n : Nat) (o q : List Int) : Prop := (o ++ q).Nodup ∧ InN n (o ++ q)
theorem Good.push {n : Nat} {o q : List Int} (h : Good n o q) {c : Int} (h0 : 0 ≤ c) (h1 : c < n) : Good n o (pushO o q c) := by
  unfold pushO
  split
  · exact h
  · rename_i hc
    refine ⟨?_, fun x hx => ?_⟩
    · rw [← List.append_assoc]
      refine List.nodup_append.2 ⟨h.1, by simp, fun a ha b hb e => ?_⟩
      rw [List.mem_singleton] at hb
      exact hc (hb ▸ e ▸ ha)
    · rw [← List.append_assoc, List.mem_append, List.mem_singleton] at hx
      rcases hx with hx | rfl
      · exact h.2 x hx
      · exact ⟨h0, h1⟩
theorem pushO_pre (o q : List Int) (c : Int) : ∃ t, pushO o q c = q ++ t := by
  unfold pushO
  split
  · exact ⟨[], by simp⟩
  · exact ⟨[c], rfl⟩
theorem pushO_in (o q : List Int) (c : Int) : c ∈ o ++ pushO o q c := by
  unfold pushO
  split
  · assumption
  · simp
theorem pushO_mem (o q : List Int) (c x : Int) (h : x ∈ pushO o q c) : x ∈ q ∨ x = c := by
  unfold pushO at h
  split at h
  · exact .inl h
  · simpa using h
theorem foldO {n : Nat} {o : List Int} : ∀ (cs q : List Int), Good n o q → InN n cs → Good n o (cs.foldl (pushO o) q) ∧ (∃ t, cs.foldl (pushO o) q = q ++ t) ∧ (∀ c ∈ cs, c ∈ o ++ cs.foldl (pushO o) q) ∧ ∀ x ∈ cs.foldl (pushO o) q, x ∈ q ∨ x ∈ cs
  | [], q, h, _ => ⟨h, ⟨[], by simp⟩, fun _ hc => absurd hc (by simp), fun x hx => .inl hx⟩
  | c :: cs, q, h, hr => by
    have hc := hr c (by simp)
    obtain ⟨h1, ⟨t, h2⟩, h3, h4⟩ := foldO cs (pushO o q c) (h.push hc.1 hc.2) (fun x hx => hr x (List.mem_cons_of_mem _ hx))
    obtain ⟨t1, e1⟩ := pushO_pre o q c
    rw [List.foldl_cons]
    refine ⟨h1, ⟨t1 ++ t, by rw [h2, e1, List.append_assoc]⟩, fun x hx => ?_, fun x hx => ?_⟩
    · rcases List.mem_cons.1 hx with rfl | hx
      · have := pushO_in o q x
        rw [h2]
        rw [List.mem_append] at this ⊢
        rcases this with h | h
        · exact .inl h
        · exact .inr (List.mem_append_left _ h)
      · exact h3 x hx
    · rcases h4 x hx with h | h
      · rcases pushO_mem o q c x h with h | h
        · exact .inl h
        · exact .inr (by simp [h])
      · exact .inr (List.mem_cons_of_mem _ h)
/-- All that can be reached, first come, first served. -/
def bfsO (o : List Int) (cand : Int → List Int) : Nat → Nat → List Int → List Int
  | 0, _, q => q
  | d + 1, i, q => if i < q.length then bfsO o cand d (i + 1) ((cand (rd q (i : Int))).foldl (pushO o) q) else q
theorem rd_pre (q t : List Int) (i : Nat) (h : i < q.length) : rd (q ++ t) (i : Int) = rd q (i : Int) := by
  rw [rd_nat q i h, rd_nat (q ++ t) i (by simp; omega), List.getElem_append_left]
theorem mem_rd (q : List Int) (x : Int) (h : x ∈ q) : ∃ j : Nat, j < q.length ∧ rd q (j : Int) = x := by
  obtain ⟨j, hj, e⟩ := List.getElem_of_mem h
  exact ⟨j, hj, by rw [rd_nat q j hj, e]⟩
theorem Good.len {n : Nat} {o q : List Int} (h : Good n o q) : q.length ≤ n := by
  have := short_of h.1 h.2
  rw [List.length_append] at this
  omega
theorem Good.right {n : Nat} {o q : List Int} (h : Good n o q) : q.Nodup ∧ InN n q := ⟨(List.nodup_append.1 h.1).2.1, fun x hx => h.2 x (List.mem_append_right _ hx)⟩
theorem bfsO_facts {n : Nat} {o : List Int} {cand : Int → List Int} (hc : ∀ y : Int, 0 ≤ y → y < n → InN n (cand y)) : ∀ (d i : Nat) (q : List Int), Good n o q → i ≤ q.length → n < d + i →
    (∀ j : Nat, j < i → ∀ c ∈ cand (rd q (j : Int)), c ∈ o ++ q) →
    Good n o (bfsO o cand d i q) ∧ (∀ x ∈ q, x ∈ bfsO o cand d i q) ∧ (∀ y ∈ bfsO o cand d i q, ∀ c ∈ cand y, c ∈ o ++ bfsO o cand d i q) ∧
      ∀ P : Int → Prop, (∀ y : Int, 0 ≤ y → y < n → P y → ∀ c ∈ cand y, P c) → (∀ y ∈ q, P y) → ∀ y ∈ bfsO o cand d i q, P y
  | 0, i, q, h, hi, hd, _ => by
    have := h.len
    omega
  | d + 1, i, q, h, hi, hd, hp => by
    unfold bfsO
    by_cases c : i < q.length
    · rw [if_pos c]
      have hy := h.right.2 _ (rd_in q (i : Int) (by omega) (by omega))
      obtain ⟨h1, ⟨t, h2⟩, h3, h4⟩ := foldO (n := n) (o := o) (cand (rd q (i : Int))) q h (hc _ hy.1 hy.2)
      obtain ⟨g1, g2, g3, g4⟩ := bfsO_facts hc d (i + 1) _ h1 (by rw [h2]; simp; omega) (by omega) (fun j hj x hx => by
        by_cases e : j = i
        · subst e
          rw [h2, rd_pre q t j c] at hx
          exact h3 x hx
        · rw [h2, rd_pre q t j (by omega)] at hx
          have := hp j (by omega) x hx
          rw [h2, ← List.append_assoc]
          exact List.mem_append_left _ this)
      refine ⟨g1, fun x hx => g2 x (by rw [h2]; exact List.mem_append_left _ hx), g3, fun P hP hq => g4 P hP fun y hy2 => ?_⟩
      rcases h4 y hy2 with h | h
      · exact hq y h
      · exact hP _ hy.1 hy.2 (hq _ (rd_in q (i : Int) (by omega) (by omega))) y h
    · rw [if_neg c]
      refine ⟨h, fun x hx => hx, fun y hy x hx => ?_, fun P _ hq => hq⟩
      obtain ⟨j, hj, rfl⟩ := mem_rd q y hy
      exact hp j (by omega) x hx


/-- With enough rounds, the answer is r. -/
def Evt {α : Type} (f : Nat → Option α) (r : α) : Prop := ∃ c, ∀ K, c ≤ K → f K = some r
theorem Evt.step {α : Type} {f g : Nat → Option α} {r : α} (h : Evt g r) (e : ∀ K, f (K + 1) = g K) : Evt f r := by
  obtain ⟨c, hc⟩ := h
  refine ⟨c + 1, fun K hK => ?_⟩
  obtain ⟨K, rfl⟩ : ∃ m, K = m + 1 := ⟨K - 1, by omega⟩
  rw [e K]
  exact hc K (by omega)
theorem Evt.same {α : Type} {f g : Nat → Option α} {r : α} (h : Evt g r) (e : ∀ K, f K = g K) : Evt f r := by
  obtain ⟨c, hc⟩ := h
  exact ⟨c, fun K hK => by rw [e K]; exact hc K hK⟩
theorem Evt.now {α : Type} {f : Nat → Option α} {r : α} (e : ∀ K, f (K + 1) = some r) : Evt f r := by
  refine ⟨1, fun K hK => ?_⟩
  obtain ⟨K, rfl⟩ : ∃ m, K = m + 1 := ⟨K - 1, by omega⟩
  exact e K
theorem Evt.const {α : Type} {f : Nat → Option α} {r : α} (e : ∀ K, f K = some r) : Evt f r := ⟨0, fun K _ => e K⟩
theorem Evt.bind {α β : Type} {f : Nat → Option β} {g : Nat → Option α} {h : Nat → α → Option β} {x : α} {r : β} (hg : Evt g x) (hh : Evt (fun K => h K x) r) (e : ∀ K, f K = (g K).bind (h K)) : Evt f r := by
  obtain ⟨c, hc⟩ := hg
  obtain ⟨d, hd⟩ := hh
  exact ⟨c + d, fun K hK => by rw [e K, hc K (by omega)]; exact hd K (by omega)⟩
theorem Evt.bind1 {α β : Type} {f : Nat → Option β} {g : Nat → Option α} {h : Nat → α → Option β} {x : α} {r : β} (hg : Evt g x) (hh : Evt (fun K => h K x) r) (e : ∀ K, f (K + 1) = (g K).bind (h K)) : Evt f r :=
  Evt.step (g := fun K => (g K).bind (h K)) (Evt.bind hg hh fun _ => rfl) e
theorem Evt.get {α : Type} {f : Nat → Option α} {r : α} (h : Evt f r) : ∃ c, ∀ K, c ≤ K → f K = some r := h

/-- The place of a number in a list; -1, if it is not there. -/
def idxF : List Int → Int → Nat → Int
  | [], _, _ => -1
  | x :: t, y, i => if x = y then (i : Int) else idxF t y (i + 1)
theorem idxF_at : ∀ (t : List Int) (y : Int) (i : Nat), y ∈ t → ∃ m : Nat, m < t.length ∧ idxF t y i = ((i + m : Nat) : Int) ∧ rd t (m : Int) = y
  | [], y, i, h => absurd h (by simp)
  | x :: t, y, i, h => by
    unfold idxF
    by_cases c : x = y
    · rw [if_pos c]
      exact ⟨0, by simp, rfl, c⟩
    · rw [if_neg c]
      obtain ⟨m, h1, h2, h3⟩ := idxF_at t y (i + 1) (by
        rcases List.mem_cons.1 h with e | e
        · exact absurd e.symm c
        · exact e)
      refine ⟨m + 1, by rw [List.length_cons]; omega, by rw [h2]; congr 1; omega, ?_⟩
      rw [← h3]
      simp only [rd, Int.toNat_natCast]
      rfl
/-- Where a permutation comes from. -/
def invI (g : List Int) (y : Int) : Int := idxF g y 0
theorem invI_at {n : Nat} {g : List Int} (h : PermN n g) {y : Int} (h0 : 0 ≤ y) (h1 : y < n) : (0 ≤ invI g y ∧ invI g y < n) ∧ rd g (invI g y) = y := by
  obtain ⟨m, h2, h3, h4⟩ := idxF_at g y 0 (full_of h.2.1 h.2.2 (by rw [h.1]; exact Nat.le_refl _) y h0 h1)
  rw [h.1] at h2
  rw [Nat.zero_add] at h3
  unfold invI
  rw [h3]
  exact ⟨⟨by omega, by omega⟩, h4⟩
theorem letter_l0 (y : Int) (g : List Int) (hl : g.length ≤ 1048576) : ∀ (d i : Nat), i + d = g.length → Evt (fun K => spec_l15Letter.l0 K y g (i : Int)) (idxF (g.drop i) y i)
  | 0, i, hd => by
    refine Evt.now fun K => ?_
    rw [spec_l15Letter.l0, if_neg (by omega), List.drop_of_length_le (by omega)]
    rfl
  | d + 1, i, hd => by
    have hi : i < g.length := by omega
    have hd2 : i + 1 + d = g.length := by omega
    have ei : wrap64 ((i : Int) + 1) = ((i + 1 : Nat) : Int) := w64n (i + 1) (by omega)
    have f1 : (i : Int) < (g.length : Int) := Int.ofNat_lt.2 hi
    rw [drop_rd g i hi]
    unfold idxF
    by_cases c : rd g (i : Int) = y
    · rw [if_pos c]
      exact Evt.now fun K => by rw [spec_l15Letter.l0, if_pos f1, if_pos (Int.natCast_nonneg i), if_pos c]
    · rw [if_neg c]
      exact Evt.step (letter_l0 y g hl d (i + 1) hd2) fun K => by rw [spec_l15Letter.l0, if_pos f1, if_pos (Int.natCast_nonneg i), if_neg c, ei]
theorem letter_fwd (K : Nat) (G : List (List Int)) (j : Nat) (hj : j < G.length) (hl : G.length ≤ 1048576) (y : Int) (h0 : 0 ≤ y) (h1 : y < ((rd_L1 G (j : Int)).length : Int)) : spec_l15Letter.f K G ((j + 1 : Nat) : Int) y = some (rd (rd_L1 G (j : Int)) y) := by
  have e1 : wrap64 (((j + 1 : Nat) : Int) - 1) = (j : Int) := by rw [show ((j + 1 : Nat) : Int) - 1 = (j : Int) by omega]; exact w64n j (by omega)
  unfold spec_l15Letter.f
  rw [if_neg (by omega), if_pos (by omega), e1, if_pos (Int.natCast_nonneg j), if_pos (Int.ofNat_lt.2 hj), if_pos h0, if_pos h1]
theorem letter_inv (G : List (List Int)) (j : Nat) (hj : j < G.length) (hl : G.length ≤ 1048576) (y : Int) (hg : (rd_L1 G (j : Int)).length ≤ 1048576) : Evt (fun K => spec_l15Letter.f K G (wrap64 (-((j + 1 : Nat) : Int))) y) (invI (rd_L1 G (j : Int)) y) := by
  have e0 : wrap64 (-((j + 1 : Nat) : Int)) = -((j + 1 : Nat) : Int) := w64 _ (by omega) (by omega)
  have e1 : wrap64 ((wrap64 (-(-((j + 1 : Nat) : Int)))) - 1) = (j : Int) := by
    rw [Int.neg_neg, w64n (j + 1) (by clear e0; omega), show ((j + 1 : Nat) : Int) - 1 = (j : Int) by clear e0; omega]
    exact w64n j (by clear e0; omega)
  have h := letter_l0 y (rd_L1 G (j : Int)) hg (rd_L1 G (j : Int)).length 0 (Nat.zero_add _)
  rw [List.drop_zero] at h
  refine Evt.same h fun K => ?_
  rw [e0]
  unfold spec_l15Letter.f
  rw [if_neg (by clear e0 e1; omega), if_neg (by clear e0 e1; omega), e1, if_pos (Int.natCast_nonneg j), if_pos (Int.ofNat_lt.2 hj)]
  rfl
/-- The images of a point under the letters and their inverses. -/
def candS (G : List (List Int)) (y : Int) : List Int := G.flatMap fun g => [rd g y, invI g y]
theorem candS_in {n : Nat} {G : List (List Int)} (hG : ∀ g ∈ G, PermN n g) (y : Int) (h0 : 0 ≤ y) (h1 : y < n) : InN n (candS G y) := by
  intro x hx
  obtain ⟨g, hg, hx⟩ := List.mem_flatMap.1 hx
  rcases List.mem_cons.1 hx with rfl | hx
  · exact (hG g hg).at h0 h1
  · rw [List.mem_singleton] at hx
    rw [hx]
    exact (invI_at (hG g hg) h0 h1).1

theorem st_l2 {n : Nat} (hn : n ≤ 8) (G : List (List Int)) (i j : Nat) (C : List Int) (hC : C.length = 2) (r : Bool) (p : Nat) (hp : p < 2) (q : List Int) (hq : q.length ≤ n) (c : Int) (hc : c = rd C (p : Int)) (h0 : 0 ≤ c) (h1 : c < n)
    (h : Evt (fun K => spec_IsTransitive.l2 K (n : Int) G (mkB n (pushO [] q c)) (pushO [] q c) (i : Int) ((j + 1 : Nat) : Int) C ((p + 1 : Nat) : Int)) r) :
    Evt (fun K => spec_IsTransitive.l2 K (n : Int) G (mkB n q) q (i : Int) ((j + 1 : Nat) : Int) C (p : Int)) r := by
  have ep : wrap64 ((p : Int) + 1) = ((p + 1 : Nat) : Int) := w64n (p + 1) (by omega)
  have f1 : (p : Int) < 2 := by clear ep; omega
  have f2 : (p : Int) < (C.length : Int) := by rw [hC]; exact f1
  have f6 : c < ((mkB n q).length : Int) := by rw [mkB_length]; exact h1
  have f7 : q.length < 17592186044416 := Nat.lt_of_le_of_lt (Nat.le_trans hq hn) (by decide)
  refine Evt.step h fun K => ?_
  rw [spec_IsTransitive.l2, if_pos f1, if_pos (Int.natCast_nonneg p), if_pos f2, ← hc, if_pos h0, if_pos f6, rdB n _ c h0 h1, ep]
  by_cases e : c ∈ q
  · have e1 : pushO [] q c = q := if_pos e
    rw [e1, if_pos (decide_eq_true e)]
  · have e1 : pushO [] q c = q ++ [c] := if_neg e
    rw [e1, if_neg (by simpa using e), if_pos f7, mkB_set n _ c h0]
theorem st_l1 {n : Nat} (hn : n ≤ 8) {G : List (List Int)} (hG : ∀ g ∈ G, PermN n g) (hl : G.length ≤ 1048576) (i : Nat) (y : Int) (h0 : 0 ≤ y) (h1 : y < n) (r : Bool) :
    ∀ (d j : Nat) (q : List Int), j + d = G.length → i < q.length → rd q (i : Int) = y → Good n [] q →
      Evt (fun K => spec_IsTransitive.l0 K (n : Int) G (mkB n (((G.drop j).flatMap fun g => [rd g y, invI g y]).foldl (pushO []) q)) (((G.drop j).flatMap fun g => [rd g y, invI g y]).foldl (pushO []) q) ((i + 1 : Nat) : Int)) r →
      Evt (fun K => spec_IsTransitive.l1 K (n : Int) G (mkB n q) q (i : Int) ((j + 1 : Nat) : Int)) r
  | 0, j, q, hd, hi, hy, hg, h => by
    rw [List.drop_of_length_le (by omega)] at h
    have hq := hg.len
    have f1 : ¬ ((j + 1 : Nat) : Int) ≤ (G.length : Int) := by omega
    have ei : wrap64 ((i : Int) + 1) = ((i + 1 : Nat) : Int) := w64n (i + 1) (by omega)
    refine Evt.step h fun K => ?_
    rw [spec_IsTransitive.l1, if_neg f1, ei]
    rfl
  | d + 1, j, q, hd, hi, hy, hg, h => by
    have hq := hg.len
    have hj : j < G.length := by omega
    have hd2 : (j + 1) + d = G.length := by omega
    have f1 : ((j + 1 : Nat) : Int) ≤ (G.length : Int) := by omega
    have ej : wrap64 (((j + 1 : Nat) : Int) + 1) = ((j + 1 + 1 : Nat) : Int) := w64n (j + 1 + 1) (by omega)
    have f3 : (0 : Int) ≤ (i : Int) := Int.natCast_nonneg i
    have f4 : (i : Int) < (q.length : Int) := Int.ofNat_lt.2 hi
    have hm := rdL1_mem G j hj
    have hp := hG _ hm
    have l1 := fun K : Nat => letter_fwd K G j hj hl y h0 (by rw [hp.1]; exact h1)
    have l2 := letter_inv G j hj hl y (by rw [hp.1]; exact Nat.le_trans hn (by decide))
    have hc := hp.at h0 h1
    have hc2 := (invI_at hp h0 h1).1
    rw [drop_rdL1 G j hj, List.flatMap_cons] at h
    obtain ⟨c1, e1⟩ : ∃ c, c = rd (rd_L1 G (j : Int)) y := ⟨_, rfl⟩
    obtain ⟨c2, e2⟩ : ∃ c, c = invI (rd_L1 G (j : Int)) y := ⟨_, rfl⟩
    rw [← e1] at h hc l1
    rw [← e2] at h hc2 l2
    rw [List.foldl_append, List.foldl_cons, List.foldl_cons, List.foldl_nil] at h
    have hg1 := hg.push hc.1 hc.2
    have hg2 := hg1.push hc2.1 hc2.2
    obtain ⟨t1, ht1⟩ := pushO_pre [] q c1
    obtain ⟨t2, ht2⟩ := pushO_pre [] (pushO [] q c1) c2
    have ht : pushO [] (pushO [] q c1) c2 = q ++ (t1 ++ t2) := by rw [ht2, ht1, List.append_assoc]
    have hi2 : i < (pushO [] (pushO [] q c1) c2).length := by rw [ht, List.length_append]; exact Nat.lt_of_lt_of_le hi (Nat.le_add_right _ _)
    have ih := st_l1 hn hG hl i y h0 h1 r d (j + 1) _ hd2 hi2 (by rw [ht, rd_pre q _ i hi, hy]) hg2 h
    have s3 : Evt (fun K => spec_IsTransitive.l2 K (n : Int) G (mkB n (pushO [] (pushO [] q c1) c2)) (pushO [] (pushO [] q c1) c2) (i : Int) ((j + 1 : Nat) : Int) [c1, c2] ((1 + 1 : Nat) : Int)) r := by
      refine Evt.step ih fun K => ?_
      rw [spec_IsTransitive.l2, if_neg (by simp), ej]
    have s2 := st_l2 hn G i j [c1, c2] rfl r 1 (by decide) _ hg1.len c2 rfl hc2.1 hc2.2 s3
    have s1 := st_l2 hn G i j [c1, c2] rfl r 0 (by decide) q hq c1 rfl hc.1 hc.2 s2
    refine Evt.bind1 (g := fun K => spec_l15Letter.f K G (wrap64 (-((j + 1 : Nat) : Int))) y) (h := fun K t => spec_IsTransitive.l2 K (n : Int) G (mkB n q) q (i : Int) ((j + 1 : Nat) : Int) [c1, t] 0) l2 s1 fun K => ?_
    rw [spec_IsTransitive.l1, if_pos f1, if_pos f3, if_pos f4, hy, l1 K, Option.bind_some]
theorem st_l0 {n : Nat} (hn : n ≤ 8) {G : List (List Int)} (hG : ∀ g ∈ G, PermN n g) (hl : G.length ≤ 1048576) :
    ∀ (d i : Nat) (q : List Int), Good n [] q → i ≤ q.length → n < d + i →
      Evt (fun K => spec_IsTransitive.l0 K (n : Int) G (mkB n q) q (i : Int)) (decide ((bfsO [] (candS G) d i q).length = n))
  | 0, i, q, hg, hi, hd => by
    have := hg.len
    omega
  | d + 1, i, q, hg, hi, hd => by
    unfold bfsO
    by_cases c : i < q.length
    · rw [if_pos c]
      have hy := hg.right.2 _ (rd_in q (i : Int) (by omega) (by omega))
      obtain ⟨g1, ⟨t, g2⟩, g3, g4⟩ := foldO (n := n) (o := []) (candS G (rd q (i : Int))) q hg (candS_in hG _ hy.1 hy.2)
      have ih := st_l0 hn hG hl d (i + 1) _ g1 (by rw [g2]; simp; omega) (by omega)
      have h2 := st_l1 hn hG hl i (rd q (i : Int)) hy.1 hy.2 _ G.length 0 q (by omega) c rfl hg ih
      refine Evt.step h2 fun K => ?_
      rw [spec_IsTransitive.l0, if_pos (by omega)]
      rfl
    · rw [if_neg c]
      refine Evt.now fun K => ?_
      rw [spec_IsTransitive.l0, if_neg (by omega)]
      refine congrArg some ?_
      rw [show ((q.length : Int) == (n : Int)) = decide ((q.length : Int) = (n : Int)) from rfl]
      exact decide_eq_decide.2 (by omega)

theorem rdSet (l : List Int) (p q : Nat) (h : p < l.length) (v : Int) : rd (l.set p v) (q : Int) = if q = p then v else rd l (q : Int) := by
  unfold rd
  rw [Int.toNat_natCast, List.getD_eq_getElem?_getD, List.getD_eq_getElem?_getD]
  by_cases e : p = q
  · subst e
    rw [if_pos rfl, List.getElem?_set_self h]
    rfl
  · rw [if_neg (Ne.symm e), List.getElem?_set_ne e]
/-- The first entries stand in order. -/
def SortedTo (i : Nat) (x : List Int) : Prop := ∀ a b : Nat, a < b → b < i → rd x (a : Int) ≤ rd x (b : Int)
theorem less_eq (a b : Int) : cmp_Less_int64.f a b = some (decide (a < b)) := by
  unfold cmp_Less_int64.f cmp_isNaN_int64.f
  simp
theorem sort_l1 (L i : Nat) (hL : L ≤ 1000) (hi : i < L) (Q : List Int → Prop) : ∀ (j : Nat) (x : List Int), j ≤ i → x.length = L → (∀ a b : Nat, a < b → b ≤ i → b ≠ j → rd x (a : Int) ≤ rd x (b : Int)) →
    (∀ x' : List Int, x'.Perm x → SortedTo (i + 1) x' → ∃ r, Evt (fun K => slices_insertionSortOrdered_int64.l0 K x' 0 (L : Int) ((i + 1 : Nat) : Int)) r ∧ Q r) →
    ∃ r, Evt (fun K => slices_insertionSortOrdered_int64.l1 K x 0 (L : Int) (i : Int) (j : Int)) r ∧ Q r
  | 0, x, hj, hx, hs, hk => by
    obtain ⟨r, h1, h2⟩ := hk x (List.Perm.refl _) (fun a b hab hb => hs a b hab (by omega) (by omega))
    have e2 : wrap64 ((i : Int) + 1) = ((i + 1 : Nat) : Int) := w64n (i + 1) (by omega)
    refine ⟨r, Evt.step h1 fun K => ?_, h2⟩
    rw [slices_insertionSortOrdered_int64.l1, if_neg (by simp), e2]
  | j + 1, x, hj, hx, hs, hk => by
    have e2 : wrap64 ((i : Int) + 1) = ((i + 1 : Nat) : Int) := w64n (i + 1) (by omega)
    have e1 : wrap64 (((j + 1 : Nat) : Int) - 1) = (j : Int) := by rw [show ((j + 1 : Nat) : Int) - 1 = (j : Int) by omega]; exact w64n j (by omega)
    have hf : ∀ K, slices_insertionSortOrdered_int64.l1 (K + 1) x 0 (L : Int) (i : Int) ((j + 1 : Nat) : Int) = (if rd x ((j + 1 : Nat) : Int) < rd x (j : Int) then slices_insertionSortOrdered_int64.l1 K ((x.set (j + 1) (rd x (j : Int))).set j (rd x ((j + 1 : Nat) : Int))) 0 (L : Int) (i : Int) (j : Int) else slices_insertionSortOrdered_int64.l0 K x 0 (L : Int) ((i + 1 : Nat) : Int)) := by
      intro K
      rw [slices_insertionSortOrdered_int64.l1, if_pos (by omega), if_pos (by omega), if_pos (by omega), e1, if_pos (by omega), if_pos (by omega), less_eq, Option.bind_some, e2, Int.toNat_natCast, Int.toNat_natCast]
      by_cases c : rd x ((j + 1 : Nat) : Int) < rd x (j : Int)
      · rw [if_pos c, if_pos (decide_eq_true c)]
      · rw [if_neg c, if_neg (by simpa using c)]
    by_cases c : rd x ((j + 1 : Nat) : Int) < rd x (j : Int)
    · have hp : ((x.set (j + 1) (rd x (j : Int))).set j (rd x ((j + 1 : Nat) : Int))).Perm x := by
        rw [rd_nat x j (by omega), rd_nat x (j + 1) (by omega)]
        exact List.set_set_perm (by omega) (by omega)
      have hv : ∀ q : Nat, rd ((x.set (j + 1) (rd x (j : Int))).set j (rd x ((j + 1 : Nat) : Int))) (q : Int) = if q = j then rd x ((j + 1 : Nat) : Int) else if q = j + 1 then rd x (j : Int) else rd x (q : Int) := by
        intro q
        rw [rdSet _ j q (by simp; omega), rdSet x (j + 1) q (by omega)]
      obtain ⟨r, h1, h2⟩ := sort_l1 L i hL hi Q j _ (by omega) (by simp [hx]) (fun a b hab hb hne => by
        rw [hv a, hv b, if_neg hne]
        by_cases b1 : b = j + 1
        · rw [if_pos b1]
          by_cases a1 : a = j
          · rw [if_pos a1]
            omega
          · rw [if_neg a1, if_neg (by omega)]
            exact hs a j (by omega) (by omega) (by omega)
        · rw [if_neg b1]
          have h3 := hs a b hab hb b1
          by_cases a1 : a = j
          · rw [if_pos a1]
            exact hs (j + 1) b (by omega) hb b1
          · rw [if_neg a1]
            by_cases a2 : a = j + 1
            · rw [if_pos a2]
              exact hs j b (by omega) hb b1
            · rw [if_neg a2]
              exact h3) (fun x' hx' hs' => hk x' (hx'.trans hp) hs')
      exact ⟨r, Evt.step h1 fun K => by rw [hf, if_pos c], h2⟩
    · obtain ⟨r, h1, h2⟩ := hk x (List.Perm.refl _) (fun a b hab hb => by
        by_cases b1 : b = j + 1
        · subst b1
          by_cases a1 : a = j
          · subst a1
            omega
          · have := hs a j (by omega) (by omega) (by omega)
            omega
        · exact hs a b hab (by omega) b1)
      exact ⟨r, Evt.step h1 fun K => by rw [hf, if_neg c], h2⟩
theorem sort_l0 (L : Nat) (hL : L ≤ 1000) : ∀ (d i : Nat) (x : List Int), i + d = L → x.length = L → SortedTo i x →
    ∃ r, Evt (fun K => slices_insertionSortOrdered_int64.l0 K x 0 (L : Int) (i : Int)) r ∧ r.Perm x ∧ SortedTo L r
  | 0, i, x, hd, hx, hs => by
    refine ⟨x, Evt.now fun K => ?_, List.Perm.refl _, by rw [← hd]; exact hs⟩
    rw [slices_insertionSortOrdered_int64.l0, if_neg (by omega)]
  | d + 1, i, x, hd, hx, hs => by
    obtain ⟨r, h1, h2⟩ := sort_l1 L i hL (by omega) (fun r => r.Perm x ∧ SortedTo L r) i x (Nat.le_refl _) hx (fun a b hab hb hne => hs a b hab (by omega)) (fun x' hp hs' => by
      obtain ⟨r, g1, g2, g3⟩ := sort_l0 L hL d (i + 1) x' (by omega) (by rw [hp.length_eq, hx]) hs'
      exact ⟨r, g1, g2.trans hp, g3⟩)
    refine ⟨r, Evt.step h1 fun K => ?_, h2⟩
    rw [slices_insertionSortOrdered_int64.l0, if_pos (by omega)]
theorem sort_ev (l : List Int) (hl : l.length ≤ 12) : ∃ r, Evt (fun K => slices_Sort_int64_int64.f K l) r ∧ r.Perm l ∧ SortedTo l.length r := by
  have e01 : wrap64 (0 + 1) = ((1 : Nat) : Int) := w64n 1 (by omega)
  by_cases c : l.length = 0
  · refine ⟨l, Evt.now fun K => ?_, List.Perm.refl _, fun a b _ hb => by omega⟩
    unfold slices_Sort_int64_int64.f slices_insertionSortOrdered_int64.f
    rw [if_pos hl, slices_insertionSortOrdered_int64.l0, if_neg (by rw [c, e01]; omega)]
  · obtain ⟨r, h1, h2⟩ := sort_l0 l.length (by omega) (l.length - 1) 1 l (by omega) rfl (fun a b h1 h2 => by omega)
    refine ⟨r, Evt.same h1 fun K => ?_, h2⟩
    unfold slices_Sort_int64_int64.f slices_insertionSortOrdered_int64.f
    rw [if_pos hl, e01]

/-- The images of a point. -/
def candI (G : List (List Int)) (y : Int) : List Int := G.map fun g => rd g y
theorem candI_in {n : Nat} {G : List (List Int)} (hG : ∀ g ∈ G, PermN n g) (y : Int) (h0 : 0 ≤ y) (h1 : y < n) : InN n (candI G y) := by
  intro x hx
  obtain ⟨g, hg, rfl⟩ := List.mem_map.1 hx
  exact (hG g hg).at h0 h1
theorem orb_l2 {n : Nat} (hn : n ≤ 8) {G : List (List Int)} (hG : ∀ g ∈ G, PermN n g) (hl : G.length ≤ 1048576) (out : List (List Int)) (o : List Int) (X x : Int) (i : Nat) (y : Int) (h0 : 0 ≤ y) (h1 : y < n) (r : List (List Int)) :
    ∀ (d j : Nat) (q : List Int), j + d = G.length → i < q.length → rd q (i : Int) = y → Good n o q →
      Evt (fun K => impl_orbits.l1 K G out (mkB n (o ++ ((G.drop j).map fun g => rd g y).foldl (pushO o) q)) (((G.drop j).map fun g => rd g y).foldl (pushO o) q) ((i + 1 : Nat) : Int) X x) r →
      Evt (fun K => impl_orbits.l2 K G out (mkB n (o ++ q)) q (i : Int) X x G (G.length : Int) (j : Int)) r
  | 0, j, q, hd, hi, hy, hg, h => by
    rw [List.drop_of_length_le (by omega)] at h
    refine Evt.step h fun K => ?_
    have hq := hg.len
    have ei : wrap64 ((i : Int) + 1) = ((i + 1 : Nat) : Int) := w64n (i + 1) (by omega)
    rw [impl_orbits.l2, if_neg (by omega), ei]
    rfl
  | d + 1, j, q, hd, hi, hy, hg, h => by
    have hq := hg.len
    have hj : j < G.length := by omega
    have hd2 : (j + 1) + d = G.length := by omega
    have ej : wrap64 ((j : Int) + 1) = ((j + 1 : Nat) : Int) := w64n (j + 1) (by omega)
    have f1 : (j : Int) < (G.length : Int) := Int.ofNat_lt.2 hj
    have f2 : (0 : Int) ≤ (j : Int) := Int.natCast_nonneg j
    have f3 : (0 : Int) ≤ (i : Int) := Int.natCast_nonneg i
    have f4 : (i : Int) < (q.length : Int) := Int.ofNat_lt.2 hi
    have f7 : q.length < 17592186044416 := Nat.lt_of_le_of_lt (Nat.le_trans hq hn) (by decide)
    have hm := rdL1_mem G j hj
    obtain ⟨g, hge⟩ : ∃ g, g = rd_L1 G (j : Int) := ⟨_, rfl⟩
    rw [drop_rdL1 G j hj, ← hge, List.map_cons, List.foldl_cons] at h
    rw [← hge] at hm
    have hp := hG g hm
    have hc := hp.at h0 h1
    have f5 : y < (g.length : Int) := by rw [hp.1]; exact h1
    obtain ⟨c, hce⟩ : ∃ c, c = rd g y := ⟨_, rfl⟩
    rw [← hce] at h hc
    have f6 : c < ((mkB n (o ++ q)).length : Int) := by rw [mkB_length]; exact hc.2
    obtain ⟨t, ht⟩ := pushO_pre o q c
    have hi2 : i < (pushO o q c).length := by rw [ht, List.length_append]; exact Nat.lt_of_lt_of_le hi (Nat.le_add_right _ _)
    have ih := orb_l2 hn hG hl out o X x i y h0 h1 r d (j + 1) (pushO o q c) hd2 hi2 (by rw [ht, rd_pre q t i hi, hy]) (hg.push hc.1 hc.2) h
    refine Evt.step ih fun K => ?_
    clear ih h
    rw [impl_orbits.l2, if_pos f1, if_pos f2, if_pos f1, if_pos f3, if_pos f4, hy, ← hge, if_pos h0, if_pos f5, ← hce, if_pos hc.1, if_pos f6, rdB n _ c hc.1 hc.2, ej]
    by_cases e : c ∈ o ++ q
    · have e1 : pushO o q c = q := if_pos e
      rw [e1, if_pos (decide_eq_true e)]
    · have e1 : pushO o q c = q ++ [c] := if_neg e
      rw [e1, if_neg (by simpa using e), if_pos f7, mkB_set n _ c hc.1, List.append_assoc]
theorem orb_l1 {n : Nat} (hn : n ≤ 8) {G : List (List Int)} (hG : ∀ g ∈ G, PermN n g) (hl : G.length ≤ 1048576) (out : List (List Int)) (o : List Int) (X x : Int) (r : List (List Int)) :
    ∀ (d i : Nat) (q : List Int), Good n o q → i ≤ q.length → n < d + i →
      Evt (fun K => (slices_Sort_int64_int64.f K (bfsO o (candI G) d i q)).bind fun t => if out.length < 5864062014805 then impl_orbits.l0 K G (out ++ [t]) (mkB n (o ++ bfsO o (candI G) d i q)) X (wrap64 (x + 1)) else none) r →
      Evt (fun K => impl_orbits.l1 K G out (mkB n (o ++ q)) q (i : Int) X x) r
  | 0, i, q, hg, hi, hd, _ => by
    have := hg.len
    omega
  | d + 1, i, q, hg, hi, hd, h => by
    unfold bfsO at h
    by_cases c : i < q.length
    · rw [if_pos c] at h
      have hy := hg.right.2 _ (rd_in q (i : Int) (by omega) (by omega))
      obtain ⟨g1, ⟨t, g2⟩, g3, g4⟩ := foldO (n := n) (o := o) (candI G (rd q (i : Int))) q hg (candI_in hG _ hy.1 hy.2)
      have ih := orb_l1 hn hG hl out o X x r d (i + 1) _ g1 (by rw [g2]; simp; omega) (by omega) h
      have h2 := orb_l2 hn hG hl out o X x i (rd q (i : Int)) hy.1 hy.2 r G.length 0 q (by omega) c rfl hg ih
      refine Evt.step h2 fun K => ?_
      rw [impl_orbits.l1, if_pos (by omega)]
      rfl
    · rw [if_neg c] at h
      refine Evt.step h fun K => ?_
      rw [impl_orbits.l1, if_neg (by omega)]
/-- The orbits that are found from x on, each in the order in which it was found. -/
def orbL (n : Nat) (G : List (List Int)) : Nat → Nat → List Int → List (List Int)
  | 0, _, _ => []
  | d + 1, x, o => if (x : Int) ∈ o then orbL n G d (x + 1) o else bfsO o (candI G) (n + 1) 0 [(x : Int)] :: orbL n G d (x + 1) (o ++ bfsO o (candI G) (n + 1) 0 [(x : Int)])
/-- The same lists, each sorted. -/
def Like : List (List Int) → List (List Int) → Prop
  | [], [] => True
  | a :: s, b :: t => (a.Perm b ∧ SortedTo b.length a) ∧ Like s t
  | _, _ => False
theorem Like.len : ∀ {s t : List (List Int)}, Like s t → s.length = t.length
  | [], [], _ => rfl
  | _ :: s, _ :: t, h => by rw [List.length_cons, List.length_cons, Like.len h.2]
  | [], _ :: _, h => h.elim
  | _ :: _, [], h => h.elim
theorem orbL_nil (n : Nat) (G : List (List Int)) : ∀ (d x : Nat) (o : List Int), orbL n G d x o = [] ↔ ∀ y : Nat, x ≤ y → y < x + d → (y : Int) ∈ o
  | 0, x, o => ⟨fun _ y h1 h2 => by omega, fun _ => rfl⟩
  | d + 1, x, o => by
    unfold orbL
    by_cases c : (x : Int) ∈ o
    · rw [if_pos c, orbL_nil n G d (x + 1) o]
      constructor
      · intro h y hy1 hy2
        by_cases e : y = x
        · rw [e]
          exact c
        · exact h y (by omega) (by omega)
      · intro h y hy1 hy2
        exact h y (by omega) (by omega)
    · rw [if_neg c]
      exact ⟨fun h => absurd h (by simp), fun h => absurd (h x (Nat.le_refl _) (by omega)) c⟩
theorem good_one {n : Nat} {o : List Int} (hg : Good n o []) {x : Int} (h0 : 0 ≤ x) (h1 : x < n) (c : x ∉ o) : Good n o [x] := by
  have := hg.push (c := x) h0 h1
  unfold pushO at this
  rw [List.append_nil, if_neg c] at this
  exact this
theorem orb_l0 {n : Nat} (hn : n ≤ 8) {G : List (List Int)} (hG : ∀ g ∈ G, PermN n g) (hl : G.length ≤ 1048576) :
    ∀ (d x : Nat) (o : List Int) (out : List (List Int)), x + d = n → Good n o [] → out.length ≤ x →
      ∃ more, Evt (fun K => impl_orbits.l0 K G out (mkB n o) (n : Int) (x : Int)) (out ++ more) ∧ Like more (orbL n G d x o)
  | 0, x, o, out, hd, hg, ho => by
    refine ⟨[], Evt.now fun K => ?_, trivial⟩
    rw [impl_orbits.l0, if_neg (by omega), List.append_nil]
  | d + 1, x, o, out, hd, hg, ho => by
    have hxn : (x : Int) < (n : Int) := by omega
    have ho2 : out.length < 5864062014805 := Nat.lt_of_le_of_lt (show out.length ≤ 8 by omega) (by decide)
    have ex : wrap64 ((x : Int) + 1) = ((x + 1 : Nat) : Int) := w64n (x + 1) (by omega)
    have hf : ∀ K, impl_orbits.l0 (K + 1) G out (mkB n o) (n : Int) (x : Int) = (if (x : Int) ∈ o then impl_orbits.l0 K G out (mkB n o) (n : Int) ((x + 1 : Nat) : Int) else impl_orbits.l1 K G out (mkB n (o ++ [(x : Int)])) [(x : Int)] 0 (n : Int) (x : Int)) := by
      intro K
      rw [impl_orbits.l0, if_pos hxn, if_pos (Int.natCast_nonneg x), if_pos (by rw [mkB_length]; exact hxn), rdB n o (x : Int) (Int.natCast_nonneg x) hxn, ex, mkB_set n o (x : Int) (Int.natCast_nonneg x)]
      by_cases c : (x : Int) ∈ o
      · rw [if_pos c, if_pos (decide_eq_true c)]
      · rw [if_neg c, if_neg (by simpa using c)]
    have hd2 : x + 1 + d = n := by omega
    unfold orbL
    by_cases c : (x : Int) ∈ o
    · obtain ⟨more, h1, h2⟩ := orb_l0 hn hG hl d (x + 1) o out hd2 hg (Nat.le_succ_of_le ho)
      rw [if_pos c]
      exact ⟨more, Evt.step h1 fun K => by rw [hf, if_pos c], h2⟩
    · have hg1 := good_one hg (Int.natCast_nonneg x) hxn c
      obtain ⟨g1, g2, _, _⟩ := bfsO_facts (n := n) (o := o) (cand := candI G) (fun y h0 h1 => candI_in hG y h0 h1) (n + 1) 0 [(x : Int)] hg1 (Nat.zero_le _) (by clear ex hf; omega) (fun j hj => absurd hj (Nat.not_lt_zero j))
      obtain ⟨s, s1, s2, s3⟩ := sort_ev (bfsO o (candI G) (n + 1) 0 [(x : Int)]) (Nat.le_trans g1.len (Nat.le_trans hn (by decide)))
      obtain ⟨more, h1, h2⟩ := orb_l0 hn hG hl d (x + 1) (o ++ bfsO o (candI G) (n + 1) 0 [(x : Int)]) (out ++ [s]) hd2 (by unfold Good; rw [List.append_nil]; exact g1) (by rw [List.length_append]; exact Nat.succ_le_succ ho)
      rw [if_neg c]
      refine ⟨s :: more, ?_, ⟨s2, s3⟩, h2⟩
      have h3 := orb_l1 hn hG hl out o (n : Int) (x : Int) (out ++ s :: more) (n + 1) 0 [(x : Int)] hg1 (Nat.zero_le _) (by clear ex hf; omega) (Evt.bind s1 (h := fun K t => if out.length < 5864062014805 then impl_orbits.l0 K G (out ++ [t]) (mkB n (o ++ bfsO o (candI G) (n + 1) 0 [(x : Int)])) (n : Int) (wrap64 ((x : Int) + 1)) else none) (by
        rw [List.append_assoc, List.singleton_append] at h1
        exact Evt.same h1 fun K => by rw [if_pos ho2, ex]) fun _ => rfl)
      exact Evt.step h3 fun K => by rw [hf, if_neg c]; rfl
theorem orbits_ev {n : Nat} (hn : n ≤ 8) {G : List (List Int)} (hG : ∀ g ∈ G, PermN n g) (hl : G.length ≤ 1048576) : ∃ r, Evt (fun K => impl_orbits.f K (n : Int) G) r ∧ Like r (orbL n G n 0 []) := by
  obtain ⟨r, h1, h2⟩ := orb_l0 hn hG hl n 0 [] [] (by omega) ⟨by simp, fun x hx => absurd hx (by simp)⟩ (Nat.le_refl _)
  refine ⟨r, Evt.same h1 fun K => ?_, h2⟩
  unfold impl_orbits.f
  rw [if_pos (Int.natCast_nonneg n), Int.toNat_natCast, if_pos (Nat.le_trans hn (by decide)), mkB_nil]
  rfl

/-- The test of a permutation, entry by entry. -/
def goP (n len : Nat) : List Int → List Int → Bool
  | _, [] => decide (len = n)
  | q, x :: t => if 0 ≤ x ∧ x ≤ (n : Int) - 1 then (if x ∈ q then false else goP n len (q ++ [x]) t) else false
theorem goP_true (n len : Nat) : ∀ (t q : List Int), goP n len q t = true → q.Nodup → InN n q → (q ++ t).Nodup ∧ InN n (q ++ t) ∧ len = n
  | [], q, h, h1, h2 => by
    rw [List.append_nil]
    exact ⟨h1, h2, of_decide_eq_true h⟩
  | x :: t, q, h, h1, h2 => by
    unfold goP at h
    by_cases c : 0 ≤ x ∧ x ≤ (n : Int) - 1
    · rw [if_pos c] at h
      by_cases e : x ∈ q
      · rw [if_pos e] at h
        exact absurd h (by simp)
      · rw [if_neg e] at h
        have := goP_true n len t (q ++ [x]) h (List.nodup_append.2 ⟨h1, by simp, fun a ha b hb e2 => by
          rw [List.mem_singleton] at hb
          exact e (hb ▸ e2 ▸ ha)⟩) (fun y hy => by
          rw [List.mem_append, List.mem_singleton] at hy
          rcases hy with hy | rfl
          · exact h2 y hy
          · omega)
        rwa [List.append_assoc] at this
    · rw [if_neg c] at h
      exact absurd h (by simp)
theorem permN_of {n : Nat} {g : List Int} (h : goP n g.length [] g = true) : PermN n g := by
  obtain ⟨h1, h2, h3⟩ := goP_true n g.length g [] h (by simp) (fun x hx => absurd hx (by simp))
  exact ⟨h3, h1, h2⟩

theorem specPerm_l0 (n : Nat) (hn : n ≤ 8) (l : List Int) (hl : l.length ≤ 1048576) : ∀ (d i : Nat) (q : List Int), i + d = l.length → Evt (fun K => spec_l07Permutation.l0 K l (n : Int) (mkB n q) (i : Int)) (goP n l.length q (l.drop i))
  | 0, i, q, hd => by
    refine Evt.now fun K => ?_
    rw [spec_l07Permutation.l0, if_neg (by omega), List.drop_of_length_le (by omega)]
    unfold goP
    refine congrArg some ?_
    rw [show ((l.length : Int) == (n : Int)) = decide ((l.length : Int) = (n : Int)) from rfl]
    exact decide_eq_decide.2 (by omega)
  | d + 1, i, q, hd => by
    have e1 : wrap64 ((n : Int) - 1) = (n : Int) - 1 := w64 _ (by omega) (by omega)
    have e2 : wrap64 ((i : Int) + 1) = ((i + 1 : Nat) : Int) := w64n (i + 1) (by omega)
    rw [drop_rd l i (by omega)]
    obtain ⟨x, hx⟩ : ∃ x, x = rd l (i : Int) := ⟨_, rfl⟩
    have hf : ∀ K, spec_l07Permutation.l0 (K + 1) l (n : Int) (mkB n q) (i : Int) = (if 0 ≤ x ∧ x ≤ (n : Int) - 1 then (if x ∈ q then some false else spec_l07Permutation.l0 K l (n : Int) ((mkB n q).set x.toNat true) ((i + 1 : Nat) : Int)) else some false) := by
      intro K
      rw [spec_l07Permutation.l0, if_pos (by omega), if_pos (by omega), ← hx, e1, e2]
      unfold spec_l07In.f
      by_cases c : 0 ≤ x ∧ x ≤ (n : Int) - 1
      · rw [if_pos c]
        have c1 : (0 : Int) ≤ x := c.1
        have c3 : x < ((mkB n q).length : Int) := by rw [mkB_length]; omega
        have c4 := c.2
        rw [rdB n q x c.1 (by omega)]
        simp only [c1, c3, c4, decide_true, if_true, Option.bind_some, ge_iff_le, decide_eq_true_eq]
      · rw [if_neg c]
        by_cases c0 : 0 ≤ x
        · have c4 : ¬ x ≤ (n : Int) - 1 := fun h => c ⟨c0, h⟩
          simp [c0, c4]
        · simp [c0]
    rw [← hx]
    unfold goP
    by_cases c : 0 ≤ x ∧ x ≤ (n : Int) - 1
    · rw [if_pos c]
      by_cases e : x ∈ q
      · rw [if_pos e]
        exact Evt.now fun K => by rw [hf, if_pos c, if_pos e]
      · rw [if_neg e]
        have ih := specPerm_l0 n hn l hl d (i + 1) (q ++ [x]) (by omega)
        refine Evt.step ih fun K => ?_
        rw [hf, if_pos c, if_neg e, mkB_set n q x c.1]
    · rw [if_neg c]
      exact Evt.now fun K => by rw [hf, if_neg c]
theorem specPerm_ev (n : Nat) (hn : n ≤ 8) (l : List Int) (hl : l.length ≤ 1048576) : Evt (fun K => spec_l07Permutation.f K l (n : Int)) (goP n l.length [] l) := by
  have h := specPerm_l0 n hn l hl l.length 0 [] (by omega)
  rw [List.drop_zero, ← mkB_nil] at h
  refine Evt.same h fun K => ?_
  unfold spec_l07Permutation.f
  rw [if_pos (by omega), Int.toNat_natCast, if_pos (by omega)]
  rfl

theorem specImages_l0 {n : Nat} (hn : n ≤ 8) (G : List (List Int)) (hl : G.length ≤ 1048576) (hr : ∀ g ∈ G, g.length ≤ 1048576) : ∀ (d j : Nat), j + d = G.length → Evt (fun K => spec_l15Images.l0 K (n : Int) G (j : Int)) ((G.drop j).all fun g => goP n g.length [] g)
  | 0, j, hd => by
    refine Evt.now fun K => ?_
    rw [spec_l15Images.l0, if_neg (by omega), List.drop_of_length_le (by omega)]
    rfl
  | d + 1, j, hd => by
    have hj : j < G.length := by omega
    have hd2 : j + 1 + d = G.length := by omega
    have ej : wrap64 ((j : Int) + 1) = ((j + 1 : Nat) : Int) := w64n (j + 1) (by omega)
    have f1 : (j : Int) < (G.length : Int) := Int.ofNat_lt.2 hj
    have hm := rdL1_mem G j hj
    have h := specPerm_ev n hn (rd_L1 G (j : Int)) (hr _ hm)
    rw [drop_rdL1 G j hj, List.all_cons]
    refine Evt.bind1 (h := fun K t => if t = true then spec_l15Images.l0 K (n : Int) G ((j + 1 : Nat) : Int) else some false) h ?_ fun K => by rw [spec_l15Images.l0, if_pos f1, if_pos (Int.natCast_nonneg j), ej]
    by_cases c : goP n (rd_L1 G (j : Int)).length [] (rd_L1 G (j : Int)) = true
    · rw [c, Bool.true_and]
      exact Evt.same (specImages_l0 hn G hl hr d (j + 1) hd2) fun K => if_pos rfl
    · rw [Bool.not_eq_true] at c
      rw [c, Bool.false_and]
      exact Evt.const fun K => if_neg (by simp)
theorem specImages_ev {n : Nat} (hn : n ≤ 8) (hn1 : 1 ≤ n) (G : List (List Int)) (hl : G.length ≤ 1048576) (hr : ∀ g ∈ G, g.length ≤ 1048576) : Evt (fun K => spec_l15Images.f K (n : Int) G) (G.all fun g => goP n g.length [] g) := by
  have h := specImages_l0 hn G hl hr G.length 0 (Nat.zero_add _)
  rw [List.drop_zero] at h
  refine Evt.same h fun K => ?_
  unfold spec_l15Images.f spec_l07In.f
  rw [if_pos (by omega), Option.bind_some, if_pos (decide_eq_true (by omega))]
  rfl
/-- One orbit, or not: told by the letters alone, and by the letters and their inverses. -/
theorem one_orbit {n : Nat} (hn1 : 1 ≤ n) {G : List (List Int)} (hG : ∀ g ∈ G, PermN n g) : ((orbL n G n 0 []).length = 1) ↔ (bfsO [] (candS G) (n + 1) 0 [0]).length = n := by
  obtain ⟨m, rfl⟩ : ∃ m, n = m + 1 := ⟨n - 1, by omega⟩
  have hg0 : Good (m + 1) [] [0] := ⟨by simp, fun x hx => by
    rw [List.nil_append, List.mem_singleton] at hx
    omega⟩
  obtain ⟨a1, a2, a3, a4⟩ := bfsO_facts (n := m + 1) (o := []) (cand := candI G) (fun y h0 h1 => candI_in hG y h0 h1) (m + 1 + 1) 0 [0] hg0 (Nat.zero_le _) (by omega) (fun j hj => absurd hj (Nat.not_lt_zero j))
  obtain ⟨b1, b2, b3, b4⟩ := bfsO_facts (n := m + 1) (o := []) (cand := candS G) (fun y h0 h1 => candS_in hG y h0 h1) (m + 1 + 1) 0 [0] hg0 (Nat.zero_le _) (by omega) (fun j hj => absurd hj (Nat.not_lt_zero j))
  have e : orbL (m + 1) G (m + 1) 0 [] = bfsO [] (candI G) (m + 1 + 1) 0 [0] :: orbL (m + 1) G m 1 (bfsO [] (candI G) (m + 1 + 1) 0 [0]) := by
    rw [orbL, if_neg (by simp)]
    rfl
  rw [e, List.length_cons]
  generalize bfsO [] (candI G) (m + 1 + 1) 0 [0] = A at a1 a2 a3 a4
  generalize bfsO [] (candS G) (m + 1 + 1) 0 [0] = B at b1 b2 b3 b4
  have hAB : ∀ y ∈ A, y ∈ B := a4 (fun y => y ∈ B) (fun y _ _ hy c hc => by
    obtain ⟨g, hg, rfl⟩ := List.mem_map.1 hc
    exact b3 y hy _ (List.mem_flatMap.2 ⟨g, hg, by simp⟩)) (fun y hy => b2 y hy)
  have hBA : ∀ y ∈ B, y ∈ A := b4 (fun y => y ∈ A) (fun y h0 h1 hy c hc => by
    obtain ⟨g, hg, hx⟩ := List.mem_flatMap.1 hc
    have cl : ∀ z ∈ A, rd g z ∈ A := fun z hz => a3 z hz _ (List.mem_map.2 ⟨g, hg, rfl⟩)
    rcases List.mem_cons.1 hx with rfl | hx
    · exact cl y hy
    · rw [List.mem_singleton] at hx
      rw [hx]
      have hi := invI_at (hG g hg) h0 h1
      exact (hG g hg).back a1.1 a1.2 cl hi.1.1 hi.1.2 (by rw [hi.2]; exact hy)) (fun y hy => a2 y hy)
  constructor
  · intro h
    have h2 : orbL (m + 1) G m 1 A = [] := List.length_eq_zero_iff.1 (by omega)
    rw [orbL_nil] at h2
    have := len_le_of_sub (rangeI (m + 1)) B (rangeI_nodup _) (fun x hx => by
      rw [rangeI_mem] at hx
      apply hAB
      by_cases c : x = 0
      · rw [c]
        exact a2 0 (by simp)
      · have := h2 x.toNat (by omega) (by omega)
        rwa [show ((x.toNat : Nat) : Int) = x by omega] at this)
    rw [rangeI_len] at this
    have := b1.len
    omega
  · intro h
    have h2 : orbL (m + 1) G m 1 A = [] := (orbL_nil _ _ _ _ _).2 fun y h1 h2 => hBA _ (full_of b1.1 b1.2 (by rw [List.nil_append, h]; exact Nat.le_refl _) (y : Int) (by omega) (by omega))
    rw [h2]
    rfl

theorem implIsPerm_l0 (n : Nat) (hn : n ≤ 8) (l : List Int) (hl : l.length ≤ 1048576) : ∀ (d i : Nat) (q : List Int), i + d = l.length → Evt (fun K => impl_isPermutation.l0 K l (n : Int) (mkB n q) l (l.length : Int) (i : Int)) (goP n l.length q (l.drop i))
  | 0, i, q, hd => by
    refine Evt.now fun K => ?_
    rw [impl_isPermutation.l0, if_neg (by omega), List.drop_of_length_le (by omega)]
    unfold impl_size_int64.f goP
    rw [Option.bind_some]
    refine congrArg some ?_
    rw [show ((l.length : Int) == (n : Int)) = decide ((l.length : Int) = (n : Int)) from rfl]
    exact decide_eq_decide.2 (by omega)
  | d + 1, i, q, hd => by
    have e1 : wrap64 ((n : Int) - 1) = (n : Int) - 1 := w64 _ (by omega) (by omega)
    have e2 : wrap64 ((i : Int) + 1) = ((i + 1 : Nat) : Int) := w64n (i + 1) (by omega)
    rw [drop_rd l i (by omega)]
    obtain ⟨x, hx⟩ : ∃ x, x = rd l (i : Int) := ⟨_, rfl⟩
    have hf : ∀ K, impl_isPermutation.l0 (K + 1) l (n : Int) (mkB n q) l (l.length : Int) (i : Int) = (if 0 ≤ x ∧ x ≤ (n : Int) - 1 then (if x ∈ q then some false else impl_isPermutation.l0 K l (n : Int) ((mkB n q).set x.toNat true) l (l.length : Int) ((i + 1 : Nat) : Int)) else some false) := by
      intro K
      rw [impl_isPermutation.l0, if_pos (by omega), if_pos (by omega), if_pos (by omega), ← hx, e1, e2]
      unfold impl_inRange.f
      by_cases c : 0 ≤ x ∧ x ≤ (n : Int) - 1
      · rw [if_pos c]
        have c1 : (0 : Int) ≤ x := c.1
        have c3 : x < ((mkB n q).length : Int) := by rw [mkB_length]; omega
        have c4 := c.2
        rw [rdB n q x c.1 (by omega)]
        simp only [c1, c3, c4, decide_true, Bool.and_self, if_true, Option.bind_some, ge_iff_le, decide_eq_true_eq]
      · rw [if_neg c]
        by_cases c0 : 0 ≤ x
        · have c4 : ¬ x ≤ (n : Int) - 1 := fun h => c ⟨c0, h⟩
          simp [c0, c4]
        · simp [c0]
    rw [← hx]
    unfold goP
    by_cases c : 0 ≤ x ∧ x ≤ (n : Int) - 1
    · rw [if_pos c]
      by_cases e : x ∈ q
      · rw [if_pos e]
        exact Evt.now fun K => by rw [hf, if_pos c, if_pos e]
      · rw [if_neg e]
        have ih := implIsPerm_l0 n hn l hl d (i + 1) (q ++ [x]) (by omega)
        refine Evt.step ih fun K => ?_
        rw [hf, if_pos c, if_neg e, mkB_set n q x c.1]
    · rw [if_neg c]
      exact Evt.now fun K => by rw [hf, if_neg c]
theorem implIsPerm_ev (n : Nat) (hn : n ≤ 8) (l : List Int) (hl : l.length ≤ 1048576) : Evt (fun K => impl_isPermutation.f K l (n : Int)) (goP n l.length [] l) := by
  have h := implIsPerm_l0 n hn l hl l.length 0 [] (by omega)
  rw [List.drop_zero, ← mkB_nil] at h
  refine Evt.same h fun K => ?_
  unfold impl_isPermutation.f
  rw [if_pos (by omega), Int.toNat_natCast, if_pos (by omega)]
  rfl

theorem anyO_perm {n : Nat} (hn : n ≤ 8) : ∀ (G : List (List Int)), (∀ g ∈ G, g.length ≤ 1048576) → Evt (fun K => anyO (impl_IsTransitive.q K (n : Int)) G) (!(G.all fun g => goP n g.length [] g))
  | [], _ => Evt.const fun _ => rfl
  | g :: G, hr => by
    have h := implIsPerm_ev n hn g (hr g List.mem_cons_self)
    have hq : Evt (fun K => impl_IsTransitive.q K (n : Int) g) (!(goP n g.length [] g)) := Evt.bind h (h := fun _ b => some (!b)) (Evt.const fun _ => rfl) fun _ => rfl
    rw [List.all_cons]
    refine Evt.bind hq (h := fun K b => if b = true then some true else anyO (impl_IsTransitive.q K (n : Int)) G) ?_ fun _ => rfl
    by_cases c : goP n g.length [] g = true
    · rw [c, Bool.true_and]
      exact Evt.same (anyO_perm hn G fun x hx => hr x (List.mem_cons_of_mem _ hx)) fun K => if_neg (by simp)
    · rw [Bool.not_eq_true] at c
      rw [c, Bool.false_and]
      exact Evt.const fun K => if_pos rfl
theorem transitive_both (a0 : Int) (G : List (List Int)) (hl : G.length ≤ 1048576) (hr : ∀ g ∈ G, g.length ≤ 1048576) : ∃ b, Evt (fun K => spec_IsTransitive.f K a0 G) b ∧ Evt (fun K => impl_IsTransitive.f K a0 G) b := by
  by_cases h : 1 ≤ a0 ∧ a0 ≤ 8
  · obtain ⟨n, rfl⟩ : ∃ n : Nat, a0 = n := ⟨a0.toNat, by omega⟩
    have hn : n ≤ 8 := by omega
    have hn1 : 1 ≤ n := by omega
    have h1 := specImages_ev hn hn1 G hl hr
    have h2 := anyO_perm hn G hr
    by_cases c : (G.all fun g => goP n g.length [] g) = true
    · have hG : ∀ g ∈ G, PermN n g := fun g hg => permN_of (List.all_eq_true.1 c g hg)
      rw [c] at h1 h2
      refine ⟨decide ((bfsO [] (candS G) (n + 1) 0 [0]).length = n), ?_, ?_⟩
      · have h3 := st_l0 hn hG hl (n + 1) 0 [0] ⟨by simp, fun x hx => by
          rw [List.nil_append, List.mem_singleton] at hx
          omega⟩ (Nat.zero_le _) (by omega)
        refine Evt.bind h1 (h := fun K t => if t = true then (if 0 ≤ (n : Int) then (if (n : Int).toNat ≤ 281474976710656 then ((some (List.replicate (n : Int).toNat false : List Bool)).bind fun y => (if 0 < (y.length : Int) then (spec_IsTransitive.l0 K (n : Int) G (y.set (0 : Int).toNat true) ([0] : List Int) 0) else none)) else none) else none) else some false) ?_ fun _ => rfl
        refine Evt.same h3 fun K => ?_
        rw [if_pos rfl, if_pos (Int.natCast_nonneg n), Int.toNat_natCast, if_pos (Nat.le_trans hn (by decide)), Option.bind_some, mkB_nil, if_pos (by rw [mkB_length]; omega), mkB_set n [] 0 (Int.le_refl 0)]
        rfl
      · obtain ⟨r, r1, r2⟩ := orbits_ev hn hG hl
        have e1 : ((r.length : Int) == 1) = decide ((bfsO [] (candS G) (n + 1) 0 [0]).length = n) := by
          rw [show ((r.length : Int) == 1) = decide ((r.length : Int) = 1) from rfl]
          refine decide_eq_decide.2 ?_
          rw [← one_orbit hn1 hG, r2.len]
          omega
        have h4 : Evt (fun K => impl_isTransitive.f K (n : Int) G) (decide ((bfsO [] (candS G) (n + 1) 0 [0]).length = n)) := Evt.bind r1 (h := fun _ t => some ((t.length : Int) == 1)) (Evt.const fun _ => congrArg some e1) fun _ => rfl
        have h5 : Evt (fun K => (anyO (impl_IsTransitive.q K (n : Int)) G).bind fun b => if b = true then some false else impl_isTransitive.f K (n : Int) G) (decide ((bfsO [] (candS G) (n + 1) 0 [0]).length = n)) := Evt.bind h2 (h := fun K b => if b = true then some false else impl_isTransitive.f K (n : Int) G) (Evt.same h4 fun K => if_neg (by simp)) fun _ => rfl
        refine Evt.same h5 fun K => ?_
        unfold impl_IsTransitive.f
        rw [if_pos h]
    · rw [Bool.not_eq_true] at c
      rw [c] at h1 h2
      refine ⟨false, ?_, ?_⟩
      · exact Evt.bind h1 (h := fun K t => if t = true then (if 0 ≤ (n : Int) then (if (n : Int).toNat ≤ 281474976710656 then ((some (List.replicate (n : Int).toNat false : List Bool)).bind fun y => (if 0 < (y.length : Int) then (spec_IsTransitive.l0 K (n : Int) G (y.set (0 : Int).toNat true) ([0] : List Int) 0) else none)) else none) else none) else some false) (Evt.const fun _ => if_neg (by simp)) fun _ => rfl
      · have h5 : Evt (fun K => (anyO (impl_IsTransitive.q K (n : Int)) G).bind fun b => if b = true then some false else impl_isTransitive.f K (n : Int) G) false := Evt.bind h2 (h := fun K b => if b = true then some false else impl_isTransitive.f K (n : Int) G) (Evt.const fun K => if_pos rfl) fun _ => rfl
        refine Evt.same h5 fun K => ?_
        unfold impl_IsTransitive.f
        rw [if_pos h]
  · refine ⟨false, Evt.const fun K => ?_, Evt.const fun K => ?_⟩
    · unfold spec_IsTransitive.f spec_l15Images.f spec_l07In.f
      by_cases h0 : a0 ≥ 1
      · rw [if_pos h0, Option.bind_some, if_neg (by simpa using fun h8 : a0 ≤ 8 => h ⟨h0, h8⟩), Option.bind_some, if_neg (by simp)]
      · rw [if_neg h0, Option.bind_some, if_neg (by simp), Option.bind_some, if_neg (by simp)]
    · unfold impl_IsTransitive.f
      rw [if_neg h]
theorem FnExactIsTransitive : laws_FnExactIsTransitive.Pure := by
  intro a0 l _ hl hr
  by_cases hb : l.length ≤ 1048576 ∧ ∀ x ∈ l, x.length ≤ 1048576
  · obtain ⟨b, ⟨c1, h1⟩, ⟨c2, h2⟩⟩ := transitive_both a0 l hb.1 hb.2
    obtain ⟨K, hK⟩ : ∃ K : Nat, K = c1 + c2 + 2097300 := ⟨_, rfl⟩
    refine ⟨K, ?_⟩
    obtain ⟨r, e, _⟩ := szInt64SS_eq l 1048576 K (by omega) (by omega) hl (fun x hx => (hr x hx).1) (by omega)
    unfold laws_FnExactIsTransitive.f
    rw [e]
    simp only [Option.bind_some]
    by_cases h0 : r < 0
    · rw [if_pos h0]
    · rw [if_neg h0, toInt64SS_eq l K hb.1 hb.2 (by omega)]
      simp only [Option.bind_some]
      have g1 := h1 K (by omega)
      have g2 := h2 K (by omega)
      simp only at g1 g2
      rw [g1, g2, eqInt64SS_self l 1048576 K hb.1 (by omega) hb.2 (by omega)]
      simp
  · obtain ⟨K, hK⟩ : ∃ K : Nat, K = 2097300 := ⟨_, rfl⟩
    refine ⟨K, ?_⟩
    obtain ⟨r, e, h⟩ := szInt64SS_eq l 1048576 K (by omega) (by omega) hl (fun x hx => (hr x hx).1) (by omega)
    have h0 : r < 0 := by
      rcases h with h | ⟨_, _, h1, h2⟩
      · exact h
      · exact absurd ⟨by omega, fun x hx => by have := h2 x hx; omega⟩ hb
    unfold laws_FnExactIsTransitive.f
    rw [e]
    simp only [Option.bind_some]
    rw [if_pos h0]

end Go.Proofs.Ytinpfomadogadaa.Pure
