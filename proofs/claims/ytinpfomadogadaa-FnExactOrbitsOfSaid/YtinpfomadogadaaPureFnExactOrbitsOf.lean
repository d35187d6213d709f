/- Program and reference find the same orbits, in new memory, and leave the argument. No condition: for every input that the statement lets in. -/
import Derived.Test.YtinpfomadogadaaStmtFnExactOrbitsOf
namespace Go.Proofs.Ytinpfomadogadaa.Pure
open Go.RowKit Go.Proofs.Ytinpfomadogadaa.PFnExactOrbitsOf Go.Proofs.YtinpfomadogadaaW.PrintWords Go.Proofs.YtinpfomadogadaaW.PrintLast

set_option linter.unusedSimpArgs false
set_option linter.unusedVariables false
theorem w64 (x : Int) (h0 : -9223372036854775808 ≤ x) (h1 : x ≤ 9223372036854775807) : wrap64 x = x := by
  unfold wrap64
  omega
theorem w64n (n : Nat) (h : n ≤ 9223372036854775807) : wrap64 (n : Int) = (n : Int) := w64 _ (by omega) (by omega)
theorem rd_nat (l : List Int) (i : Nat) (h : i < l.length) : rd l (i : Int) = l[i] := by
  simp [rd, List.getD, List.getElem?_eq_getElem h]
theorem succ_k {k n : Nat} (h : n < k) : ∃ m, k = m + 1 := ⟨k - 1, by omega⟩
theorem cast_succ (i : Nat) : ((i : Int) + 1) = ((i + 1 : Nat) : Int) := by omega
theorem drop_rd (l : List Int) (k : Nat) (h : k < l.length) : l.drop k = rd l (k : Int) :: l.drop (k + 1) := by
  rw [List.drop_eq_getElem_cons h, rd_nat l k h]


theorem szInt64S_eq (l : List Int) (a : Int) (h0 : 0 ≤ a) (h1 : a ≤ 1048576) (hl : l.length ≤ maxLen) : laws_szInt64S.f l a = some (if a < l.length then -1 else a - l.length) := by
  unfold maxLen at hl
  unfold laws_szInt64S.f
  rw [w64 _ (by omega) (by omega)]
  by_cases h : a < l.length
  · rw [if_pos (by omega), if_pos h]
  · rw [if_neg (by omega), if_neg h]


theorem rdL1_nat (l : List (List Int)) (i : Nat) (h : i < l.length) : rd_L1 l (i : Int) = l[i] := by
  simp [rd_L1, List.getD, List.getElem?_eq_getElem h]
theorem drop_rdL1 (l : List (List Int)) (k : Nat) (h : k < l.length) : l.drop k = rd_L1 l (k : Int) :: l.drop (k + 1) := by
  rw [List.drop_eq_getElem_cons h, rdL1_nat l k h]
theorem rdL1_mem (l : List (List Int)) (i : Nat) (h : i < l.length) : rd_L1 l (i : Int) ∈ l := by
  rw [rdL1_nat l i h]
  exact List.getElem_mem h


theorem szInt64SS_l0 (l : List (List Int)) (hl : l.length ≤ 1048576) (hr : ∀ x ∈ l, x.length ≤ maxLen) : ∀ (d i k : Nat) (a : Int), i + d = l.length → d < k → 0 ≤ a → a ≤ 1048576 →
    ∃ r, laws_szInt64SS.l0 k l a (i : Int) = some r ∧ (r < 0 ∨ (0 ≤ r ∧ r ≤ a ∧ ∀ x ∈ l.drop i, (x.length : Int) ≤ a)) := by
  intro d
  induction d with
  | zero =>
    intro i k a hd hk h0 h1
    obtain ⟨k, rfl⟩ := succ_k hk
    simp only [laws_szInt64SS.l0]
    rw [if_neg (by omega), List.drop_of_length_le (by omega)]
    exact ⟨a, rfl, .inr ⟨h0, Int.le_refl _, by simp⟩⟩
  | succ d ih =>
    intro i k a hd hk h0 h1
    obtain ⟨k, rfl⟩ := succ_k hk
    simp only [laws_szInt64SS.l0]
    rw [if_pos (by omega), if_pos (by omega), szInt64S_eq _ a h0 h1 (hr _ (rdL1_mem l i (by omega)))]
    simp only [Option.bind_some]
    by_cases h : a < (rd_L1 l (i : Int)).length
    · rw [if_pos h, if_pos (by omega)]
      exact ⟨-1, rfl, .inl (by omega)⟩
    · rw [if_neg h, if_neg (by omega), w64 _ (by omega) (by omega), cast_succ, drop_rdL1 l i (by omega)]
      obtain ⟨r, e, hr'⟩ := ih (i + 1) k (a - (rd_L1 l (i : Int)).length) (by omega) (by omega) (by omega) (by omega)
      refine ⟨r, e, ?_⟩
      rcases hr' with hr' | ⟨h2, h3, h4⟩
      · exact .inl hr'
      · refine .inr ⟨h2, by omega, fun x hx => ?_⟩
        rcases List.mem_cons.1 hx with e | hx
        · subst e
          omega
        · have := h4 x hx
          omega
theorem szInt64SS_eq (l : List (List Int)) (a : Int) (k : Nat) (h0 : 0 ≤ a) (h1 : a ≤ 1048576) (hl : l.length ≤ maxLen) (hr : ∀ x ∈ l, x.length ≤ maxLen) (hk : 1048576 < k) :
    ∃ r, laws_szInt64SS.f k l a = some r ∧ (r < 0 ∨ (0 ≤ r ∧ r ≤ a ∧ (l.length : Int) ≤ a ∧ ∀ x ∈ l, (x.length : Int) ≤ a)) := by
  unfold maxLen at hl
  unfold laws_szInt64SS.f
  rw [w64 _ (by omega) (by omega)]
  by_cases h : a - (l.length : Int) < 0
  · rw [if_pos h]
    exact ⟨-1, rfl, .inl (by omega)⟩
  · rw [if_neg h]
    obtain ⟨r, e, hr'⟩ := szInt64SS_l0 l (by omega) hr l.length 0 k (a - l.length) (by omega) (by omega) (by omega) (by omega)
    refine ⟨r, e, ?_⟩
    rcases hr' with hr' | ⟨h2, h3, h4⟩
    · exact .inl hr'
    · refine .inr ⟨h2, by omega, by omega, fun x hx => ?_⟩
      have := h4 x (by simpa using hx)
      omega


theorem toInt64S_l0 (l : List Int) (hl : l.length ≤ 4611686018427387904) : ∀ (d i : Nat) (x3 : List Int) (k : Nat), x3.length = l.length → i + d = l.length → x3.take i = l.take i → d < k → laws_toInt64S.l0 k l x3 (i : Int) = some l := by
  intro d
  induction d with
  | zero =>
    intro i x3 k h3 hd ht hk
    obtain ⟨k, rfl⟩ := succ_k hk
    simp only [laws_toInt64S.l0]
    rw [if_neg (by omega)]
    have e : i = l.length := by omega
    subst e
    rw [List.take_length, List.take_of_length_le (by omega)] at ht
    rw [ht]
  | succ d ih =>
    intro i x3 k h3 hd ht hk
    obtain ⟨k, rfl⟩ := succ_k hk
    simp only [laws_toInt64S.l0]
    rw [if_pos (by omega), if_pos (by omega), if_pos (by omega), w64 _ (by omega) (by omega), cast_succ]
    refine ih (i + 1) _ k (by simp [h3]) (by omega) ?_ (by omega)
    rw [Int.toNat_natCast, rd_nat l i (by omega)]
    rw [List.take_succ_eq_append_getElem (by simp; omega), List.take_succ_eq_append_getElem (by omega), List.take_set_of_le (by omega), ht]
    simp
theorem toInt64S_eq (l : List Int) (k : Nat) (hl : l.length ≤ 1048576) (hk : l.length < k) : laws_toInt64S.f k l = some l := by
  unfold laws_toInt64S.f
  rw [if_pos (by omega), if_pos (by omega)]
  exact toInt64S_l0 l (by omega) l.length 0 _ k (by simp) (by omega) (by simp) hk


theorem toInt64SS_l0 (l : List (List Int)) (hl : l.length ≤ 1048576) (hr : ∀ x ∈ l, x.length ≤ 1048576) : ∀ (d i : Nat) (x3 : List (List Int)) (k : Nat), x3.length = l.length → i + d = l.length → x3.take i = l.take i → d + 1048576 < k → laws_toInt64SS.l0 k l x3 (i : Int) = some l := by
  intro d
  induction d with
  | zero =>
    intro i x3 k h3 hd ht hk
    obtain ⟨k, rfl⟩ := succ_k hk
    simp only [laws_toInt64SS.l0]
    rw [if_neg (by omega)]
    have e : i = l.length := by omega
    subst e
    rw [List.take_length, List.take_of_length_le (by omega)] at ht
    rw [ht]
  | succ d ih =>
    intro i x3 k h3 hd ht hk
    obtain ⟨k, rfl⟩ := succ_k hk
    simp only [laws_toInt64SS.l0]
    have hm := hr _ (rdL1_mem l i (by omega))
    rw [if_pos (by omega), if_pos (by omega), toInt64S_eq _ k hm (by omega)]
    simp only [Option.bind_some]
    rw [if_pos (by omega), w64 _ (by omega) (by omega), cast_succ]
    refine ih (i + 1) _ k (by simp [h3]) (by omega) ?_ (by omega)
    rw [Int.toNat_natCast, rdL1_nat l i (by omega)]
    rw [List.take_succ_eq_append_getElem (by simp; omega), List.take_succ_eq_append_getElem (by omega), List.take_set_of_le (by omega), ht]
    simp
theorem toInt64SS_eq (l : List (List Int)) (k : Nat) (hl : l.length ≤ 1048576) (hr : ∀ x ∈ l, x.length ≤ 1048576) (hk : 2097152 < k) : laws_toInt64SS.f k l = some l := by
  unfold laws_toInt64SS.f
  rw [if_pos (by omega), if_pos (by omega)]
  exact toInt64SS_l0 l (by omega) hr l.length 0 _ k (by simp) (by omega) (by simp) (by omega)


theorem eqInt64S_l0 (l r : List Int) (hr : r.length = l.length) (hl : l.length ≤ 4611686018427387904) : ∀ (d i k : Nat), i + d = l.length → d < k → laws_eqInt64S.l0 k l r (i : Int) = some (decide (l.drop i = r.drop i)) := by
  intro d
  induction d with
  | zero =>
    intro i k hd hk
    obtain ⟨k, rfl⟩ := succ_k hk
    simp only [laws_eqInt64S.l0]
    rw [if_neg (by omega), List.drop_of_length_le (by omega), List.drop_of_length_le (by omega)]
    simp
  | succ d ih =>
    intro i k hd hk
    obtain ⟨k, rfl⟩ := succ_k hk
    simp only [laws_eqInt64S.l0]
    rw [if_pos (by omega), if_pos (by omega), if_pos (by omega), w64 _ (by omega) (by omega), cast_succ, ih (i + 1) k (by omega) (by omega), drop_rd l i (by omega), drop_rd r i (by omega)]
    by_cases h : rd l (i : Int) = rd r (i : Int)
    · simp [h]
    · simp [h]
theorem eqInt64S_eq (l r : List Int) (k : Nat) (hl : l.length ≤ 4611686018427387904) (hk : l.length < k) : laws_eqInt64S.f k l r = some (decide (l = r)) := by
  unfold laws_eqInt64S.f
  by_cases h : l.length = r.length
  · rw [if_pos (by omega)]
    have := eqInt64S_l0 l r h.symm hl l.length 0 k (by omega) hk
    simpa using this
  · rw [if_neg (by omega)]
    have : ¬ l = r := fun e => h (by rw [e])
    simp [this]
theorem eqInt64S_self (l : List Int) (k : Nat) (hl : l.length ≤ 4611686018427387904) (hk : l.length < k) : laws_eqInt64S.f k l l = some true := by
  rw [eqInt64S_eq l l k hl hk]
  simp


theorem eqInt64SS_l0 (l : List (List Int)) (hl : l.length ≤ 4611686018427387904) (n : Nat) (hn : n ≤ 4611686018427387904) (hr : ∀ x ∈ l, x.length ≤ n) : ∀ (d i k : Nat), i + d = l.length → d + n < k → laws_eqInt64SS.l0 k l l (i : Int) = some true := by
  intro d
  induction d with
  | zero =>
    intro i k hd hk
    obtain ⟨k, rfl⟩ := succ_k hk
    simp only [laws_eqInt64SS.l0]
    rw [if_neg (by omega)]
  | succ d ih =>
    intro i k hd hk
    obtain ⟨k, rfl⟩ := succ_k hk
    simp only [laws_eqInt64SS.l0]
    have hm := hr _ (rdL1_mem l i (by omega))
    rw [if_pos (by omega), if_pos (by omega), if_pos (by omega), eqInt64S_self _ k (by omega) (by omega)]
    simp only [Option.bind_some, if_true]
    rw [w64 _ (by omega) (by omega), cast_succ, ih (i + 1) k (by omega) (by omega)]
theorem eqInt64SS_self (l : List (List Int)) (n k : Nat) (hl : l.length ≤ 1048576) (hn : n ≤ 1048576) (hr : ∀ x ∈ l, x.length ≤ n) (hk : 2097152 < k) : laws_eqInt64SS.f k l l = some true := by
  unfold laws_eqInt64SS.f
  rw [if_pos rfl]
  exact eqInt64SS_l0 l (by omega) n (by omega) hr l.length 0 k (by omega) (by omega)


theorem len_le_of_sub : ∀ (l m : List Int), l.Nodup → (∀ x ∈ l, x ∈ m) → l.length ≤ m.length
  | [], m, _, _ => Nat.zero_le _
  | a :: l, m, h, hs => by
    obtain ⟨h1, h2⟩ := List.nodup_cons.1 h
    have ha : a ∈ m := hs a (by simp)
    have := len_le_of_sub l (m.erase a) h2 (fun x hx => (List.mem_erase_of_ne (fun (e : x = a) => h1 (e ▸ hx))).2 (hs x (List.mem_cons_of_mem _ hx)))
    rw [List.length_erase_of_mem ha] at this
    have hp : 0 < m.length := List.length_pos_of_mem ha
    rw [List.length_cons]
    omega
/-- The numbers below n. -/
def rangeI (n : Nat) : List Int := (List.range n).map fun (i : Nat) => (i : Int)
theorem rangeI_len (n : Nat) : (rangeI n).length = n := by simp [rangeI]
theorem rangeI_mem (n : Nat) (x : Int) : x ∈ rangeI n ↔ 0 ≤ x ∧ x < n := by
  unfold rangeI
  rw [List.mem_map]
  constructor
  · rintro ⟨i, hi, rfl⟩
    rw [List.mem_range] at hi
    omega
  · rintro ⟨h0, h1⟩
    exact ⟨x.toNat, by rw [List.mem_range]; omega, by omega⟩
theorem rangeI_nodup (n : Nat) : (rangeI n).Nodup := by
  unfold rangeI List.Nodup
  rw [List.pairwise_map]
  exact List.Pairwise.imp (fun h => by omega) (List.nodup_range (n := n))
def InN (n : Nat) (q : List Int) : Prop := ∀ x ∈ q, 0 ≤ x ∧ x < n
theorem short_of {n : Nat} {q : List Int} (h : q.Nodup) (hr : InN n q) : q.length ≤ n := by
  have := len_le_of_sub q (rangeI n) h (fun x hx => (rangeI_mem n x).2 (hr x hx))
  rwa [rangeI_len] at this
theorem full_of {n : Nat} {q : List Int} (h : q.Nodup) (hr : InN n q) (hl : n ≤ q.length) (y : Int) (h0 : 0 ≤ y) (h1 : y < n) : y ∈ q := by
  by_cases c : y ∈ q
  · exact c
  · have := short_of (q := y :: q) (List.nodup_cons.2 ⟨c, h⟩) (fun x hx => by
      rcases List.mem_cons.1 hx with rfl | hx
      · exact ⟨h0, h1⟩
      · exact hr x hx)
    rw [List.length_cons] at this
    omega
/-- A permutation of the numbers below n. -/
def PermN (n : Nat) (g : List Int) : Prop := g.length = n ∧ g.Nodup ∧ InN n g
theorem rd_in (l : List Int) (y : Int) (h0 : 0 ≤ y) (h1 : y < l.length) : rd l y ∈ l := by
  obtain ⟨m, rfl⟩ : ∃ m : Nat, y = m := ⟨y.toNat, by omega⟩
  rw [rd_nat l m (by omega)]
  exact List.getElem_mem _
theorem PermN.at {n : Nat} {g : List Int} (h : PermN n g) {y : Int} (h0 : 0 ≤ y) (h1 : y < n) : 0 ≤ rd g y ∧ rd g y < n := h.2.2 _ (rd_in g y h0 (by have := h.1; omega))
theorem PermN.inj {n : Nat} {g : List Int} (h : PermN n g) {a b : Int} (a0 : 0 ≤ a) (a1 : a < n) (b0 : 0 ≤ b) (b1 : b < n) (e : rd g a = rd g b) : a = b := by
  obtain ⟨i, rfl⟩ : ∃ m : Nat, a = m := ⟨a.toNat, by omega⟩
  obtain ⟨j, rfl⟩ : ∃ m : Nat, b = m := ⟨b.toNat, by omega⟩
  have hl := h.1
  rw [rd_nat g i (by omega), rd_nat g j (by omega)] at e
  have hp := List.pairwise_iff_getElem.1 h.2.1
  rcases Nat.lt_trichotomy i j with c | c | c
  · exact absurd e (hp i j (by omega) (by omega) c)
  · rw [c]
  · exact absurd e.symm (hp j i (by omega) (by omega) c)
/-- What a permutation sends into a closed set came out of it. -/
theorem PermN.back {n : Nat} {g : List Int} (h : PermN n g) {S : List Int} (hS : S.Nodup) (hr : InN n S) (hc : ∀ y ∈ S, rd g y ∈ S) {y : Int} (h0 : 0 ≤ y) (h1 : y < n) (hy : rd g y ∈ S) : y ∈ S := by
  by_cases c : y ∈ S
  · exact c
  · have hn : ((y :: S).map fun z => rd g z).Nodup := by
      unfold List.Nodup
      rw [List.pairwise_map]
      refine List.Pairwise.imp_of_mem (fun {a b} ha hb hab e => ?_) (List.nodup_cons.2 ⟨c, hS⟩)
      have ia : 0 ≤ a ∧ a < n := by rcases List.mem_cons.1 ha with rfl | ha; exact ⟨h0, h1⟩; exact hr a ha
      have ib : 0 ≤ b ∧ b < n := by rcases List.mem_cons.1 hb with rfl | hb; exact ⟨h0, h1⟩; exact hr b hb
      exact hab (h.inj ia.1 ia.2 ib.1 ib.2 e)
    have := len_le_of_sub _ S hn (fun x hx => by
      obtain ⟨z, hz, rfl⟩ := List.mem_map.1 hx
      rcases List.mem_cons.1 hz with rfl | hz
      · exact hy
      · exact hc z hz)
    rw [List.length_map, List.length_cons] at this
    omega
/-- The marks of a list. -/
def mkB (n : Nat) (q : List Int) : List Bool := (List.range n).map fun (i : Nat) => decide ((i : Int) ∈ q)
theorem mkB_length (n : Nat) (q : List Int) : (mkB n q).length = n := by simp [mkB]
theorem rdB (n : Nat) (q : List Int) (c : Int) (h0 : 0 ≤ c) (h1 : c < n) : rdOf false (mkB n q) c = decide (c ∈ q) := by
  obtain ⟨m, rfl⟩ : ∃ m : Nat, c = m := ⟨c.toNat, by omega⟩
  unfold rdOf mkB
  rw [Int.toNat_natCast, List.getD_eq_getElem?_getD, List.getElem?_map, List.getElem?_range (by omega)]
  rfl
theorem mkB_set (n : Nat) (q : List Int) (c : Int) (h0 : 0 ≤ c) : (mkB n q).set c.toNat true = mkB n (q ++ [c]) := by
  refine List.ext_getElem (by simp [mkB]) fun i h1 h2 => ?_
  simp only [mkB, List.getElem_set, List.getElem_map, List.getElem_range]
  by_cases e : c.toNat = i
  · rw [if_pos e]
    have : (i : Int) ∈ q ++ [c] := by simp; omega
    simp [this]
  · rw [if_neg e]
    have : ((i : Int) ∈ q ++ [c]) ↔ ((i : Int) ∈ q) := by
      rw [List.mem_append, List.mem_singleton]
      constructor
      · rintro (h | h)
        · exact h
        · omega
      · exact Or.inl
    exact decide_eq_decide.2 this.symm
theorem mkB_nil (n : Nat) : List.replicate n false = mkB n [] := by
  refine List.ext_getElem (by simp [mkB]) fun i h1 h2 => ?_
  unfold mkB
  simp
/-- A number is put to the list, if it is not there. -/
def pushO (o q : List Int) (c : Int) : List Int := if c ∈ o ++ q then q else q ++ [c]
def Good (n : Nat) (o q : List Int) : Prop := (o ++ q).Nodup ∧ InN n (o ++ q)
theorem Good.push {n : Nat} {o q : List Int} (h : Good n o q) {c : Int} (h0 : 0 ≤ c) (h1 : c < n) : Good n o (pushO o q c) := by
  unfold pushO
  split
  · exact h
  · rename_i hc
    refine ⟨?_, fun x hx => ?_⟩
    · rw [← List.append_assoc]
      refine List.nodup_append.2 ⟨h.1, by simp, fun a ha b hb e => ?_⟩
      rw [List.mem_singleton] at hb
      exact hc (hb ▸ e ▸ ha)
    · rw [← List.append_assoc, List.mem_append, List.mem_singleton] at hx
      rcases hx with hx | rfl
      · exact h.2 x hx
      · exact ⟨h0, h1⟩
theorem pushO_pre (o q : List Int) (c : Int) : ∃ t, pushO o q c = q ++ t := by
  unfold pushO
  split
  · exact ⟨[], by simp⟩
  · exact ⟨[c], rfl⟩
theorem pushO_in (o q : List Int) (c : Int) : c ∈ o ++ pushO o q c := by
  unfold pushO
  split
  · assumption
  · simp
theorem pushO_mem (o q : List Int) (c x : Int) (h : x ∈ pushO o q c) : x ∈ q ∨ x = c := by
  unfold pushO at h
  split at h
  · exact .inl h
  · simpa using h
theorem foldO {n : Nat} {o : List Int} : ∀ (cs q : List Int), Good n o q → InN n cs → Good n o (cs.foldl (pushO o) q) ∧ (∃ t, cs.foldl (pushO o) q = q ++ t) ∧ (∀ c ∈ cs, c ∈ o ++ cs.foldl (pushO o) q) ∧ ∀ x ∈ cs.foldl (pushO o) q, x ∈ q ∨ x ∈ cs
  | [], q, h, _ => ⟨h, ⟨[], by simp⟩, fun _ hc => absurd hc (by simp), fun x hx => .inl hx⟩
  | c :: cs, q, h, hr => by
    have hc := hr c (by simp)
    obtain ⟨h1, ⟨t, h2⟩, h3, h4⟩ := foldO cs (pushO o q c) (h.push hc.1 hc.2) (fun x hx => hr x (List.mem_cons_of_mem _ hx))
    obtain ⟨t1, e1⟩ := pushO_pre o q c
    rw [List.foldl_cons]
    refine ⟨h1, ⟨t1 ++ t, by rw [h2, e1, List.append_assoc]⟩, fun x hx => ?_, fun x hx => ?_⟩
    · rcases List.mem_cons.1 hx with rfl | hx
      · have := pushO_in o q x
        rw [h2]
        rw [List.mem_append] at this ⊢
        rcases this with h | h
        · exact .inl h
        · exact .inr (List.mem_append_left _ h)
      · exact h3 x hx
    · rcases h4 x hx with h | h
      · rcases pushO_mem o q c x h with h | h
        · exact .inl h
        · exact .inr (by simp [h])
      · exact .inr (List.mem_cons_of_mem _ h)
/-- All that can be reached, first come, first served. -/
def bfsO (o : List Int) (cand : Int → List Int) : Nat → Nat → List Int → List Int
  | 0, _, q => q
  | d + 1, i, q => if i < q.length then bfsO o cand d (i + 1) ((cand (rd q (i : Int))).foldl (pushO o) q) else q
theorem rd_pre (q t : List Int) (i : Nat) (h : i < q.length) : rd (q ++ t) (i : Int) = rd q (i : Int) := by
  rw [rd_nat q i h, rd_nat (q ++ t) i (by simp; omega), List.getElem_append_left]
theorem mem_rd (q : List Int) (x : Int) (h : x ∈ q) : ∃ j : Nat, j < q.length ∧ rd q (j : Int) = x := by
  obtain ⟨j, hj, e⟩ := List.getElem_of_mem h
  exact ⟨j, hj, by rw [rd_nat q j hj, e]⟩
theorem Good.len {n : Nat} {o q : List Int} (h : Good n o q) : q.length ≤ n := by
  have := short_of h.1 h.2
  rw [List.length_append] at this
  omega
theorem Good.right {n : Nat} {o q : List Int} (h : Good n o q) : q.Nodup ∧ InN n q := ⟨(List.nodup_append.1 h.1).2.1, fun x hx => h.2 x (List.mem_append_right _ hx)⟩
theorem bfsO_facts {n : Nat} {o : List Int} {cand : Int → List Int} (hc : ∀ y : Int, 0 ≤ y → y < n → InN n (cand y)) : ∀ (d i : Nat) (q : List Int), Good n o q → i ≤ q.length → n < d + i →
    (∀ j : Nat, j < i → ∀ c ∈ cand (rd q (j : Int)), c ∈ o ++ q) →
    Good n o (bfsO o cand d i q) ∧ (∀ x ∈ q, x ∈ bfsO o cand d i q) ∧ (∀ y ∈ bfsO o cand d i q, ∀ c ∈ cand y, c ∈ o ++ bfsO o cand d i q) ∧
      ∀ P : Int → Prop, (∀ y : Int, 0 ≤ y → y < n → P y → ∀ c ∈ cand y, P c) → (∀ y ∈ q, P y) → ∀ y ∈ bfsO o cand d i q, P y
  | 0, i, q, h, hi, hd, _ => by
    have := h.len
    omega
  | d + 1, i, q, h, hi, hd, hp => by
    unfold bfsO
    by_cases c : i < q.length
    · rw [if_pos c]
      have hy := h.right.2 _ (rd_in q (i : Int) (by omega) (by omega))
      obtain ⟨h1, ⟨t, h2⟩, h3, h4⟩ := foldO (n := n) (o := o) (cand (rd q (i : Int))) q h (hc _ hy.1 hy.2)
      obtain ⟨g1, g2, g3, g4⟩ := bfsO_facts hc d (i + 1) _ h1 (by rw [h2]; simp; omega) (by omega) (fun j hj x hx => by
        by_cases e : j = i
        · subst e
          rw [h2, rd_pre q t j c] at hx
          exact h3 x hx
        · rw [h2, rd_pre q t j (by omega)] at hx
          have := hp j (by omega) x hx
          rw [h2, ← List.append_assoc]
          exact List.mem_append_left _ this)
      refine ⟨g1, fun x hx => g2 x (by rw [h2]; exact List.mem_append_left _ hx), g3, fun P hP hq => g4 P hP fun y hy2 => ?_⟩
      rcases h4 y hy2 with h | h
      · exact hq y h
      · exact hP _ hy.1 hy.2 (hq _ (rd_in q (i : Int) (by omega) (by omega))) y h
    · rw [if_neg c]
      refine ⟨h, fun x hx => hx, fun y hy x hx => ?_, fun P _ hq => hq⟩
      obtain ⟨j, hj, rfl⟩ := mem_rd q y hy
      exact hp j (by omega) x hx


/-- With enough rounds, the answer is r. -/
def Evt {α : Type} (f : Nat → Option α) (r : α) : Prop := ∃ c, ∀ K, c ≤ K → f K = some r
theorem Evt.step {α : Type} {f g : Nat → Option α} {r : α} (h : Evt g r) (e : ∀ K, f (K + 1) = g K) : Evt f r := by
  obtain ⟨c, hc⟩ := h
  refine ⟨c + 1, fun K hK => ?_⟩
  obtain ⟨K, rfl⟩ : ∃ m, K = m + 1 := ⟨K - 1, by omega⟩
  rw [e K]
  exact hc K (by omega)
theorem Evt.same {α : Type} {f g : Nat → Option α} {r : α} (h : Evt g r) (e : ∀ K, f K = g K) : Evt f r := by
  obtain ⟨c, hc⟩ := h
  exact ⟨c, fun K hK => by rw [e K]; exact hc K hK⟩
theorem Evt.now {α : Type} {f : Nat → Option α} {r : α} (e : ∀ K, f (K + 1) = some r) : Evt f r := by
  refine ⟨1, fun K hK => ?_⟩
  obtain ⟨K, rfl⟩ : ∃ m, K = m + 1 := ⟨K - 1, by omega⟩
  exact e K
theorem Evt.const {α : Type} {f : Nat → Option α} {r : α} (e : ∀ K, f K = some r) : Evt f r := ⟨0, fun K _ => e K⟩
theorem Evt.bind {α β : Type} {f : Nat → Option β} {g : Nat → Option α} {h : Nat → α → Option β} {x : α} {r : β} (hg : Evt g x) (hh : Evt (fun K => h K x) r) (e : ∀ K, f K = (g K).bind (h K)) : Evt f r := by
  obtain ⟨c, hc⟩ := hg
  obtain ⟨d, hd⟩ := hh
  exact ⟨c + d, fun K hK => by rw [e K, hc K (by omega)]; exact hd K (by omega)⟩
theorem Evt.bind1 {α β : Type} {f : Nat → Option β} {g : Nat → Option α} {h : Nat → α → Option β} {x : α} {r : β} (hg : Evt g x) (hh : Evt (fun K => h K x) r) (e : ∀ K, f (K + 1) = (g K).bind (h K)) : Evt f r :=
  Evt.step (g := fun K => (g K).bind (h K)) (Evt.bind hg hh fun _ => rfl) e
theorem Evt.get {α : Type} {f : Nat → Option α} {r : α} (h : Evt f r) : ∃ c, ∀ K, c ≤ K → f K = some r := h

/-- The test of a permutation, entry by entry. -/
def goP (n len : Nat) : List Int → List Int → Bool
  | _, [] => decide (len = n)
  | q, x :: t => if 0 ≤ x ∧ x ≤ (n : Int) - 1 then (if x ∈ q then false else goP n len (q ++ [x]) t) else false
theorem goP_true (n len : Nat) : ∀ (t q : List Int), goP n len q t = true → q.Nodup → InN n q → (q ++ t).Nodup ∧ InN n (q ++ t) ∧ len = n
  | [], q, h, h1, h2 => by
    rw [List.append_nil]
    exact ⟨h1, h2, of_decide_eq_true h⟩
  | x :: t, q, h, h1, h2 => by
    unfold goP at h
    by_cases c : 0 ≤ x ∧ x ≤ (n : Int) - 1
    · rw [if_pos c] at h
      by_cases e : x ∈ q
      · rw [if_pos e] at h
        exact absurd h (by simp)
      · rw [if_neg e] at h
        have := goP_true n len t (q ++ [x]) h (List.nodup_append.2 ⟨h1, by simp, fun a ha b hb e2 => by
          rw [List.mem_singleton] at hb
          exact e (hb ▸ e2 ▸ ha)⟩) (fun y hy => by
          rw [List.mem_append, List.mem_singleton] at hy
          rcases hy with hy | rfl
          · exact h2 y hy
          · omega)
        rwa [List.append_assoc] at this
    · rw [if_neg c] at h
      exact absurd h (by simp)
theorem permN_of {n : Nat} {g : List Int} (h : goP n g.length [] g = true) : PermN n g := by
  obtain ⟨h1, h2, h3⟩ := goP_true n g.length g [] h (by simp) (fun x hx => absurd hx (by simp))
  exact ⟨h3, h1, h2⟩

theorem implIsPerm_l0 (n : Nat) (hn : n ≤ 8) (l : List Int) (hl : l.length ≤ 1048576) : ∀ (d i : Nat) (q : List Int), i + d = l.length → Evt (fun K => impl_isPermutation.l0 K l (n : Int) (mkB n q) l (l.length : Int) (i : Int)) (goP n l.length q (l.drop i))
  | 0, i, q, hd => by
    refine Evt.now fun K => ?_
    rw [impl_isPermutation.l0, if_neg (by omega), List.drop_of_length_le (by omega)]
    unfold impl_size_int64.f goP
    rw [Option.bind_some]
    refine congrArg some ?_
    rw [show ((l.length : Int) == (n : Int)) = decide ((l.length : Int) = (n : Int)) from rfl]
    exact decide_eq_decide.2 (by omega)
  | d + 1, i, q, hd => by
    have e1 : wrap64 ((n : Int) - 1) = (n : Int) - 1 := w64 _ (by omega) (by omega)
    have e2 : wrap64 ((i : Int) + 1) = ((i + 1 : Nat) : Int) := w64n (i + 1) (by omega)
    rw [drop_rd l i (by omega)]
    obtain ⟨x, hx⟩ : ∃ x, x = rd l (i : Int) := ⟨_, rfl⟩
    have hf : ∀ K, impl_isPermutation.l0 (K + 1) l (n : Int) (mkB n q) l (l.length : Int) (i : Int) = (if 0 ≤ x ∧ x ≤ (n : Int) - 1 then (if x ∈ q then some false else impl_isPermutation.l0 K l (n : Int) ((mkB n q).set x.toNat true) l (l.length : Int) ((i + 1 : Nat) : Int)) else some false) := by
      intro K
      rw [impl_isPermutation.l0, if_pos (by omega), if_pos (by omega), if_pos (by omega), ← hx, e1, e2]
      unfold impl_inRange.f
      by_cases c : 0 ≤ x ∧ x ≤ (n : Int) - 1
      · rw [if_pos c]
        have c1 : (0 : Int) ≤ x := c.1
        have c3 : x < ((mkB n q).length : Int) := by rw [mkB_length]; omega
        have c4 := c.2
        rw [rdB n q x c.1 (by omega)]
        simp only [c1, c3, c4, decide_true, Bool.and_self, if_true, Option.bind_some, ge_iff_le, decide_eq_true_eq]
      · rw [if_neg c]
        by_cases c0 : 0 ≤ x
        · have c4 : ¬ x ≤ (n : Int) - 1 := fun h => c ⟨c0, h⟩
          simp [c0, c4]
        · simp [c0]
    rw [← hx]
    unfold goP
    by_cases c : 0 ≤ x ∧ x ≤ (n : Int) - 1
    · rw [if_pos c]
      by_cases e : x ∈ q
      · rw [if_pos e]
        exact Evt.now fun K => by rw [hf, if_pos c, if_pos e]
      · rw [if_neg e]
        have ih := implIsPerm_l0 n hn l hl d (i + 1) (q ++ [x]) (by omega)
        refine Evt.step ih fun K => ?_
        rw [hf, if_pos c, if_neg e, mkB_set n q x c.1]
    · rw [if_neg c]
      exact Evt.now fun K => by rw [hf, if_neg c]
theorem implIsPerm_ev (n : Nat) (hn : n ≤ 8) (l : List Int) (hl : l.length ≤ 1048576) : Evt (fun K => impl_isPermutation.f K l (n : Int)) (goP n l.length [] l) := by
  have h := implIsPerm_l0 n hn l hl l.length 0 [] (by omega)
  rw [List.drop_zero, ← mkB_nil] at h
  refine Evt.same h fun K => ?_
  unfold impl_isPermutation.f
  rw [if_pos (by omega), Int.toNat_natCast, if_pos (by omega)]
  rfl

theorem rdSet (l : List Int) (p q : Nat) (h : p < l.length) (v : Int) : rd (l.set p v) (q : Int) = if q = p then v else rd l (q : Int) := by
  unfold rd
  rw [Int.toNat_natCast, List.getD_eq_getElem?_getD, List.getD_eq_getElem?_getD]
  by_cases e : p = q
  · subst e
    rw [if_pos rfl, List.getElem?_set_self h]
    rfl
  · rw [if_neg (Ne.symm e), List.getElem?_set_ne e]
/-- The first entries stand in order. -/
def SortedTo (i : Nat) (x : List Int) : Prop := ∀ a b : Nat, a < b → b < i → rd x (a : Int) ≤ rd x (b : Int)
theorem less_eq (a b : Int) : cmp_Less_int64.f a b = some (decide (a < b)) := by
  unfold cmp_Less_int64.f cmp_isNaN_int64.f
  simp
theorem sort_l1 (L i : Nat) (hL : L ≤ 1000) (hi : i < L) (Q : List Int → Prop) : ∀ (j : Nat) (x : List Int), j ≤ i → x.length = L → (∀ a b : Nat, a < b → b ≤ i → b ≠ j → rd x (a : Int) ≤ rd x (b : Int)) →
    (∀ x' : List Int, x'.Perm x → SortedTo (i + 1) x' → ∃ r, Evt (fun K => slices_insertionSortOrdered_int64.l0 K x' 0 (L : Int) ((i + 1 : Nat) : Int)) r ∧ Q r) →
    ∃ r, Evt (fun K => slices_insertionSortOrdered_int64.l1 K x 0 (L : Int) (i : Int) (j : Int)) r ∧ Q r
  | 0, x, hj, hx, hs, hk => by
    obtain ⟨r, h1, h2⟩ := hk x (List.Perm.refl _) (fun a b hab hb => hs a b hab (by omega) (by omega))
    have e2 : wrap64 ((i : Int) + 1) = ((i + 1 : Nat) : Int) := w64n (i + 1) (by omega)
    refine ⟨r, Evt.step h1 fun K => ?_, h2⟩
    rw [slices_insertionSortOrdered_int64.l1, if_neg (by simp), e2]
  | j + 1, x, hj, hx, hs, hk => by
    have e2 : wrap64 ((i : Int) + 1) = ((i + 1 : Nat) : Int) := w64n (i + 1) (by omega)
    have e1 : wrap64 (((j + 1 : Nat) : Int) - 1) = (j : Int) := by rw [show ((j + 1 : Nat) : Int) - 1 = (j : Int) by omega]; exact w64n j (by omega)
    have hf : ∀ K, slices_insertionSortOrdered_int64.l1 (K + 1) x 0 (L : Int) (i : Int) ((j + 1 : Nat) : Int) = (if rd x ((j + 1 : Nat) : Int) < rd x (j : Int) then slices_insertionSortOrdered_int64.l1 K ((x.set (j + 1) (rd x (j : Int))).set j (rd x ((j + 1 : Nat) : Int))) 0 (L : Int) (i : Int) (j : Int) else slices_insertionSortOrdered_int64.l0 K x 0 (L : Int) ((i + 1 : Nat) : Int)) := by
      intro K
      rw [slices_insertionSortOrdered_int64.l1, if_pos (by omega), if_pos (by omega), if_pos (by omega), e1, if_pos (by omega), if_pos (by omega), less_eq, Option.bind_some, e2, Int.toNat_natCast, Int.toNat_natCast]
      by_cases c : rd x ((j + 1 : Nat) : Int) < rd x (j : Int)
      · rw [if_pos c, if_pos (decide_eq_true c)]
      · rw [if_neg c, if_neg (by simpa using c)]
    by_cases c : rd x ((j + 1 : Nat) : Int) < rd x (j : Int)
    · have hp : ((x.set (j + 1) (rd x (j : Int))).set j (rd x ((j + 1 : Nat) : Int))).Perm x := by
        rw [rd_nat x j (by omega), rd_nat x (j + 1) (by omega)]
        exact List.set_set_perm (by omega) (by omega)
      have hv : ∀ q : Nat, rd ((x.set (j + 1) (rd x (j : Int))).set j (rd x ((j + 1 : Nat) : Int))) (q : Int) = if q = j then rd x ((j + 1 : Nat) : Int) else if q = j + 1 then rd x (j : Int) else rd x (q : Int) := by
        intro q
        rw [rdSet _ j q (by simp; omega), rdSet x (j + 1) q (by omega)]
      obtain ⟨r, h1, h2⟩ := sort_l1 L i hL hi Q j _ (by omega) (by simp [hx]) (fun a b hab hb hne => by
        rw [hv a, hv b, if_neg hne]
        by_cases b1 : b = j + 1
        · rw [if_pos b1]
          by_cases a1 : a = j
          · rw [if_pos a1]
            omega
          · rw [if_neg a1, if_neg (by omega)]
            exact hs a j (by omega) (by omega) (by omega)
        · rw [if_neg b1]
          have h3 := hs a b hab hb b1
          by_cases a1 : a = j
          · rw [if_pos a1]
            exact hs (j + 1) b (by omega) hb b1
          · rw [if_neg a1]
            by_cases a2 : a = j + 1
            · rw [if_pos a2]
              exact hs j b (by omega) hb b1
            · rw [if_neg a2]
              exact h3) (fun x' hx' hs' => hk x' (hx'.trans hp) hs')
      exact ⟨r, Evt.step h1 fun K => by rw [hf, if_pos c], h2⟩
    · obtain ⟨r, h1, h2⟩ := hk x (List.Perm.refl _) (fun a b hab hb => by
        by_cases b1 : b = j + 1
        · subst b1
          by_cases a1 : a = j
          · subst a1
            omega
          · have := hs a j (by omega) (by omega) (by omega)
            omega
        · exact hs a b hab (by omega) b1)
      exact ⟨r, Evt.step h1 fun K => by rw [hf, if_neg c], h2⟩
theorem sort_l0 (L : Nat) (hL : L ≤ 1000) : ∀ (d i : Nat) (x : List Int), i + d = L → x.length = L → SortedTo i x →
    ∃ r, Evt (fun K => slices_insertionSortOrdered_int64.l0 K x 0 (L : Int) (i : Int)) r ∧ r.Perm x ∧ SortedTo L r
  | 0, i, x, hd, hx, hs => by
    refine ⟨x, Evt.now fun K => ?_, List.Perm.refl _, by rw [← hd]; exact hs⟩
    rw [slices_insertionSortOrdered_int64.l0, if_neg (by omega)]
  | d + 1, i, x, hd, hx, hs => by
    obtain ⟨r, h1, h2⟩ := sort_l1 L i hL (by omega) (fun r => r.Perm x ∧ SortedTo L r) i x (Nat.le_refl _) hx (fun a b hab hb hne => hs a b hab (by omega)) (fun x' hp hs' => by
      obtain ⟨r, g1, g2, g3⟩ := sort_l0 L hL d (i + 1) x' (by omega) (by rw [hp.length_eq, hx]) hs'
      exact ⟨r, g1, g2.trans hp, g3⟩)
    refine ⟨r, Evt.step h1 fun K => ?_, h2⟩
    rw [slices_insertionSortOrdered_int64.l0, if_pos (by omega)]
theorem sort_ev (l : List Int) (hl : l.length ≤ 12) : ∃ r, Evt (fun K => slices_Sort_int64_int64.f K l) r ∧ r.Perm l ∧ SortedTo l.length r := by
  have e01 : wrap64 (0 + 1) = ((1 : Nat) : Int) := w64n 1 (by omega)
  by_cases c : l.length = 0
  · refine ⟨l, Evt.now fun K => ?_, List.Perm.refl _, fun a b _ hb => by omega⟩
    unfold slices_Sort_int64_int64.f slices_insertionSortOrdered_int64.f
    rw [if_pos hl, slices_insertionSortOrdered_int64.l0, if_neg (by rw [c, e01]; omega)]
  · obtain ⟨r, h1, h2⟩ := sort_l0 l.length (by omega) (l.length - 1) 1 l (by omega) rfl (fun a b h1 h2 => by omega)
    refine ⟨r, Evt.same h1 fun K => ?_, h2⟩
    unfold slices_Sort_int64_int64.f slices_insertionSortOrdered_int64.f
    rw [if_pos hl, e01]

/-- The images of a point. -/
def candI (G : List (List Int)) (y : Int) : List Int := G.map fun g => rd g y
theorem candI_in {n : Nat} {G : List (List Int)} (hG : ∀ g ∈ G, PermN n g) (y : Int) (h0 : 0 ≤ y) (h1 : y < n) : InN n (candI G y) := by
  intro x hx
  obtain ⟨g, hg, rfl⟩ := List.mem_map.1 hx
  exact (hG g hg).at h0 h1
theorem orb_l2 {n : Nat} (hn : n ≤ 8) {G : List (List Int)} (hG : ∀ g ∈ G, PermN n g) (hl : G.length ≤ 1048576) (out : List (List Int)) (o : List Int) (X x : Int) (i : Nat) (y : Int) (h0 : 0 ≤ y) (h1 : y < n) (r : List (List Int)) :
    ∀ (d j : Nat) (q : List Int), j + d = G.length → i < q.length → rd q (i : Int) = y → Good n o q →
      Evt (fun K => impl_orbits.l1 K G out (mkB n (o ++ ((G.drop j).map fun g => rd g y).foldl (pushO o) q)) (((G.drop j).map fun g => rd g y).foldl (pushO o) q) ((i + 1 : Nat) : Int) X x) r →
      Evt (fun K => impl_orbits.l2 K G out (mkB n (o ++ q)) q (i : Int) X x G (G.length : Int) (j : Int)) r
  | 0, j, q, hd, hi, hy, hg, h => by
    rw [List.drop_of_length_le (by omega)] at h
    refine Evt.step h fun K => ?_
    have hq := hg.len
    have ei : wrap64 ((i : Int) + 1) = ((i + 1 : Nat) : Int) := w64n (i + 1) (by omega)
    rw [impl_orbits.l2, if_neg (by omega), ei]
    rfl
  | d + 1, j, q, hd, hi, hy, hg, h => by
    have hq := hg.len
    have hj : j < G.length := by omega
    have hd2 : (j + 1) + d = G.length := by omega
    have ej : wrap64 ((j : Int) + 1) = ((j + 1 : Nat) : Int) := w64n (j + 1) (by omega)
    have f1 : (j : Int) < (G.length : Int) := Int.ofNat_lt.2 hj
    have f2 : (0 : Int) ≤ (j : Int) := Int.natCast_nonneg j
    have f3 : (0 : Int) ≤ (i : Int) := Int.natCast_nonneg i
    have f4 : (i : Int) < (q.length : Int) := Int.ofNat_lt.2 hi
    have f7 : q.length < 17592186044416 := Nat.lt_of_le_of_lt (Nat.le_trans hq hn) (by decide)
    have hm := rdL1_mem G j hj
    obtain ⟨g, hge⟩ : ∃ g, g = rd_L1 G (j : Int) := ⟨_, rfl⟩
    rw [drop_rdL1 G j hj, ← hge, List.map_cons, List.foldl_cons] at h
    rw [← hge] at hm
    have hp := hG g hm
    have hc := hp.at h0 h1
    have f5 : y < (g.length : Int) := by rw [hp.1]; exact h1
    obtain ⟨c, hce⟩ : ∃ c, c = rd g y := ⟨_, rfl⟩
    rw [← hce] at h hc
    have f6 : c < ((mkB n (o ++ q)).length : Int) := by rw [mkB_length]; exact hc.2
    obtain ⟨t, ht⟩ := pushO_pre o q c
    have hi2 : i < (pushO o q c).length := by rw [ht, List.length_append]; exact Nat.lt_of_lt_of_le hi (Nat.le_add_right _ _)
    have ih := orb_l2 hn hG hl out o X x i y h0 h1 r d (j + 1) (pushO o q c) hd2 hi2 (by rw [ht, rd_pre q t i hi, hy]) (hg.push hc.1 hc.2) h
    refine Evt.step ih fun K => ?_
    clear ih h
    rw [impl_orbits.l2, if_pos f1, if_pos f2, if_pos f1, if_pos f3, if_pos f4, hy, ← hge, if_pos h0, if_pos f5, ← hce, if_pos hc.1, if_pos f6, rdB n _ c hc.1 hc.2, ej]
    by_cases e : c ∈ o ++ q
    · have e1 : pushO o q c = q := if_pos e
      rw [e1, if_pos (decide_eq_true e)]
    · have e1 : pushO o q c = q ++ [c] := if_neg e
      rw [e1, if_neg (by simpa using e), if_pos f7, mkB_set n _ c hc.1, List.append_assoc]
theorem orb_l1 {n : Nat} (hn : n ≤ 8) {G : List (List Int)} (hG : ∀ g ∈ G, PermN n g) (hl : G.length ≤ 1048576) (out : List (List Int)) (o : List Int) (X x : Int) (r : List (List Int)) :
    ∀ (d i : Nat) (q : List Int), Good n o q → i ≤ q.length → n < d + i →
      Evt (fun K => (slices_Sort_int64_int64.f K (bfsO o (candI G) d i q)).bind fun t => if out.length < 5864062014805 then impl_orbits.l0 K G (out ++ [t]) (mkB n (o ++ bfsO o (candI G) d i q)) X (wrap64 (x + 1)) else none) r →
      Evt (fun K => impl_orbits.l1 K G out (mkB n (o ++ q)) q (i : Int) X x) r
  | 0, i, q, hg, hi, hd, _ => by
    have := hg.len
    omega
  | d + 1, i, q, hg, hi, hd, h => by
    unfold bfsO at h
    by_cases c : i < q.length
    · rw [if_pos c] at h
      have hy := hg.right.2 _ (rd_in q (i : Int) (by omega) (by omega))
      obtain ⟨g1, ⟨t, g2⟩, g3, g4⟩ := foldO (n := n) (o := o) (candI G (rd q (i : Int))) q hg (candI_in hG _ hy.1 hy.2)
      have ih := orb_l1 hn hG hl out o X x r d (i + 1) _ g1 (by rw [g2]; simp; omega) (by omega) h
      have h2 := orb_l2 hn hG hl out o X x i (rd q (i : Int)) hy.1 hy.2 r G.length 0 q (by omega) c rfl hg ih
      refine Evt.step h2 fun K => ?_
      rw [impl_orbits.l1, if_pos (by omega)]
      rfl
    · rw [if_neg c] at h
      refine Evt.step h fun K => ?_
      rw [impl_orbits.l1, if_neg (by omega)]
/-- The orbits that are found from x on, each in the order in which it was found. -/
def orbL (n : Nat) (G : List (List Int)) : Nat → Nat → List Int → List (List Int)
  | 0, _, _ => []
  | d + 1, x, o => if (x : Int) ∈ o then orbL n G d (x + 1) o else bfsO o (candI G) (n + 1) 0 [(x : Int)] :: orbL n G d (x + 1) (o ++ bfsO o (candI G) (n + 1) 0 [(x : Int)])
/-- The same lists, each sorted. -/
def Like : List (List Int) → List (List Int) → Prop
  | [], [] => True
  | a :: s, b :: t => (a.Perm b ∧ SortedTo b.length a) ∧ Like s t
  | _, _ => False
theorem Like.len : ∀ {s t : List (List Int)}, Like s t → s.length = t.length
  | [], [], _ => rfl
  | _ :: s, _ :: t, h => by rw [List.length_cons, List.length_cons, Like.len h.2]
  | [], _ :: _, h => h.elim
  | _ :: _, [], h => h.elim
theorem orbL_nil (n : Nat) (G : List (List Int)) : ∀ (d x : Nat) (o : List Int), orbL n G d x o = [] ↔ ∀ y : Nat, x ≤ y → y < x + d → (y : Int) ∈ o
  | 0, x, o => ⟨fun _ y h1 h2 => by omega, fun _ => rfl⟩
  | d + 1, x, o => by
    unfold orbL
    by_cases c : (x : Int) ∈ o
    · rw [if_pos c, orbL_nil n G d (x + 1) o]
      constructor
      · intro h y hy1 hy2
        by_cases e : y = x
        · rw [e]
          exact c
        · exact h y (by omega) (by omega)
      · intro h y hy1 hy2
        exact h y (by omega) (by omega)
    · rw [if_neg c]
      exact ⟨fun h => absurd h (by simp), fun h => absurd (h x (Nat.le_refl _) (by omega)) c⟩
theorem good_one {n : Nat} {o : List Int} (hg : Good n o []) {x : Int} (h0 : 0 ≤ x) (h1 : x < n) (c : x ∉ o) : Good n o [x] := by
  have := hg.push (c := x) h0 h1
  unfold pushO at this
  rw [List.append_nil, if_neg c] at this
  exact this
theorem orb_l0 {n : Nat} (hn : n ≤ 8) {G : List (List Int)} (hG : ∀ g ∈ G, PermN n g) (hl : G.length ≤ 1048576) :
    ∀ (d x : Nat) (o : List Int) (out : List (List Int)), x + d = n → Good n o [] → out.length ≤ x →
      ∃ more, Evt (fun K => impl_orbits.l0 K G out (mkB n o) (n : Int) (x : Int)) (out ++ more) ∧ Like more (orbL n G d x o)
  | 0, x, o, out, hd, hg, ho => by
    refine ⟨[], Evt.now fun K => ?_, trivial⟩
    rw [impl_orbits.l0, if_neg (by omega), List.append_nil]
  | d + 1, x, o, out, hd, hg, ho => by
    have hxn : (x : Int) < (n : Int) := by omega
    have ho2 : out.length < 5864062014805 := Nat.lt_of_le_of_lt (show out.length ≤ 8 by omega) (by decide)
    have ex : wrap64 ((x : Int) + 1) = ((x + 1 : Nat) : Int) := w64n (x + 1) (by omega)
    have hf : ∀ K, impl_orbits.l0 (K + 1) G out (mkB n o) (n : Int) (x : Int) = (if (x : Int) ∈ o then impl_orbits.l0 K G out (mkB n o) (n : Int) ((x + 1 : Nat) : Int) else impl_orbits.l1 K G out (mkB n (o ++ [(x : Int)])) [(x : Int)] 0 (n : Int) (x : Int)) := by
      intro K
      rw [impl_orbits.l0, if_pos hxn, if_pos (Int.natCast_nonneg x), if_pos (by rw [mkB_length]; exact hxn), rdB n o (x : Int) (Int.natCast_nonneg x) hxn, ex, mkB_set n o (x : Int) (Int.natCast_nonneg x)]
      by_cases c : (x : Int) ∈ o
      · rw [if_pos c, if_pos (decide_eq_true c)]
      · rw [if_neg c, if_neg (by simpa using c)]
    have hd2 : x + 1 + d = n := by omega
    unfold orbL
    by_cases c : (x : Int) ∈ o
    · obtain ⟨more, h1, h2⟩ := orb_l0 hn hG hl d (x + 1) o out hd2 hg (Nat.le_succ_of_le ho)
      rw [if_pos c]
      exact ⟨more, Evt.step h1 fun K => by rw [hf, if_pos c], h2⟩
    · have hg1 := good_one hg (Int.natCast_nonneg x) hxn c
      obtain ⟨g1, g2, _, _⟩ := bfsO_facts (n := n) (o := o) (cand := candI G) (fun y h0 h1 => candI_in hG y h0 h1) (n + 1) 0 [(x : Int)] hg1 (Nat.zero_le _) (by clear ex hf; omega) (fun j hj => absurd hj (Nat.not_lt_zero j))
      obtain ⟨s, s1, s2, s3⟩ := sort_ev (bfsO o (candI G) (n + 1) 0 [(x : Int)]) (Nat.le_trans g1.len (Nat.le_trans hn (by decide)))
      obtain ⟨more, h1, h2⟩ := orb_l0 hn hG hl d (x + 1) (o ++ bfsO o (candI G) (n + 1) 0 [(x : Int)]) (out ++ [s]) hd2 (by unfold Good; rw [List.append_nil]; exact g1) (by rw [List.length_append]; exact Nat.succ_le_succ ho)
      rw [if_neg c]
      refine ⟨s :: more, ?_, ⟨s2, s3⟩, h2⟩
      have h3 := orb_l1 hn hG hl out o (n : Int) (x : Int) (out ++ s :: more) (n + 1) 0 [(x : Int)] hg1 (Nat.zero_le _) (by clear ex hf; omega) (Evt.bind s1 (h := fun K t => if out.length < 5864062014805 then impl_orbits.l0 K G (out ++ [t]) (mkB n (o ++ bfsO o (candI G) (n + 1) 0 [(x : Int)])) (n : Int) (wrap64 ((x : Int) + 1)) else none) (by
        rw [List.append_assoc, List.singleton_append] at h1
        exact Evt.same h1 fun K => by rw [if_pos ho2, ex]) fun _ => rfl)
      exact Evt.step h3 fun K => by rw [hf, if_neg c]; rfl
theorem orbits_ev {n : Nat} (hn : n ≤ 8) {G : List (List Int)} (hG : ∀ g ∈ G, PermN n g) (hl : G.length ≤ 1048576) : ∃ r, Evt (fun K => impl_orbits.f K (n : Int) G) r ∧ Like r (orbL n G n 0 []) := by
  obtain ⟨r, h1, h2⟩ := orb_l0 hn hG hl n 0 [] [] (by omega) ⟨by simp, fun x hx => absurd hx (by simp)⟩ (Nat.le_refl _)
  refine ⟨r, Evt.same h1 fun K => ?_, h2⟩
  unfold impl_orbits.f
  rw [if_pos (Int.natCast_nonneg n), Int.toNat_natCast, if_pos (Nat.le_trans hn (by decide)), mkB_nil]
  rfl

/-- All labels of one kind become another. -/
def mergeL (L : List Int) (a b : Int) : List Int := L.map fun v => if v = mx a b then mn a b else v
theorem mergeL_length (L : List Int) (a b : Int) : (mergeL L a b).length = L.length := by simp [mergeL]
theorem rd_merge (L : List Int) (a b y : Int) (h0 : 0 ≤ y) (h1 : y < L.length) : rd (mergeL L a b) y = if rd L y = mx a b then mn a b else rd L y := by
  obtain ⟨m, rfl⟩ : ∃ m : Nat, y = m := ⟨y.toNat, by omega⟩
  rw [rd_nat _ m (by rw [mergeL_length]; omega), rd_nat L m (by omega)]
  unfold mergeL
  rw [List.getElem_map]
/-- Closed under the letters, and under their inverses. -/
def Inv (n : Nat) (G : List (List Int)) (P : Int → Prop) : Prop := ∀ g ∈ G, ∀ x : Int, 0 ≤ x → x < n → (P x ↔ P (rd g x))
/-- Labels: each is the label of itself, none is above its place, and a label stands in its place's orbit. -/
def Lab (n : Nat) (G : List (List Int)) (L : List Int) : Prop := L.length = n ∧ (∀ y : Int, 0 ≤ y → y < n → 0 ≤ rd L y ∧ rd L y ≤ y ∧ rd L (rd L y) = rd L y) ∧ ∀ P, Inv n G P → ∀ y : Int, 0 ≤ y → y < n → (P y ↔ P (rd L y))
theorem rangeI_rd (n : Nat) (y : Int) (h0 : 0 ≤ y) (h1 : y < n) : rd (rangeI n) y = y := by
  obtain ⟨m, rfl⟩ : ∃ m : Nat, y = m := ⟨y.toNat, by omega⟩
  rw [rd_nat _ m (by rw [rangeI_len]; omega)]
  simp [rangeI]
theorem Lab.start (n : Nat) (G : List (List Int)) : Lab n G (rangeI n) := by
  refine ⟨rangeI_len n, fun y h0 h1 => ?_, fun P _ y h0 h1 => by rw [rangeI_rd n y h0 h1]⟩
  rw [rangeI_rd n y h0 h1, rangeI_rd n y h0 h1]
  exact ⟨h0, Int.le_refl y, rfl⟩
theorem mx_mn (a b : Int) : (mx a b = a ∧ mn a b = b ∨ mx a b = b ∧ mn a b = a) ∧ mn a b ≤ mx a b := by
  unfold mx mn
  split <;> split <;> omega
theorem Lab.merge {n : Nat} {G : List (List Int)} (hG : ∀ g ∈ G, PermN n g) {L : List Int} (h : Lab n G L) {g : List Int} (hg : g ∈ G) {x : Int} (h0 : 0 ≤ x) (h1 : x < n) : Lab n G (mergeL L (rd L x) (rd L (rd g x))) := by
  obtain ⟨hl, hr, hp⟩ := h
  have hx := hr x h0 h1
  have hgx := (hG g hg).at h0 h1
  have hy := hr _ hgx.1 hgx.2
  generalize ha : rd L x = a at hx
  generalize hb : rd L (rd g x) = b at hy
  obtain ⟨hm, hle⟩ := mx_mn a b
  have hv : ∀ y : Int, 0 ≤ y → y < n → rd (mergeL L a b) y = if rd L y = mx a b then mn a b else rd L y := fun y y0 y1 => rd_merge L a b y y0 (by rw [hl]; exact y1)
  have hmn : 0 ≤ mn a b ∧ mn a b < n ∧ rd L (mn a b) = mn a b := by
    rcases hm with ⟨_, e⟩ | ⟨_, e⟩ <;> rw [e]
    · exact ⟨hy.1, by omega, hy.2.2⟩
    · exact ⟨hx.1, by omega, hx.2.2⟩
  refine ⟨by rw [mergeL_length, hl], fun y y0 y1 => ?_, fun P hP y y0 y1 => ?_⟩
  · have hyy := hr y y0 y1
    rw [hv y y0 y1]
    by_cases c : rd L y = mx a b
    · rw [if_pos c, hv _ hmn.1 hmn.2.1, hmn.2.2]
      refine ⟨hmn.1, by omega, ?_⟩
      split <;> rfl
    · rw [if_neg c, hv _ hyy.1 (by omega), hyy.2.2, if_neg c]
      exact ⟨hyy.1, hyy.2.1, rfl⟩
  · rw [hv y y0 y1, hp P hP y y0 y1]
    by_cases c : rd L y = mx a b
    · rw [if_pos c, c]
      have e1 := hp P hP x h0 h1
      have e2 := hp P hP _ hgx.1 hgx.2
      have e3 := hP g hg x h0 h1
      rw [ha] at e1
      rw [hb] at e2
      rcases hm with ⟨p1, p2⟩ | ⟨p1, p2⟩ <;> rw [p1, p2]
      · exact e1.symm.trans (e3.trans e2)
      · exact (e1.symm.trans (e3.trans e2)).symm
    · rw [if_neg c]
theorem merge_same (L : List Int) (a b y z : Int) (h0 : 0 ≤ y) (h1 : y < L.length) (z0 : 0 ≤ z) (z1 : z < L.length) (h : rd L y = rd L z) : rd (mergeL L a b) y = rd (mergeL L a b) z := by
  rw [rd_merge L a b y h0 h1, rd_merge L a b z z0 z1, h]
theorem merge_now (L : List Int) (y z : Int) (h0 : 0 ≤ y) (h1 : y < L.length) (z0 : 0 ≤ z) (z1 : z < L.length) : rd (mergeL L (rd L y) (rd L z)) y = rd (mergeL L (rd L y) (rd L z)) z := by
  rw [rd_merge L _ _ y h0 h1, rd_merge L _ _ z z0 z1]
  obtain ⟨hm, _⟩ := mx_mn (rd L y) (rd L z)
  rcases hm with ⟨p1, p2⟩ | ⟨p1, p2⟩ <;> rw [p1, p2]
  · rw [if_pos rfl]
    split
    · rfl
    · rfl
  · rw [if_pos rfl]
    split
    · rfl
    · rfl
/-- The rows of one label each. -/
def labRows (n : Nat) (L : List Int) : Nat → Nat → List (List Int)
  | 0, _ => []
  | d + 1, v => if (rangeI n).filter (fun y => decide (rd L y = (v : Int))) = [] then labRows n L d (v + 1) else (rangeI n).filter (fun y => decide (rd L y = (v : Int))) :: labRows n L d (v + 1)
theorem incr_eq : ∀ (s t : List Int), s.Pairwise (· < ·) → t.Pairwise (· < ·) → (∀ x, x ∈ s ↔ x ∈ t) → s = t
  | [], [], _, _, _ => rfl
  | [], b :: t, _, _, h => absurd ((h b).2 (by simp)) (by simp)
  | a :: s, [], _, _, h => absurd ((h a).1 (by simp)) (by simp)
  | a :: s, b :: t, hs, ht, h => by
    obtain ⟨hs1, hs2⟩ := List.pairwise_cons.1 hs
    obtain ⟨ht1, ht2⟩ := List.pairwise_cons.1 ht
    have hab : a = b := by
      rcases List.mem_cons.1 ((h a).1 (by simp)) with e | e
      · exact e
      · rcases List.mem_cons.1 ((h b).2 (by simp)) with e2 | e2
        · exact e2.symm
        · have := hs1 b e2
          have := ht1 a e
          omega
    subst hab
    rw [incr_eq s t hs2 ht2 fun x => ?_]
    constructor
    · intro hx
      rcases List.mem_cons.1 ((h x).1 (List.mem_cons_of_mem _ hx)) with e | e
      · have := hs1 x hx
        omega
      · exact e
    · intro hx
      rcases List.mem_cons.1 ((h x).2 (List.mem_cons_of_mem _ hx)) with e | e
      · have := ht1 x hx
        omega
      · exact e
theorem incr_of_sorted {a : List Int} {m : Nat} (hs : SortedTo m a) (hm : a.length ≤ m) (hn : a.Nodup) : a.Pairwise (· < ·) := by
  refine List.pairwise_iff_getElem.2 fun i j hi hj hij => ?_
  have h1 := hs i j hij (by omega)
  rw [rd_nat a i hi, rd_nat a j hj] at h1
  have h2 := List.pairwise_iff_getElem.1 hn i j hi hj hij
  omega
/-- The program's orbits are the rows of labels. -/
theorem like_labels {n : Nat} {G : List (List Int)} (hG : ∀ g ∈ G, PermN n g) {L : List Int} (hL : Lab n G L) (hs : ∀ g ∈ G, ∀ x : Int, 0 ≤ x → x < n → rd L x = rd L (rd g x)) :
    ∀ (d x : Nat) (o : List Int) (r : List (List Int)), x + d = n → Good n o [] → (∀ y : Int, 0 ≤ y → y < n → (y ∈ o ↔ rd L y < x)) → Like r (orbL n G d x o) → r = labRows n L d x
  | 0, x, o, r, hd, hg, ho, h => by
    unfold orbL at h
    match r, h with
    | [], _ => rfl
    | _ :: _, h => exact h.elim
  | d + 1, x, o, r, hd, hg, ho, h => by
    have hx0 : (0 : Int) ≤ (x : Int) := Int.natCast_nonneg x
    have hx1 : (x : Int) < n := by omega
    have hLx := hL.2.1 (x : Int) hx0 hx1
    unfold orbL at h
    unfold labRows
    by_cases c : (x : Int) ∈ o
    · rw [if_pos c] at h
      have hlt := (ho _ hx0 hx1).1 c
      have e : (rangeI n).filter (fun y => decide (rd L y = (x : Int))) = [] := by
        refine List.filter_eq_nil_iff.2 fun y hy hxy => ?_
        rw [rangeI_mem] at hy
        have hxy := of_decide_eq_true hxy
        have := (hL.2.1 y hy.1 hy.2).2.2
        rw [hxy] at this
        omega
      rw [if_pos e]
      refine like_labels hG hL hs d (x + 1) o r (by omega) hg (fun y y0 y1 => ?_) h
      rw [ho y y0 y1]
      constructor
      · intro hh
        omega
      · intro hh
        by_cases e2 : rd L y = (x : Int)
        · have := (hL.2.1 y y0 y1).2.2
          rw [e2] at this
          omega
        · omega
    · rw [if_neg c] at h
      have hge : ¬ rd L (x : Int) < x := fun hh => c ((ho _ hx0 hx1).2 hh)
      have hxx : rd L (x : Int) = x := by omega
      have hg1 := good_one hg hx0 hx1 c
      obtain ⟨g1, g2, g3, g4⟩ := bfsO_facts (n := n) (o := o) (cand := candI G) (fun y h0 h1 => candI_in hG y h0 h1) (n + 1) 0 [(x : Int)] hg1 (Nat.zero_le _) (by omega) (fun j hj => absurd hj (Nat.not_lt_zero j))
      generalize bfsO o (candI G) (n + 1) 0 [(x : Int)] = q at h g1 g2 g3 g4
      have q1 : ∀ y ∈ q, rd L y = x := g4 (fun y => rd L y = (x : Int)) (fun y y0 y1 hy z hz => by
        obtain ⟨g, hgG, rfl⟩ := List.mem_map.1 hz
        rw [← hs g hgG y y0 y1]
        exact hy) (fun y hy => by
        rw [List.mem_singleton] at hy
        rw [hy]
        exact hxx)
      have cl : ∀ g ∈ G, ∀ y ∈ q, rd g y ∈ q := fun g hgG y hy => by
        have hyr := g1.right.2 y hy
        have hz := (hG g hgG).at hyr.1 hyr.2
        rcases List.mem_append.1 (g3 y hy _ (List.mem_map.2 ⟨g, hgG, rfl⟩)) with h1 | h1
        · have := (ho _ hz.1 hz.2).1 h1
          rw [← hs g hgG y hyr.1 hyr.2, q1 y hy] at this
          omega
        · exact h1
      have hI : Inv n G (fun y => y ∈ q) := fun g hgG y y0 y1 => ⟨fun hy => cl g hgG y hy, fun hy => (hG g hgG).back g1.right.1 g1.right.2 (fun z hz => cl g hgG z hz) y0 y1 hy⟩
      have q2 : ∀ y : Int, 0 ≤ y → y < n → (y ∈ q ↔ rd L y = x) := fun y y0 y1 => ⟨q1 y, fun hy => (hL.2.2 _ hI y y0 y1).2 (by rw [hy]; exact g2 _ (by simp))⟩
      match r, h with
      | a :: r, h =>
        have ha : a = (rangeI n).filter (fun y => decide (rd L y = (x : Int))) := by
          refine incr_eq _ _ (incr_of_sorted h.1.2 (by rw [h.1.1.length_eq]; exact Nat.le_refl _) ((List.Perm.nodup_iff h.1.1).2 g1.right.1)) ?_ fun y => ?_
          · refine List.Pairwise.filter _ ?_
            unfold rangeI
            rw [List.pairwise_map]
            exact List.Pairwise.imp (fun {a b} hh => Int.ofNat_lt.2 hh) List.pairwise_lt_range
          · rw [List.mem_filter, rangeI_mem, h.1.1.mem_iff]
            constructor
            · intro hy
              have hyr := g1.right.2 y hy
              exact ⟨hyr, decide_eq_true (q1 y hy)⟩
            · rintro ⟨hyr, hy⟩
              exact (q2 y hyr.1 hyr.2).2 (of_decide_eq_true hy)
        have hne : (rangeI n).filter (fun y => decide (rd L y = (x : Int))) ≠ [] := fun e => by
          have hm : (x : Int) ∈ (rangeI n).filter (fun y => decide (rd L y = (x : Int))) := List.mem_filter.2 ⟨(rangeI_mem n _).2 ⟨hx0, hx1⟩, decide_eq_true hxx⟩
          rw [e] at hm
          exact absurd hm (by simp)
        rw [if_neg hne, ← ha]
        refine congrArg (a :: ·) (like_labels hG hL hs d (x + 1) (o ++ q) r (by omega) (by unfold Good; rw [List.append_nil]; exact g1) (fun y y0 y1 => ?_) h.2)
        rw [List.mem_append, ho y y0 y1, q2 y y0 y1]
        constructor
        · rintro (hh | hh) <;> omega
        · intro hh
          omega
      | [], h => exact h.elim

theorem merge_go (L : List Int) (a b : Int) : ∀ (d i : Nat) (M : List Int), i + d = L.length → M = (mergeL L a b).take i ++ L.drop i →
    (if rd M (i : Int) = mx a b then M.set i (mn a b) else M) = (mergeL L a b).take (i + 1) ++ L.drop (i + 1) ∨ d = 0
  | 0, _, _, _, _ => .inr rfl
  | d + 1, i, M, hd, hM => by
    left
    have hi : i < L.length := by omega
    have h1 : ((mergeL L a b).take i).length = i := by rw [List.length_take, mergeL_length]; omega
    have hr : rd M (i : Int) = rd L (i : Int) := by
      rw [hM, rd_nat _ i (by rw [List.length_append, List.length_drop, h1]; omega), rd_nat L i hi, List.getElem_append_right (by omega), List.getElem_drop]
      congr 1
      omega
    have hm : (mergeL L a b)[i]'(by rw [mergeL_length]; exact hi) = if rd L (i : Int) = mx a b then mn a b else rd L (i : Int) := by
      rw [rd_nat L i hi]
      unfold mergeL
      rw [List.getElem_map]
    rw [hr, List.take_succ_eq_append_getElem (by rw [mergeL_length]; exact hi), hm]
    by_cases c : rd L (i : Int) = mx a b
    · rw [if_pos c, if_pos c, hM, List.set_append_right _ _ (by omega), h1, Nat.sub_self, List.drop_eq_getElem_cons hi, List.set_cons_zero, List.append_assoc]
      rfl
    · rw [if_neg c, if_neg c, hM, List.drop_eq_getElem_cons hi, rd_nat L i hi, List.append_assoc]
      rfl
theorem so_l3 (n : Nat) (G : List (List Int)) (X x : Int) (L : List Int) (hl : L.length ≤ 1000) (a b : Int) (r : List (List Int)) (h : Evt (fun K => spec_l05Orbits.l2 K (n : Int) G (mergeL L a b) X (wrap64 (x + 1))) r) :
    ∀ (d i : Nat) (M : List Int), i + d = L.length → M = (mergeL L a b).take i ++ L.drop i → Evt (fun K => spec_l05Orbits.l3 K (n : Int) G M X x a b (i : Int)) r
  | 0, i, M, hd, hM => by
    have hi : i = L.length := by omega
    have e : M = mergeL L a b := by rw [hM, hi, List.drop_length, List.append_nil, List.take_of_length_le (by rw [mergeL_length]; exact Nat.le_refl _)]
    refine Evt.step h fun K => ?_
    rw [spec_l05Orbits.l3, if_neg (by rw [e, mergeL_length]; omega), e]
  | d + 1, i, M, hd, hM => by
    have hi : i < L.length := by omega
    have hd2 : i + 1 + d = L.length := by omega
    have hMl : M.length = L.length := by
      rw [hM, List.length_append, List.length_take, List.length_drop, mergeL_length]
      omega
    have f1 : (i : Int) < (M.length : Int) := by omega
    have ei : wrap64 ((i : Int) + 1) = ((i + 1 : Nat) : Int) := w64n (i + 1) (by omega)
    have hs := (merge_go L a b (d + 1) i M hd hM).resolve_right (by simp)
    refine Evt.step (so_l3 n G X x L hl a b r h d (i + 1) _ hd2 hs) fun K => ?_
    rw [spec_l05Orbits.l3, if_pos f1, if_pos (Int.natCast_nonneg i), ei, Int.toNat_natCast]
    by_cases c : rd M (i : Int) = mx a b
    · rw [if_pos c, if_pos c]
    · rw [if_neg c, if_neg c]
/-- What was merged before stays merged. -/
def Done (G : List (List Int)) (n : Nat) (L : List Int) (j x : Nat) : Prop := ∀ (p : Nat) (hp : p < G.length), ∀ y : Int, 0 ≤ y → y < n → (p < j ∨ p = j ∧ y < x) → rd L y = rd L (rd (G[p]) y)
theorem so_l2 {n : Nat} (hn : n ≤ 8) {G : List (List Int)} (hG : ∀ g ∈ G, PermN n g) (hl : G.length ≤ 1048576) (j : Nat) (hj : j < G.length) (Q : List (List Int) → Prop)
    (h : ∀ L, Lab n G L → Done G n L (j + 1) 0 → ∃ r, Evt (fun K => spec_l05Orbits.l1 K (n : Int) G L ((j + 1 : Nat) : Int)) r ∧ Q r) :
    ∀ (d x : Nat) (L : List Int), x + d = n → Lab n G L → Done G n L j x → ∃ r, Evt (fun K => spec_l05Orbits.l2 K (n : Int) G L (j : Int) (x : Int)) r ∧ Q r
  | 0, x, L, hd, hL, hD => by
    have ej : wrap64 ((j : Int) + 1) = ((j + 1 : Nat) : Int) := w64n (j + 1) (by omega)
    obtain ⟨r, h1, h2⟩ := h L hL (fun p hp y y0 y1 hh => hD p hp y y0 y1 (by
      rcases hh with hh | hh
      · by_cases e : p = j
        · right
          exact ⟨e, by omega⟩
        · left
          omega
      · omega))
    refine ⟨r, Evt.step h1 fun K => ?_, h2⟩
    rw [spec_l05Orbits.l2, if_neg (by omega), ej]
  | d + 1, x, L, hd, hL, hD => by
    have hx0 : (0 : Int) ≤ (x : Int) := Int.natCast_nonneg x
    have hx1 : (x : Int) < (n : Int) := by omega
    have hd2 : x + 1 + d = n := by omega
    have hm : G[j] ∈ G := List.getElem_mem hj
    have hp := hG _ hm
    have hg : rd_L1 G (j : Int) = G[j] := rdL1_nat G j hj
    have hy := hp.at hx0 hx1
    have ex : wrap64 ((x : Int) + 1) = ((x + 1 : Nat) : Int) := w64n (x + 1) (by omega)
    have hlen := hL.1
    have f1 : (x : Int) < (L.length : Int) := by rw [hlen]; exact hx1
    have f2 : (x : Int) < ((G[j]).length : Int) := by rw [hp.1]; exact hx1
    have f3 : rd G[j] (x : Int) < (L.length : Int) := by rw [hlen]; exact hy.2
    have f4 : (j : Int) < (G.length : Int) := Int.ofNat_lt.2 hj
    have hL8 : L.length ≤ 1000 := by rw [hlen]; exact Nat.le_trans hn (by decide)
    obtain ⟨r, h1, h2⟩ := so_l2 hn hG hl j hj Q h d (x + 1) (mergeL L (rd L (x : Int)) (rd L (rd G[j] (x : Int)))) hd2 (hL.merge hG hm hx0 hx1) (fun p hp2 y y0 y1 hh => by
      have hpp := hG _ (List.getElem_mem hp2)
      have hz := hpp.at y0 y1
      by_cases e : p = j ∧ y = (x : Int)
      · obtain ⟨e1, e2⟩ := e
        subst e1 e2
        exact merge_now L _ _ hx0 f1 hy.1 f3
      · exact merge_same L _ _ y _ y0 (by rw [hlen]; exact y1) hz.1 (by rw [hlen]; exact hz.2) (hD p hp2 y y0 y1 (by
          rcases hh with hh | hh
          · exact .inl hh
          · exact .inr ⟨hh.1, by
              have : y ≠ (x : Int) := fun e2 => e ⟨hh.1, e2⟩
              have := hh.2
              omega⟩)))
    have h3 := so_l3 n G (j : Int) (x : Int) L hL8 (rd L (x : Int)) (rd L (rd G[j] (x : Int))) r (by rw [ex]; exact h1) L.length 0 L (Nat.zero_add _) (by rw [List.take_zero, List.drop_zero, List.nil_append])
    refine ⟨r, Evt.step h3 fun K => ?_, h2⟩
    rw [spec_l05Orbits.l2, if_pos hx1, if_pos hx0, if_pos f1, if_pos (Int.natCast_nonneg j), if_pos f4, hg, if_pos f2, if_pos hy.1, if_pos f3]
    rfl
theorem so_l1 {n : Nat} (hn : n ≤ 8) {G : List (List Int)} (hG : ∀ g ∈ G, PermN n g) (hl : G.length ≤ 1048576) (Q : List (List Int) → Prop)
    (h : ∀ L, Lab n G L → Done G n L G.length 0 → ∃ r, Evt (fun K => spec_l05Orbits.l4 K (n : Int) L [] 0) r ∧ Q r) :
    ∀ (d j : Nat) (L : List Int), j + d = G.length → Lab n G L → Done G n L j 0 → ∃ r, Evt (fun K => spec_l05Orbits.l1 K (n : Int) G L (j : Int)) r ∧ Q r
  | 0, j, L, hd, hL, hD => by
    obtain ⟨r, h1, h2⟩ := h L hL (by rw [← hd]; exact hD)
    refine ⟨r, Evt.step h1 fun K => ?_, h2⟩
    rw [spec_l05Orbits.l1, if_neg (by omega)]
  | d + 1, j, L, hd, hL, hD => by
    have hj : j < G.length := by omega
    have hd2 : j + 1 + d = G.length := by omega
    obtain ⟨r, h1, h2⟩ := so_l2 hn hG hl j hj Q (fun L' h1 h2 => so_l1 hn hG hl Q h d (j + 1) L' hd2 h1 h2) n 0 L (Nat.zero_add _) hL hD
    refine ⟨r, Evt.step h1 fun K => ?_, h2⟩
    rw [spec_l05Orbits.l1, if_pos (Int.ofNat_lt.2 hj)]
    rfl
theorem so_l5 {n : Nat} (hn : n ≤ 8) (L : List Int) (hL : L.length = n) (v : Nat) (out : List (List Int)) (r : List (List Int))
    (h : Evt (fun K => if (((rangeI n).filter fun y => decide (rd L y = (v : Int))).length : Int) > 0 then (if out.length < 5864062014805 then spec_l05Orbits.l4 K (n : Int) L (out ++ [(rangeI n).filter fun y => decide (rd L y = (v : Int))]) (wrap64 ((v : Int) + 1)) else none) else spec_l05Orbits.l4 K (n : Int) L out (wrap64 ((v : Int) + 1))) r) :
    ∀ (d i : Nat) (acc : List Int), i + d = n → acc.length ≤ i → acc ++ ((rangeI n).drop i).filter (fun y => decide (rd L y = (v : Int))) = (rangeI n).filter (fun y => decide (rd L y = (v : Int))) → Evt (fun K => spec_l05Orbits.l5 K (n : Int) L out (v : Int) acc (i : Int)) r
  | 0, i, acc, hd, ha, he => by
    rw [List.drop_of_length_le (by rw [rangeI_len]; omega), List.filter_nil, List.append_nil] at he
    rw [← he] at h
    refine Evt.step h fun K => ?_
    rw [spec_l05Orbits.l5, if_neg (by omega)]
  | d + 1, i, acc, hd, ha, he => by
    have hi : i < n := by omega
    have hd2 : i + 1 + d = n := by omega
    have ei : wrap64 ((i : Int) + 1) = ((i + 1 : Nat) : Int) := w64n (i + 1) (by omega)
    have hr : (rangeI n).drop i = (i : Int) :: (rangeI n).drop (i + 1) := by
      rw [drop_rd _ i (by rw [rangeI_len]; exact hi), rangeI_rd n (i : Int) (by omega) (by omega)]
    have f1 : (i : Int) < (n : Int) := Int.ofNat_lt.2 hi
    have f2 : (i : Int) < (L.length : Int) := by rw [hL]; exact f1
    have f7 : acc.length < 17592186044416 := Nat.lt_of_le_of_lt (show acc.length ≤ 8 by omega) (by decide)
    rw [hr] at he
    by_cases c : rd L (i : Int) = (v : Int)
    · rw [List.filter_cons, if_pos (decide_eq_true c)] at he
      have ih := so_l5 hn L hL v out r h d (i + 1) (acc ++ [(i : Int)]) hd2 (by rw [List.length_append]; exact Nat.succ_le_succ ha) (by rw [List.append_assoc]; exact he)
      refine Evt.step ih fun K => ?_
      rw [spec_l05Orbits.l5, if_pos f1, if_pos (Int.natCast_nonneg i), if_pos f2, if_pos c, if_pos f7, ei]
    · rw [List.filter_cons, if_neg (by simpa using c)] at he
      have ih := so_l5 hn L hL v out r h d (i + 1) acc hd2 (Nat.le_succ_of_le ha) he
      refine Evt.step ih fun K => ?_
      rw [spec_l05Orbits.l5, if_pos f1, if_pos (Int.natCast_nonneg i), if_pos f2, if_neg c, ei]
theorem so_l4 {n : Nat} (hn : n ≤ 8) (L : List Int) (hL : L.length = n) : ∀ (d v : Nat) (out : List (List Int)), v + d = n → out.length ≤ v → Evt (fun K => spec_l05Orbits.l4 K (n : Int) L out (v : Int)) (out ++ labRows n L d v)
  | 0, v, out, hd, ho => by
    refine Evt.now fun K => ?_
    rw [spec_l05Orbits.l4, if_neg (by omega)]
    unfold labRows
    rw [List.append_nil]
  | d + 1, v, out, hd, ho => by
    have hd2 : v + 1 + d = n := by omega
    have f1 : (v : Int) < (n : Int) := by omega
    have ev : wrap64 ((v : Int) + 1) = ((v + 1 : Nat) : Int) := w64n (v + 1) (by omega)
    have f7 : out.length < 5864062014805 := Nat.lt_of_le_of_lt (show out.length ≤ 8 by omega) (by decide)
    have h5 := so_l5 hn L hL v out (out ++ labRows n L (d + 1) v) (by
      unfold labRows
      by_cases c : (rangeI n).filter (fun y => decide (rd L y = (v : Int))) = []
      · rw [if_pos c, c]
        refine Evt.same (so_l4 hn L hL d (v + 1) out hd2 (Nat.le_succ_of_le ho)) fun K => ?_
        rw [if_neg (by simp), ev]
      · rw [if_neg c]
        have hp : ((((rangeI n).filter fun y => decide (rd L y = (v : Int))).length : Nat) : Int) > 0 := by
          have := List.length_pos_iff.2 c
          omega
        have ih := so_l4 hn L hL d (v + 1) (out ++ [(rangeI n).filter fun y => decide (rd L y = (v : Int))]) hd2 (by rw [List.length_append]; exact Nat.succ_le_succ ho)
        rw [List.append_assoc, List.singleton_append] at ih
        refine Evt.same ih fun K => ?_
        rw [if_pos hp, if_pos f7, ev]) n 0 [] (Nat.zero_add _) (Nat.le_refl _) (by rw [List.drop_zero, List.nil_append])
    refine Evt.step h5 fun K => ?_
    rw [spec_l05Orbits.l4, if_pos f1]
    rfl
theorem so_l0 {n : Nat} (hn : n ≤ 8) (G : List (List Int)) (r : List (List Int)) (h : Evt (fun K => spec_l05Orbits.l1 K (n : Int) G (rangeI n) 0) r) : ∀ (d i : Nat), i + d = n → Evt (fun K => spec_l05Orbits.l0 K (n : Int) G ((rangeI n).take i) (i : Int)) r
  | 0, i, hd => by
    refine Evt.step h fun K => ?_
    rw [spec_l05Orbits.l0, if_neg (by omega), List.take_of_length_le (by rw [rangeI_len]; omega)]
  | d + 1, i, hd => by
    have hi : i < n := by omega
    have ei : wrap64 ((i : Int) + 1) = ((i + 1 : Nat) : Int) := w64n (i + 1) (by omega)
    have f7 : ((rangeI n).take i).length < 17592186044416 := Nat.lt_of_le_of_lt (show ((rangeI n).take i).length ≤ 8 by rw [List.length_take]; omega) (by decide)
    refine Evt.step (so_l0 hn G r h d (i + 1) (by omega)) fun K => ?_
    rw [spec_l05Orbits.l0, if_pos (Int.ofNat_lt.2 hi), if_pos f7, ei, List.take_succ_eq_append_getElem (by rw [rangeI_len]; exact hi), ← rd_nat _ i (by rw [rangeI_len]; exact hi), rangeI_rd n (i : Int) (Int.natCast_nonneg i) (Int.ofNat_lt.2 hi)]
theorem labRows_small (n : Nat) (L : List Int) : ∀ (d v : Nat), (labRows n L d v).length ≤ d ∧ ∀ x ∈ labRows n L d v, x.length ≤ n
  | 0, v => ⟨Nat.le_refl _, fun x hx => absurd hx (by simp [labRows])⟩
  | d + 1, v => by
    have ih := labRows_small n L d (v + 1)
    unfold labRows
    split
    · exact ⟨Nat.le_succ_of_le ih.1, ih.2⟩
    · refine ⟨Nat.succ_le_succ ih.1, fun x hx => ?_⟩
      rcases List.mem_cons.1 hx with rfl | hx
      · have := List.length_filter_le (fun y => decide (rd L y = (v : Int))) (rangeI n)
        rwa [rangeI_len] at this
      · exact ih.2 x hx
/-- Program and reference find the same orbits. -/
theorem orbits_both {n : Nat} (hn : n ≤ 8) {G : List (List Int)} (hG : ∀ g ∈ G, PermN n g) (hl : G.length ≤ 1048576) : ∃ r, Evt (fun K => spec_l05Orbits.f K (n : Int) G) r ∧ Evt (fun K => impl_orbits.f K (n : Int) G) r ∧ r.length ≤ n ∧ ∀ x ∈ r, x.length ≤ n := by
  obtain ⟨r, r1, r2⟩ := orbits_ev hn hG hl
  obtain ⟨r', s1, s2⟩ := so_l1 hn hG hl (fun r' => r' = r ∧ r'.length ≤ n ∧ ∀ x ∈ r', x.length ≤ n) (fun L hL hD => ⟨labRows n L n 0, by
    have := so_l4 hn L hL.1 n 0 [] (Nat.zero_add _) (Nat.le_refl _)
    rwa [List.nil_append] at this, ⟨(like_labels hG hL (fun g hg x h0 h1 => by
      obtain ⟨p, hp, e⟩ := List.getElem_of_mem hg
      rw [← e]
      exact hD p hp x h0 h1 (.inl hp)) n 0 [] r (Nat.zero_add _) ⟨by simp, fun x hx => absurd hx (by simp)⟩ (fun y y0 y1 => ⟨fun hh => absurd hh (by simp), fun hh => by
      have := (hL.2.1 y y0 y1).1
      omega⟩) r2).symm, labRows_small n L n 0⟩⟩) G.length 0 (rangeI n) (Nat.zero_add _) (Lab.start n G) (fun p hp y y0 y1 hh => by omega)
  obtain ⟨s2, s3⟩ := s2
  rw [s2] at s1 s3
  refine ⟨r, ?_, r1, s3⟩
  have h0 := so_l0 hn G r s1 n 0 (Nat.zero_add _)
  rw [List.take_zero] at h0
  exact h0

/-- The test of a permutation, its bound and its last answer given. -/
def goQ (hi : Int) (fin : Bool) : List Int → List Int → Bool
  | _, [] => fin
  | q, x :: t => if 0 ≤ x ∧ x ≤ hi then (if x ∈ q then false else goQ hi fin (q ++ [x]) t) else false
theorem goQ_goP (n len : Nat) : ∀ (t q : List Int), goQ ((n : Int) - 1) (decide (len = n)) q t = goP n len q t
  | [], q => rfl
  | x :: t, q => by
    unfold goQ goP
    rw [goQ_goP n len t (q ++ [x])]
theorem has_l0 (q : List Int) (hl : q.length ≤ 1048576) (x : Int) : ∀ (d i : Nat), i + d = q.length → Evt (fun K => spec_l25Has.l0 K q x (i : Int)) (decide (x ∈ q.drop i))
  | 0, i, hd => by
    refine Evt.now fun K => ?_
    rw [spec_l25Has.l0, if_neg (by omega), List.drop_of_length_le (by omega)]
    simp
  | d + 1, i, hd => by
    have hi : i < q.length := by omega
    have hd2 : i + 1 + d = q.length := by omega
    have ei : wrap64 ((i : Int) + 1) = ((i + 1 : Nat) : Int) := w64n (i + 1) (by omega)
    have f1 : (i : Int) < (q.length : Int) := Int.ofNat_lt.2 hi
    rw [drop_rd q i hi]
    by_cases c : rd q (i : Int) = x
    · rw [decide_eq_true (by rw [c]; simp)]
      exact Evt.now fun K => by rw [spec_l25Has.l0, if_pos f1, if_pos (Int.natCast_nonneg i), if_pos c]
    · have e : decide (x ∈ rd q (i : Int) :: q.drop (i + 1)) = decide (x ∈ q.drop (i + 1)) := by
        refine decide_eq_decide.2 ?_
        rw [List.mem_cons]
        exact ⟨fun h => h.resolve_left (fun h => c h.symm), .inr⟩
      rw [e]
      exact Evt.step (has_l0 q hl x d (i + 1) hd2) fun K => by rw [spec_l25Has.l0, if_pos f1, if_pos (Int.natCast_nonneg i), if_neg c, ei]
theorem sp_l0 (n : Int) (l : List Int) (hl : l.length ≤ 1048576) : ∀ (d i : Nat), i + d = l.length → Evt (fun K => spec_l05Permutation.l0 K l n (i : Int)) (goQ (wrap64 (n - 1)) ((l.length : Int) == n) (l.take i) (l.drop i))
  | 0, i, hd => by
    refine Evt.now fun K => ?_
    rw [spec_l05Permutation.l0, if_neg (by omega), List.drop_of_length_le (by omega)]
    rfl
  | d + 1, i, hd => by
    have hi : i < l.length := by omega
    have hd2 : i + 1 + d = l.length := by omega
    have ei : wrap64 ((i : Int) + 1) = ((i + 1 : Nat) : Int) := w64n (i + 1) (by omega)
    have f1 : (i : Int) < (l.length : Int) := Int.ofNat_lt.2 hi
    have f2 : (i : Int) ≤ (l.length : Int) := Int.le_of_lt f1
    have hq := has_l0 (l.take i) (by rw [List.length_take]; omega) (rd l (i : Int)) (l.take i).length 0 (Nat.zero_add _)
    rw [List.drop_zero] at hq
    have ih := sp_l0 n l hl d (i + 1) hd2
    rw [List.take_succ_eq_append_getElem hi, ← rd_nat l i hi] at ih
    rw [drop_rd l i hi]
    obtain ⟨x, hx⟩ : ∃ x, x = rd l (i : Int) := ⟨_, rfl⟩
    obtain ⟨hb, hh⟩ : ∃ hb, hb = wrap64 (n - 1) := ⟨_, rfl⟩
    rw [← hx] at hq ih
    rw [← hh] at ih
    rw [← hx, ← hh]
    have hf : ∀ K, spec_l05Permutation.l0 (K + 1) l n (i : Int) = (if 0 ≤ x ∧ x ≤ hb then (spec_l25Has.f K (l.take i) x).bind fun t => if t = true then some false else spec_l05Permutation.l0 K l n ((i + 1 : Nat) : Int) else some false) := by
      intro K
      rw [spec_l05Permutation.l0, if_pos f1, if_pos (Int.natCast_nonneg i), if_pos f2, ← hx, ← hh, ei, Int.toNat_natCast]
      clear hq ih ei hh hx
      unfold spec_l01In.f
      by_cases c0 : x ≥ 0
      · rw [if_pos c0, Option.bind_some]
        by_cases c1 : x ≤ hb
        · rw [if_pos (decide_eq_true c1), if_pos ⟨c0, c1⟩]
        · rw [if_neg (by simpa using c1), if_neg (fun h => c1 h.2)]
      · rw [if_neg c0, Option.bind_some, if_neg (by simp), if_neg (fun h => c0 h.1)]
    unfold goQ
    by_cases c : 0 ≤ x ∧ x ≤ hb
    · rw [if_pos c]
      refine Evt.bind1 (g := fun K => spec_l25Has.f K (l.take i) x) (h := fun K t => if t = true then some false else spec_l05Permutation.l0 K l n ((i + 1 : Nat) : Int)) hq ?_ fun K => by rw [hf, if_pos c]
      by_cases e : x ∈ l.take i
      · rw [if_pos e]
        exact Evt.const fun K => if_pos (decide_eq_true e)
      · rw [if_neg e]
        exact Evt.same ih fun K => if_neg (by simpa using e)
    · rw [if_neg c]
      exact Evt.now fun K => by rw [hf, if_neg c]
def permS (n : Int) (l : List Int) : Bool := goQ (wrap64 (n - 1)) ((l.length : Int) == n) [] l
theorem sp_ev (n : Int) (l : List Int) (hl : l.length ≤ 1048576) : Evt (fun K => spec_l05Permutation.f K l n) (permS n l) := by
  have h := sp_l0 n l hl l.length 0 (Nat.zero_add _)
  rw [List.take_zero, List.drop_zero] at h
  exact h
theorem permS_goP (n : Nat) (hn : n ≤ 8) (l : List Int) : permS (n : Int) l = goP n l.length [] l := by
  unfold permS
  rw [w64 ((n : Int) - 1) (by omega) (by omega), ← goQ_goP]
  congr 1
  rw [show ((l.length : Int) == (n : Int)) = decide ((l.length : Int) = (n : Int)) from rfl]
  exact decide_eq_decide.2 (by omega)
theorem deg_l0 (n : Int) (G : List (List Int)) (hl : G.length ≤ 1048576) (hr : ∀ g ∈ G, g.length ≤ 1048576) : ∀ (d j : Nat), j + d = G.length → Evt (fun K => spec_l05Degree.l0 K n G (j : Int)) ((G.drop j).all (permS n) && decide (1 ≤ n ∧ n ≤ 4))
  | 0, j, hd => by
    refine Evt.now fun K => ?_
    rw [spec_l05Degree.l0, if_neg (by omega), List.drop_of_length_le (by omega), List.all_nil, Bool.true_and]
    unfold spec_l01In.f
    by_cases c : n ≥ 1
    · rw [if_pos c, Option.bind_some]
      exact congrArg some (decide_eq_decide.2 ⟨fun h => ⟨c, h⟩, fun h => h.2⟩)
    · rw [if_neg c, Option.bind_some, decide_eq_false (fun h : 1 ≤ n ∧ n ≤ 4 => c h.1)]
  | d + 1, j, hd => by
    have hj : j < G.length := by omega
    have hd2 : j + 1 + d = G.length := by omega
    have ej : wrap64 ((j : Int) + 1) = ((j + 1 : Nat) : Int) := w64n (j + 1) (by omega)
    have f1 : (j : Int) < (G.length : Int) := Int.ofNat_lt.2 hj
    have hm := rdL1_mem G j hj
    have h := sp_ev n (rd_L1 G (j : Int)) (hr _ hm)
    rw [drop_rdL1 G j hj, List.all_cons]
    refine Evt.bind1 (h := fun K t => if t = true then spec_l05Degree.l0 K n G ((j + 1 : Nat) : Int) else some false) h ?_ fun K => by rw [spec_l05Degree.l0, if_pos f1, if_pos (Int.natCast_nonneg j), ej]
    by_cases c : permS n (rd_L1 G (j : Int)) = true
    · rw [c, Bool.true_and]
      exact Evt.same (deg_l0 n G hl hr d (j + 1) hd2) fun K => if_pos rfl
    · rw [Bool.not_eq_true] at c
      rw [c, Bool.false_and, Bool.false_and]
      exact Evt.const fun K => if_neg (by simp)
theorem deg_ev (n : Int) (G : List (List Int)) (hl : G.length ≤ 1048576) (hr : ∀ g ∈ G, g.length ≤ 1048576) : Evt (fun K => spec_l05Degree.f K n G) (G.all (permS n) && decide (1 ≤ n ∧ n ≤ 4)) := by
  have h := deg_l0 n G hl hr G.length 0 (Nat.zero_add _)
  rw [List.drop_zero] at h
  exact h

/-- The numbers from m on. -/
def marks : Int → Nat → List Int
  | _, 0 => []
  | m, n + 1 => m :: marks (m + 1) n
theorem marks_length : ∀ (m : Int) (n : Nat), (marks m n).length = n
  | _, 0 => rfl
  | m, n + 1 => by simp [marks, marks_length (m + 1) n]


theorem markInt64S_l0 : ∀ (d i k : Nat) (x0 : List Int) (x1 : Int), x0.length ≤ 4611686018427387904 → i + d = x0.length → 0 ≤ x1 → x1 + d ≤ 4611686018427387904 → d < k →
    laws_markInt64S.l0 k x0 x1 (i : Int) = some (x1 + d, x0.take i ++ marks x1 d) := by
  intro d
  induction d with
  | zero =>
    intro i k x0 x1 hl hd h0 h1 hk
    obtain ⟨k, rfl⟩ := succ_k hk
    simp only [laws_markInt64S.l0]
    rw [if_neg (by omega)]
    simp [marks, List.take_of_length_le (show x0.length ≤ i by omega)]
  | succ d ih =>
    intro i k x0 x1 hl hd h0 h1 hk
    obtain ⟨k, rfl⟩ := succ_k hk
    simp only [laws_markInt64S.l0]
    rw [if_pos (by omega), if_pos (by omega), w64 _ (by omega) (by omega), w64 _ (by omega) (by omega), cast_succ, Int.toNat_natCast]
    rw [ih (i + 1) k (x0.set i x1) (x1 + 1) (by simp; omega) (by simp; omega) (by omega) (by omega) (by omega)]
    rw [List.take_succ_eq_append_getElem (by simp; omega), List.take_set_of_le (by omega)]
    simp only [marks, List.getElem_set_self, List.append_assoc, List.singleton_append]
    rw [show x1 + 1 + (d : Int) = x1 + ((d + 1 : Nat) : Int) by omega]
theorem markInt64S_eq (l : List Int) (m : Int) (k : Nat) (hl : l.length ≤ 1048576) (h0 : 0 ≤ m) (h1 : m ≤ 4611686018426339328) (hk : l.length < k) :
    laws_markInt64S.f k l m = some (m + l.length, marks m l.length) := by
  unfold laws_markInt64S.f
  have := markInt64S_l0 l.length 0 k l m (by omega) (by omega) h0 (by omega) hk
  simpa using this


theorem heldInt64S_l0 : ∀ (d i k : Nat) (x0 : List Int) (x1 : Int), x0.length ≤ 4611686018427387904 → i + d = x0.length → x0.drop i = marks x1 d → 0 ≤ x1 → x1 + d ≤ 4611686018427387904 → d < k →
    laws_heldInt64S.l0 k x0 x1 (i : Int) = some (x1 + d) := by
  intro d
  induction d with
  | zero =>
    intro i k x0 x1 hl hd he h0 h1 hk
    obtain ⟨k, rfl⟩ := succ_k hk
    simp only [laws_heldInt64S.l0]
    rw [if_neg (by omega)]
    simp
  | succ d ih =>
    intro i k x0 x1 hl hd he h0 h1 hk
    obtain ⟨k, rfl⟩ := succ_k hk
    simp only [laws_heldInt64S.l0]
    rw [drop_rd x0 i (by omega)] at he
    simp only [marks, List.cons.injEq] at he
    rw [if_pos (by omega), if_pos (by omega), if_pos he.1, w64 _ (by omega) (by omega), w64 _ (by omega) (by omega), cast_succ, ih (i + 1) k x0 (x1 + 1) hl (by omega) he.2 (by omega) (by omega) (by omega)]
    rw [show x1 + 1 + (d : Int) = x1 + ((d + 1 : Nat) : Int) by omega]
theorem heldInt64S_marks (m : Int) (n k : Nat) (hl : n ≤ 1048576) (h0 : 0 ≤ m) (h1 : m ≤ 4611686018426339328) (hk : n < k) :
    laws_heldInt64S.f k (marks m n) m = some (m + n) := by
  unfold laws_heldInt64S.f
  exact heldInt64S_l0 n 0 k (marks m n) m (by rw [marks_length]; omega) (by rw [marks_length]; omega) (by simp) h0 (by omega) hk


/-- All that stands in the rows. -/
def tot : List (List Int) → Nat
  | [] => 0
  | r :: t => r.length + tot t
theorem tot_cons (r : List Int) (t : List (List Int)) : tot (r :: t) = r.length + tot t := rfl
theorem tot_le (n : Nat) : ∀ (l : List (List Int)), (∀ x ∈ l, x.length ≤ n) → tot l ≤ n * l.length
  | [], _ => Nat.zero_le _
  | r :: t, h => by
    have h1 := h r (by simp)
    have h2 := tot_le n t fun x hx => h x (List.mem_cons_of_mem _ hx)
    rw [List.length_cons, Nat.mul_succ]
    rw [tot_cons]
    omega
def marksSS : Int → List (List Int) → List (List Int)
  | _, [] => []
  | m, r :: t => marks m r.length :: marksSS (m + r.length) t
theorem markSS_l0 : ∀ (d i : Nat) (x : List (List Int)) (m : Int), x.length ≤ 1048576 → i + d = x.length → (∀ r ∈ x.drop i, r.length ≤ 1048576) → 0 ≤ m → m + tot (x.drop i) ≤ 4611686018426339328 →
    Evt (fun K => laws_markInt64SS.l0 K x m (i : Int)) (m + tot (x.drop i), x.take i ++ marksSS m (x.drop i))
  | 0, i, x, m, hl, hd, hr, h0, h1 => by
    refine Evt.now fun K => ?_
    rw [laws_markInt64SS.l0, if_neg (by omega), List.drop_of_length_le (by omega), List.take_of_length_le (by omega)]
    simp [tot, marksSS]
  | d + 1, i, x, m, hl, hd, hr, h0, h1 => by
    have hi : i < x.length := by omega
    have ei : wrap64 ((i : Int) + 1) = ((i + 1 : Nat) : Int) := w64n (i + 1) (by omega)
    have f1 : (i : Int) < (x.length : Int) := Int.ofNat_lt.2 hi
    have hg : x.getD i [] = x[i] := by rw [List.getD_eq_getElem?_getD, List.getElem?_eq_getElem hi]; rfl
    rw [List.drop_eq_getElem_cons hi] at hr h1 ⊢
    have hri := hr x[i] List.mem_cons_self
    rw [tot_cons] at h1
    have hm : Evt (fun K => laws_markInt64S.f K x[i] m) (m + (x[i]).length, marks m (x[i]).length) := ⟨(x[i]).length + 1, fun K hK => markInt64S_eq x[i] m K hri h0 (by omega) (by omega)⟩
    have e1 : (x.set i (marks m (x[i]).length)).drop (i + 1) = x.drop (i + 1) := by rw [List.drop_set_of_lt (by omega)]
    have e2 : (x.set i (marks m (x[i]).length)).take (i + 1) = x.take i ++ [marks m (x[i]).length] := by
      rw [List.take_succ_eq_append_getElem (by rw [List.length_set]; exact hi), List.take_set_of_le (Nat.le_refl _), List.getElem_set_self]
    have ih := markSS_l0 d (i + 1) (x.set i (marks m (x[i]).length)) (m + (x[i]).length) (by rw [List.length_set]; exact hl) (by rw [List.length_set]; omega) (by rw [e1]; exact fun r hr' => hr r (List.mem_cons_of_mem _ hr')) (by omega) (by rw [e1]; omega)
    rw [e1, e2, List.append_assoc, List.singleton_append] at ih
    have e3 : m + (tot (x[i] :: x.drop (i + 1)) : Int) = m + (x[i]).length + tot (x.drop (i + 1)) := by
      rw [tot_cons]
      omega
    rw [e3]
    refine Evt.bind1 (h := fun K t => laws_markInt64SS.l0 K (x.set i t.2) t.1 ((i + 1 : Nat) : Int)) hm ih fun K => by rw [laws_markInt64SS.l0, if_pos f1, if_pos (Int.natCast_nonneg i), Int.toNat_natCast, hg, ei]
theorem heldSS_l0 : ∀ (d i : Nat) (x : List (List Int)) (t : List (List Int)) (m : Int), x.length ≤ 1048576 → i + d = x.length → x.drop i = marksSS m t → (∀ r ∈ t, r.length ≤ 1048576) → 0 ≤ m → m + tot t ≤ 4611686018426339328 →
    Evt (fun K => laws_heldInt64SS.l0 K x m (i : Int)) (m + tot t)
  | 0, i, x, t, m, hl, hd, he, hr, h0, h1 => by
    refine Evt.now fun K => ?_
    rw [laws_heldInt64SS.l0, if_neg (by omega)]
    rw [List.drop_of_length_le (by omega)] at he
    match t, he with
    | [], _ => simp [tot]
  | d + 1, i, x, t, m, hl, hd, he, hr, h0, h1 => by
    have hi : i < x.length := by omega
    have ei : wrap64 ((i : Int) + 1) = ((i + 1 : Nat) : Int) := w64n (i + 1) (by omega)
    have f1 : (i : Int) < (x.length : Int) := Int.ofNat_lt.2 hi
    rw [List.drop_eq_getElem_cons hi] at he
    match t, he, hr, h1 with
    | q :: t, he, hr, h1 =>
      unfold marksSS at he
      injection he with he1 he2
      have hq := hr q (by simp)
      rw [tot_cons] at h1
      have hm : Evt (fun K => laws_heldInt64S.f K (rd_L1 x (i : Int)) m) (m + q.length) := ⟨q.length + 1, fun K hK => by rw [rdL1_nat x i hi, he1]; exact heldInt64S_marks m q.length K hq h0 (by omega) (by omega)⟩
      have ih := heldSS_l0 d (i + 1) x t (m + q.length) hl (by omega) he2 (fun r hr' => hr r (List.mem_cons_of_mem _ hr')) (by omega) (by omega)
      have e3 : m + (tot (q :: t) : Int) = m + q.length + tot t := by
        rw [tot_cons]
        omega
      rw [e3]
      refine Evt.bind1 (h := fun K z => if z < 0 then some (-1) else laws_heldInt64SS.l0 K x z ((i + 1 : Nat) : Int)) hm (Evt.same ih fun K => if_neg (by omega)) fun K => by rw [laws_heldInt64SS.l0, if_pos f1, if_pos (Int.natCast_nonneg i), ei]
theorem tot_small {l : List (List Int)} (hl : l.length ≤ 1048576) (hr : ∀ x ∈ l, x.length ≤ 1048576) : 1 + (tot l : Int) ≤ 4611686018426339328 := by
  have h1 := tot_le 1048576 l hr
  have h2 : 1048576 * l.length ≤ 1048576 * 1048576 := Nat.mul_le_mul_left _ hl
  have h3 : (1048576 * 1048576 : Nat) = 1099511627776 := by decide
  omega
theorem markSS_ev (l : List (List Int)) (hl : l.length ≤ 1048576) (hr : ∀ x ∈ l, x.length ≤ 1048576) : Evt (fun K => laws_markInt64SS.f K l 1) (1 + (tot l : Int), marksSS 1 l) := by
  have h := markSS_l0 l.length 0 l 1 hl (Nat.zero_add _) (by rw [List.drop_zero]; exact hr) (by decide) (by rw [List.drop_zero]; exact tot_small hl hr)
  rw [List.drop_zero, List.take_zero, List.nil_append] at h
  exact h
theorem marksSS_len : ∀ (l : List (List Int)) (m : Int), (marksSS m l).length = l.length
  | [], _ => rfl
  | r :: t, m => by rw [marksSS, List.length_cons, List.length_cons, marksSS_len t]
theorem heldSS_ev (l : List (List Int)) (hl : l.length ≤ 1048576) (hr : ∀ x ∈ l, x.length ≤ 1048576) : Evt (fun K => laws_heldInt64SS.f K (marksSS 1 l) 1) (1 + (tot l : Int)) :=
  heldSS_l0 (marksSS 1 l).length 0 (marksSS 1 l) l 1 (by rw [marksSS_len]; exact hl) (Nat.zero_add _) (by rw [List.drop_zero]) hr (by decide) (tot_small hl hr)

theorem anyO_perm {n : Nat} (hn : n ≤ 8) : ∀ (G : List (List Int)), (∀ g ∈ G, g.length ≤ 1048576) → Evt (fun K => anyO (impl_arePermutations.q K (n : Int)) G) (!(G.all fun g => goP n g.length [] g))
  | [], _ => Evt.const fun _ => rfl
  | g :: G, hr => by
    have h := implIsPerm_ev n hn g (hr g List.mem_cons_self)
    have hq : Evt (fun K => impl_arePermutations.q K (n : Int) g) (!(goP n g.length [] g)) := Evt.bind h (h := fun _ b => some (!b)) (Evt.const fun _ => rfl) fun _ => rfl
    rw [List.all_cons]
    refine Evt.bind hq (h := fun K b => if b = true then some true else anyO (impl_arePermutations.q K (n : Int)) G) ?_ fun _ => rfl
    by_cases c : goP n g.length [] g = true
    · rw [c, Bool.true_and]
      exact Evt.same (anyO_perm hn G fun x hx => hr x (List.mem_cons_of_mem _ hx)) fun K => if_neg (by simp)
    · rw [Bool.not_eq_true] at c
      rw [c, Bool.false_and]
      exact Evt.const fun K => if_pos rfl
theorem are_ev (a0 : Int) (G : List (List Int)) (hr : ∀ g ∈ G, g.length ≤ 1048576) : Evt (fun K => impl_arePermutations.f K a0 G) (G.all (permS a0) && decide (1 ≤ a0 ∧ a0 ≤ 4)) := by
  by_cases c : 1 ≤ a0 ∧ a0 ≤ 4
  · obtain ⟨n, rfl⟩ : ∃ n : Nat, a0 = n := ⟨a0.toNat, by omega⟩
    have hn : n ≤ 8 := by omega
    rw [decide_eq_true c, Bool.and_true, show permS (n : Int) = fun g => goP n g.length [] g from funext fun g => permS_goP n hn g]
    refine Evt.bind (anyO_perm hn G hr) (h := fun _ b => some (!b)) (Evt.const fun _ => by rw [Bool.not_not]) fun K => ?_
    unfold impl_arePermutations.f
    rw [if_pos c]
  · rw [decide_eq_false c, Bool.and_false]
    refine Evt.const fun K => ?_
    unfold impl_arePermutations.f
    rw [if_neg c]
theorem orbitsOf_both (a0 : Int) (G : List (List Int)) (hl : G.length ≤ 1048576) (hr : ∀ g ∈ G, g.length ≤ 1048576) : ∃ r, Evt (fun K => spec_OrbitsOf.f K a0 G) r ∧ Evt (fun K => impl_OrbitsOf.f K a0 G) r ∧ r.length ≤ 8 ∧ ∀ x ∈ r, x.length ≤ 8 := by
  have h1 := deg_ev a0 G hl hr
  have h2 := are_ev a0 G hr
  by_cases c : (G.all (permS a0) && decide (1 ≤ a0 ∧ a0 ≤ 4)) = true
  · rw [c] at h1 h2
    rw [Bool.and_eq_true] at c
    have hc := of_decide_eq_true c.2
    obtain ⟨n, rfl⟩ : ∃ n : Nat, a0 = n := ⟨a0.toNat, by omega⟩
    have hn : n ≤ 8 := by omega
    have hG : ∀ g ∈ G, PermN n g := fun g hg => permN_of (by rw [← permS_goP n hn g]; exact List.all_eq_true.1 c.1 g hg)
    obtain ⟨r, s1, s2, s3, s4⟩ := orbits_both hn hG hl
    refine ⟨r, ?_, ?_, Nat.le_trans s3 hn, fun x hx => Nat.le_trans (s4 x hx) hn⟩
    · refine Evt.bind h1 (h := fun K t => if t = true then ((spec_l05Orbits.f K (n : Int) G).bind fun t160 => (some t160)) else some []) (Evt.bind s1 (h := fun _ t => some t) (Evt.const fun _ => rfl) fun K => if_pos rfl) fun _ => rfl
    · refine Evt.bind h2 (h := fun K t => if t = true then ((impl_orbits.f K (n : Int) G).bind fun t205 => (some t205)) else some []) (Evt.bind s2 (h := fun _ t => some t) (Evt.const fun _ => rfl) fun K => if_pos rfl) fun _ => rfl
  · rw [Bool.not_eq_true] at c
    rw [c] at h1 h2
    refine ⟨[], ?_, ?_, Nat.zero_le _, fun x hx => absurd hx (by simp)⟩
    · exact Evt.bind h1 (h := fun K t => if t = true then ((spec_l05Orbits.f K a0 G).bind fun t160 => (some t160)) else some []) (Evt.const fun K => if_neg (by simp)) fun _ => rfl
    · exact Evt.bind h2 (h := fun K t => if t = true then ((impl_orbits.f K a0 G).bind fun t205 => (some t205)) else some []) (Evt.const fun K => if_neg (by simp)) fun _ => rfl
theorem FnExactOrbitsOf : laws_FnExactOrbitsOf.Pure := by
  intro a0 l _ hl hr
  by_cases hb : l.length ≤ 1048576 ∧ ∀ x ∈ l, x.length ≤ 1048576
  · obtain ⟨s, ⟨k1, h1⟩, ⟨k2, h2⟩, b1, b2⟩ := orbitsOf_both a0 l hb.1 hb.2
    have b1' : s.length ≤ 1048576 := Nat.le_trans b1 (by decide)
    have b2' : ∀ x ∈ s, x.length ≤ 1048576 := fun x hx => Nat.le_trans (b2 x hx) (by decide)
    obtain ⟨k3, h3⟩ := markSS_ev l hb.1 hb.2
    obtain ⟨k4, h4⟩ := markSS_ev s b1' b2'
    obtain ⟨k5, h5⟩ := heldSS_ev s b1' b2'
    obtain ⟨K, hK⟩ : ∃ K : Nat, K = k1 + k2 + k3 + k4 + k5 + 2097300 := ⟨_, rfl⟩
    refine ⟨K, ?_⟩
    obtain ⟨r, e, _⟩ := szInt64SS_eq l 1048576 K (by omega) (by omega) hl (fun x hx => (hr x hx).1) (by omega)
    unfold laws_FnExactOrbitsOf.f
    rw [e, Option.bind_some]
    by_cases h0 : r < 0
    · rw [if_pos h0]
    · rw [if_neg h0, toInt64SS_eq l K hb.1 hb.2 (by omega)]
      have g1 := h1 K (by omega)
      have g2 := h2 K (by omega)
      have g3 := h3 K (by omega)
      have g4 := h4 K (by omega)
      have g5 := h5 K (by omega)
      simp only at g1 g2 g3 g4 g5
      have n1 : 0 ≤ 1 + (tot l : Int) := by omega
      have n2 : 0 ≤ 1 + (tot s : Int) := by omega
      rw [Option.bind_some, g1, Option.bind_some, g2, Option.bind_some, eqInt64SS_self s 1048576 K b1' (by omega) b2' (by omega), Option.bind_some, if_pos rfl, eqInt64SS_self l 1048576 K hb.1 (by omega) hb.2 (by omega), Option.bind_some, if_pos rfl, g3, Option.bind_some, if_pos n1, g4, Option.bind_some, g5, Option.bind_some, if_pos n2, if_pos rfl]
  · obtain ⟨K, hK⟩ : ∃ K : Nat, K = 2097300 := ⟨_, rfl⟩
    refine ⟨K, ?_⟩
    obtain ⟨r, e, h⟩ := szInt64SS_eq l 1048576 K (by omega) (by omega) hl (fun x hx => (hr x hx).1) (by omega)
    have h0 : r < 0 := by
      rcases h with h | ⟨_, _, h1, h2⟩
      · exact h
      · exact absurd ⟨by omega, fun x hx => by have := h2 x hx; omega⟩ hb
    unfold laws_FnExactOrbitsOf.f
    rw [e, Option.bind_some, if_pos h0]

end Go.Proofs.Ytinpfomadogadaa.Pure
