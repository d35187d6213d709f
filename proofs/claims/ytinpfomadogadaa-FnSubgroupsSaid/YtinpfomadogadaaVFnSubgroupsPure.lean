/- The numbers of subgroups of index 1 to 3 are related to those of representations as the theory demands. No condition: for every input that the statement lets in. -/
import Derived.Test.YtinpfomadogadaaVFnSubgroupsPx11
namespace Go.Proofs.Ytinpfomadogadaa.Pure
open Go.RowKit Go.Proofs.Ytinpfomadogadaa.PFnSubgroups Go.Proofs.YtinpfomadogadaaW.PrintWords Go.Proofs.YtinpfomadogadaaW.PrintLast

set_option linter.unusedSimpArgs false
set_option linter.unusedVariables false
theorem w64 (x : Int) (h0 : -9223372036854775808 ≤ x) (h1 : x ≤ 9223372036854775807) : wrap64 x = x := by
  unfold wrap64
  omega
theorem w64n (n : Nat) (h : n ≤ 9223372036854775807) : wrap64 (n : Int) = (n : Int) := w64 _ (by omega) (by omega)
theorem rd_nat (l : List Int) (i : Nat) (h : i < l.length) : rd l (i : Int) = l[i] := by
  simp [rd, List.getD, List.getElem?_eq_getElem h]
theorem succ_k {k n : Nat} (h : n < k) : ∃ m, k = m + 1 := ⟨k - 1, by omega⟩
theorem cast_succ (i : Nat) : ((i : Int) + 1) = ((i + 1 : Nat) : Int) := by omega
theorem drop_rd (l : List Int) (k : Nat) (h : k < l.length) : l.drop k = rd l (k : Int) :: l.drop (k + 1) := by
  rw [List.drop_eq_getElem_cons h, rd_nat l k h]

theorem len_le_of_sub : ∀ (l m : List Int), l.Nodup → (∀ x ∈ l, x ∈ m) → l.length ≤ m.length
  | [], m, _, _ => Nat.zero_le _
  | a :: l, m, h, hs => by
    obtain ⟨h1, h2⟩ := List.nodup_cons.1 h
    have ha : a ∈ m := hs a (by simp)
    have := len_le_of_sub l (m.erase a) h2 (fun x hx => (List.mem_erase_of_ne (fun (e : x = a) => h1 (e ▸ hx))).2 (hs x (List.mem_cons_of_mem _ hx)))
    rw [List.length_erase_of_mem ha] at this
    have hp : 0 < m.length := List.length_pos_of_mem ha
    rw [List.length_cons]
    omega
/-- The numbers below n. -/
def rangeI (n : Nat) : List Int := (List.range n).map fun (i : Nat) => (i : Int)
theorem rangeI_len (n : Nat) : (rangeI n).length = n := by simp [rangeI]
theorem rangeI_mem (n : Nat) (x : Int) : x ∈ rangeI n ↔ 0 ≤ x ∧ x < n := by
  unfold rangeI
  rw [List.mem_map]
  constructor
  · rintro ⟨i, hi, rfl⟩
    rw [List.mem_range] at hi
    omega
  · rintro ⟨h0, h1⟩
    exact ⟨x.toNat, by rw [List.mem_range]; omega, by omega⟩
def InN (n : Nat) (q : List Int) : Prop := ∀ x ∈ q, 0 ≤ x ∧ x < n
theorem short_of {n : Nat} {q : List Int} (h : q.Nodup) (hr : InN n q) : q.length ≤ n := by
  have := len_le_of_sub q (rangeI n) h (fun x hx => (rangeI_mem n x).2 (hr x hx))
  rwa [rangeI_len] at this
theorem full_of {n : Nat} {q : List Int} (h : q.Nodup) (hr : InN n q) (hl : n ≤ q.length) (y : Int) (h0 : 0 ≤ y) (h1 : y < n) : y ∈ q := by
  by_cases c : y ∈ q
  · exact c
  · have := short_of (q := y :: q) (List.nodup_cons.2 ⟨c, h⟩) (fun x hx => by
      rcases List.mem_cons.1 hx with rfl | hx
      · exact ⟨h0, h1⟩
      · exact hr x hx)
    rw [List.length_cons] at this
    omega
/-- A permutation of the numbers below n. -/
def PermN (n : Nat) (g : List Int) : Prop := g.length = n ∧ g.Nodup ∧ InN n g
theorem rd_in (l : List Int) (y : Int) (h0 : 0 ≤ y) (h1 : y < l.length) : rd l y ∈ l := by
  obtain ⟨m, rfl⟩ : ∃ m : Nat, y = m := ⟨y.toNat, by omega⟩
  rw [rd_nat l m (by omega)]
  exact List.getElem_mem _
theorem PermN.at {n : Nat} {g : List Int} (h : PermN n g) {y : Int} (h0 : 0 ≤ y) (h1 : y < n) : 0 ≤ rd g y ∧ rd g y < n := h.2.2 _ (rd_in g y h0 (by have := h.1; omega))
theorem PermN.inj {n : Nat} {g : List Int} (h : PermN n g) {a b : Int} (a0 : 0 ≤ a) (a1 : a < n) (b0 : 0 ≤ b) (b1 : b < n) (e : rd g a = rd g b) : a = b := by
  obtain ⟨i, rfl⟩ : ∃ m : Nat, a = m := ⟨a.toNat, by omega⟩
  obtain ⟨j, rfl⟩ : ∃ m : Nat, b = m := ⟨b.toNat, by omega⟩
  have hl := h.1
  rw [rd_nat g i (by omega), rd_nat g j (by omega)] at e
  have hp := List.pairwise_iff_getElem.1 h.2.1
  rcases Nat.lt_trichotomy i j with c | c | c
  · exact absurd e (hp i j (by omega) (by omega) c)
  · rw [c]
  · exact absurd e.symm (hp j i (by omega) (by omega) c)
/-- What a permutation sends into a closed set came out of it. -/
theorem PermN.back {n : Nat} {g : List Int} (h : PermN n g) {S : List Int} (hS : S.Nodup) (hr : InN n S) (hc : ∀ y ∈ S, rd g y ∈ S) {y : Int} (h0 : 0 ≤ y) (h1 : y < n) (hy : rd g y ∈ S) : y ∈ S := by
  by_cases c : y ∈ S
  · exact c
  · have hn : ((y :: S).map fun z => rd g z).Nodup := by
      unfold List.Nodup
      rw [List.pairwise_map]
      refine List.Pairwise.imp_of_mem (fun {a b} ha hb hab e => ?_) (List.nodup_cons.2 ⟨c, hS⟩)
      have ia : 0 ≤ a ∧ a < n := by rcases List.mem_cons.1 ha with rfl | ha; exact ⟨h0, h1⟩; exact hr a ha
      have ib : 0 ≤ b ∧ b < n := by rcases List.mem_cons.1 hb with rfl | hb; exact ⟨h0, h1⟩; exact hr b hb
      exact hab (h.inj ia.1 ia.2 ib.1 ib.2 e)
    have := len_le_of_sub _ S hn (fun x hx => by
      obtain ⟨z, hz, rfl⟩ := List.mem_map.1 hx
      rcases List.mem_cons.1 hz with rfl | hz
      · exact hy
      · exact hc z hz)
    rw [List.length_map, List.length_cons] at this
    omega
/-- The marks of a list. -/
def mkB (n : Nat) (q : List Int) : List Bool := (List.range n).map fun (i : Nat) => decide ((i : Int) ∈ q)
theorem mkB_length (n : Nat) (q : List Int) : (mkB n q).length = n := by simp [mkB]
theorem rdB (n : Nat) (q : List Int) (c : Int) (h0 : 0 ≤ c) (h1 : c < n) : rdOf false (mkB n q) c = decide (c ∈ q) := by
  obtain ⟨m, rfl⟩ : ∃ m : Nat, c = m := ⟨c.toNat, by omega⟩
  unfold rdOf mkB
  rw [Int.toNat_natCast, List.getD_eq_getElem?_getD, List.getElem?_map, List.getElem?_range (by omega)]
  rfl
theorem mkB_set (n : Nat) (q : List Int) (c : Int) (h0 : 0 ≤ c) : (mkB n q).set c.toNat true = mkB n (q ++ [c]) := by
  refine List.ext_getElem (by simp [mkB]) fun i h1 h2 => ?_
  simp only [mkB, List.getElem_set, List.getElem_map, List.getElem_range]
  by_cases e : c.toNat = i
  · rw [if_pos e]
    have : (i : Int) ∈ q ++ [c] := by simp; omega
    simp [this]
  · rw [if_neg e]
    have : ((i : Int) ∈ q ++ [c]) ↔ ((i : Int) ∈ q) := by
      rw [List.mem_append, List.mem_singleton]
      constructor
      · rintro (h | h)
        · exact h
        · omega
      · exact Or.inl
    exact decide_eq_decide.2 this.symm
theorem mkB_nil (n : Nat) : List.replicate n false = mkB n [] := by
  refine List.ext_getElem (by simp [mkB]) fun i h1 h2 => ?_
  unfold mkB
  simp
/-- A number is put to the list, if it is not there. -/
def pushO (o q : List Int) (c : Int) : List Int := if c ∈ o ++ q then q else q ++ [c]
def Good (n : Nat) (o q : List Int) : Prop := (o ++ q).Nodup ∧ InN n (o ++ q)
theorem Good.push {n : Nat} {o q : List Int} (h : Good n o q) {c : Int} (h0 : 0 ≤ c) (h1 : c < n) : Good n o (pushO o q c) := by
  unfold pushO
  split
  · exact h
  · rename_i hc
    refine ⟨?_, fun x hx => ?_⟩
    · rw [← List.append_assoc]
      refine List.nodup_append.2 ⟨h.1, by simp, fun a ha b hb e => ?_⟩
      rw [List.mem_singleton] at hb
      exact hc (hb ▸ e ▸ ha)
    · rw [← List.append_assoc, List.mem_append, List.mem_singleton] at hx
      rcases hx with hx | rfl
      · exact h.2 x hx
      · exact ⟨h0, h1⟩
theorem pushO_pre (o q : List Int) (c : Int) : ∃ t, pushO o q c = q ++ t := by
  unfold pushO
  split
  · exact ⟨[], by simp⟩
  · exact ⟨[c], rfl⟩
theorem pushO_in (o q : List Int) (c : Int) : c ∈ o ++ pushO o q c := by
  unfold pushO
  split
  · assumption
  · simp
theorem pushO_mem (o q : List Int) (c x : Int) (h : x ∈ pushO o q c) : x ∈ q ∨ x = c := by
  unfold pushO at h
  split at h
  · exact .inl h
  · simpa using h
theorem foldO {n : Nat} {o : List Int} : ∀ (cs q : List Int), Good n o q → InN n cs → Good n o (cs.foldl (pushO o) q) ∧ (∃ t, cs.foldl (pushO o) q = q ++ t) ∧ (∀ c ∈ cs, c ∈ o ++ cs.foldl (pushO o) q) ∧ ∀ x ∈ cs.foldl (pushO o) q, x ∈ q ∨ x ∈ cs
  | [], q, h, _ => ⟨h, ⟨[], by simp⟩, fun _ hc => absurd hc (by simp), fun x hx => .inl hx⟩
  | c :: cs, q, h, hr => by
    have hc := hr c (by simp)
    obtain ⟨h1, ⟨t, h2⟩, h3, h4⟩ := foldO cs (pushO o q c) (h.push hc.1 hc.2) (fun x hx => hr x (List.mem_cons_of_mem _ hx))
    obtain ⟨t1, e1⟩ := pushO_pre o q c
    rw [List.foldl_cons]
    refine ⟨h1, ⟨t1 ++ t, by rw [h2, e1, List.append_assoc]⟩, fun x hx => ?_, fun x hx => ?_⟩
    · rcases List.mem_cons.1 hx with rfl | hx
      · have := pushO_in o q x
        rw [h2]
        rw [List.mem_append] at this ⊢
        rcases this with h | h
        · exact .inl h
        · exact .inr (List.mem_append_left _ h)
      · exact h3 x hx
    · rcases h4 x hx with h | h
      · rcases pushO_mem o q c x h with h | h
        · exact .inl h
        · exact .inr (by simp [h])
      · exact .inr (List.mem_cons_of_mem _ h)
/-- All that can be reached, first come, first served. -/
def bfsO (o : List Int) (cand : Int → List Int) : Nat → Nat → List Int → List Int
  | 0, _, q => q
  | d + 1, i, q => if i < q.length then bfsO o cand d (i + 1) ((cand (rd q (i : Int))).foldl (pushO o) q) else q
theorem rd_pre (q t : List Int) (i : Nat) (h : i < q.length) : rd (q ++ t) (i : Int) = rd q (i : Int) := by
  rw [rd_nat q i h, rd_nat (q ++ t) i (by simp; omega), List.getElem_append_left]
theorem mem_rd (q : List Int) (x : Int) (h : x ∈ q) : ∃ j : Nat, j < q.length ∧ rd q (j : Int) = x := by
  obtain ⟨j, hj, e⟩ := List.getElem_of_mem h
  exact ⟨j, hj, by rw [rd_nat q j hj, e]⟩
theorem Good.len {n : Nat} {o q : List Int} (h : Good n o q) : q.length ≤ n := by
  have := short_of h.1 h.2
  rw [List.length_append] at this
  omega
theorem Good.right {n : Nat} {o q : List Int} (h : Good n o q) : q.Nodup ∧ InN n q := ⟨(List.nodup_append.1 h.1).2.1, fun x hx => h.2 x (List.mem_append_right _ hx)⟩
theorem bfsO_facts {n : Nat} {o : List Int} {cand : Int → List Int} (hc : ∀ y : Int, 0 ≤ y → y < n → InN n (cand y)) : ∀ (d i : Nat) (q : List Int), Good n o q → i ≤ q.length → n < d + i →
    (∀ j : Nat, j < i → ∀ c ∈ cand (rd q (j : Int)), c ∈ o ++ q) →
    Good n o (bfsO o cand d i q) ∧ (∀ x ∈ q, x ∈ bfsO o cand d i q) ∧ (∀ y ∈ bfsO o cand d i q, ∀ c ∈ cand y, c ∈ o ++ bfsO o cand d i q) ∧
      ∀ P : Int → Prop, (∀ y : Int, 0 ≤ y → y < n → P y → ∀ c ∈ cand y, P c) → (∀ y ∈ q, P y) → ∀ y ∈ bfsO o cand d i q, P y
  | 0, i, q, h, hi, hd, _ => by
    have := h.len
    omega
  | d + 1, i, q, h, hi, hd, hp => by
    unfold bfsO
    by_cases c : i < q.length
    · rw [if_pos c]
      have hy := h.right.2 _ (rd_in q (i : Int) (by omega) (by omega))
      obtain ⟨h1, ⟨t, h2⟩, h3, h4⟩ := foldO (n := n) (o := o) (cand (rd q (i : Int))) q h (hc _ hy.1 hy.2)
      obtain ⟨g1, g2, g3, g4⟩ := bfsO_facts hc d (i + 1) _ h1 (by rw [h2]; simp; omega) (by omega) (fun j hj x hx => by
        by_cases e : j = i
        · subst e
          rw [h2, rd_pre q t j c] at hx
          exact h3 x hx
        · rw [h2, rd_pre q t j (by omega)] at hx
          have := hp j (by omega) x hx
          rw [h2, ← List.append_assoc]
          exact List.mem_append_left _ this)
      refine ⟨g1, fun x hx => g2 x (by rw [h2]; exact List.mem_append_left _ hx), g3, fun P hP hq => g4 P hP fun y hy2 => ?_⟩
      rcases h4 y hy2 with h | h
      · exact hq y h
      · exact hP _ hy.1 hy.2 (hq _ (rd_in q (i : Int) (by omega) (by omega))) y h
    · rw [if_neg c]
      refine ⟨h, fun x hx => hx, fun y hy x hx => ?_, fun P _ hq => hq⟩
      obtain ⟨j, hj, rfl⟩ := mem_rd q y hy
      exact hp j (by omega) x hx

/-- With enough rounds, the answer is r. -/
def Evt {α : Type} (f : Nat → Option α) (r : α) : Prop := ∃ c, ∀ K, c ≤ K → f K = some r
theorem Evt.step {α : Type} {f g : Nat → Option α} {r : α} (h : Evt g r) (e : ∀ K, f (K + 1) = g K) : Evt f r := by
  obtain ⟨c, hc⟩ := h
  refine ⟨c + 1, fun K hK => ?_⟩
  obtain ⟨K, rfl⟩ : ∃ m, K = m + 1 := ⟨K - 1, by omega⟩
  rw [e K]
  exact hc K (by omega)
theorem Evt.same {α : Type} {f g : Nat → Option α} {r : α} (h : Evt g r) (e : ∀ K, f K = g K) : Evt f r := by
  obtain ⟨c, hc⟩ := h
  exact ⟨c, fun K hK => by rw [e K]; exact hc K hK⟩
theorem Evt.now {α : Type} {f : Nat → Option α} {r : α} (e : ∀ K, f (K + 1) = some r) : Evt f r := by
  refine ⟨1, fun K hK => ?_⟩
  obtain ⟨K, rfl⟩ : ∃ m, K = m + 1 := ⟨K - 1, by omega⟩
  exact e K
theorem Evt.const {α : Type} {f : Nat → Option α} {r : α} (e : ∀ K, f K = some r) : Evt f r := ⟨0, fun K _ => e K⟩
theorem Evt.bind {α β : Type} {f : Nat → Option β} {g : Nat → Option α} {h : Nat → α → Option β} {x : α} {r : β} (hg : Evt g x) (hh : Evt (fun K => h K x) r) (e : ∀ K, f K = (g K).bind (h K)) : Evt f r := by
  obtain ⟨c, hc⟩ := hg
  obtain ⟨d, hd⟩ := hh
  exact ⟨c + d, fun K hK => by rw [e K, hc K (by omega)]; exact hd K (by omega)⟩
theorem Evt.bind1 {α β : Type} {f : Nat → Option β} {g : Nat → Option α} {h : Nat → α → Option β} {x : α} {r : β} (hg : Evt g x) (hh : Evt (fun K => h K x) r) (e : ∀ K, f (K + 1) = (g K).bind (h K)) : Evt f r :=
  Evt.step (g := fun K => (g K).bind (h K)) (Evt.bind hg hh fun _ => rfl) e
theorem rdL1_nat (l : List (List Int)) (i : Nat) (h : i < l.length) : rd_L1 l (i : Int) = l[i] := by
  simp [rd_L1, List.getD, List.getElem?_eq_getElem h]
theorem drop_rdL1 (l : List (List Int)) (k : Nat) (h : k < l.length) : l.drop k = rd_L1 l (k : Int) :: l.drop (k + 1) := by
  rw [List.drop_eq_getElem_cons h, rdL1_nat l k h]
theorem rdL1_mem (l : List (List Int)) (i : Nat) (h : i < l.length) : rd_L1 l (i : Int) ∈ l := by
  rw [rdL1_nat l i h]
  exact List.getElem_mem h

/-- The place of a number in a list; -1, if it is not there. -/
def idxF : List Int → Int → Nat → Int
  | [], _, _ => -1
  | x :: t, y, i => if x = y then (i : Int) else idxF t y (i + 1)
theorem idxF_at : ∀ (t : List Int) (y : Int) (i : Nat), y ∈ t → ∃ m : Nat, m < t.length ∧ idxF t y i = ((i + m : Nat) : Int) ∧ rd t (m : Int) = y
  | [], y, i, h => absurd h (by simp)
  | x :: t, y, i, h => by
    unfold idxF
    by_cases c : x = y
    · rw [if_pos c]
      exact ⟨0, by simp, rfl, c⟩
    · rw [if_neg c]
      obtain ⟨m, h1, h2, h3⟩ := idxF_at t y (i + 1) (by
        rcases List.mem_cons.1 h with e | e
        · exact absurd e.symm c
        · exact e)
      refine ⟨m + 1, by rw [List.length_cons]; omega, by rw [h2]; congr 1; omega, ?_⟩
      rw [← h3]
      simp only [rd, Int.toNat_natCast]
      rfl
/-- Where a permutation comes from. -/
def invI (g : List Int) (y : Int) : Int := idxF g y 0
theorem invI_at {n : Nat} {g : List Int} (h : PermN n g) {y : Int} (h0 : 0 ≤ y) (h1 : y < n) : (0 ≤ invI g y ∧ invI g y < n) ∧ rd g (invI g y) = y := by
  obtain ⟨m, h2, h3, h4⟩ := idxF_at g y 0 (full_of h.2.1 h.2.2 (by rw [h.1]; exact Nat.le_refl _) y h0 h1)
  rw [h.1] at h2
  rw [Nat.zero_add] at h3
  unfold invI
  rw [h3]
  exact ⟨⟨by omega, by omega⟩, h4⟩

/-- Where a letter maps a point. -/
def actL (G : List (List Int)) (a x : Int) : Int := if 0 < a then rd (rd_L1 G (a - 1)) x else invI (rd_L1 G (-a - 1)) x
def actW (G : List (List Int)) (w : List Int) (x : Int) : Int := w.foldl (fun x a => actL G a x) x
/-- A letter for which there is a permutation. -/
def LetterIn (G : List (List Int)) (a : Int) : Prop := a ≠ 0 ∧ -(G.length : Int) ≤ a ∧ a ≤ (G.length : Int)
theorem LetterIn.cases {G : List (List Int)} {a : Int} (h : LetterIn G a) : ∃ j : Nat, j < G.length ∧ (a = ((j + 1 : Nat) : Int) ∨ a = -((j + 1 : Nat) : Int)) := by
  obtain ⟨h0, h1, h2⟩ := h
  by_cases c : 0 < a
  · exact ⟨(a - 1).toNat, by omega, .inl (by omega)⟩
  · exact ⟨(-a - 1).toNat, by omega, .inr (by omega)⟩
theorem actL_pos (G : List (List Int)) (j : Nat) (x : Int) : actL G ((j + 1 : Nat) : Int) x = rd (rd_L1 G (j : Int)) x := by
  unfold actL
  rw [if_pos (by omega), show ((j + 1 : Nat) : Int) - 1 = (j : Int) by omega]
theorem actL_neg (G : List (List Int)) (j : Nat) (x : Int) : actL G (-((j + 1 : Nat) : Int)) x = invI (rd_L1 G (j : Int)) x := by
  unfold actL
  rw [if_neg (by omega), show -(-((j + 1 : Nat) : Int)) - 1 = (j : Int) by omega]
theorem actL_in {n : Nat} {G : List (List Int)} (hG : ∀ g ∈ G, PermN n g) {a x : Int} (ha : LetterIn G a) (h0 : 0 ≤ x) (h1 : x < n) : 0 ≤ actL G a x ∧ actL G a x < n := by
  obtain ⟨j, hj, rfl | rfl⟩ := ha.cases
  · rw [actL_pos]
    exact (hG _ (rdL1_mem G j hj)).at h0 h1
  · rw [actL_neg]
    exact (invI_at (hG _ (rdL1_mem G j hj)) h0 h1).1
theorem actW_in {n : Nat} {G : List (List Int)} (hG : ∀ g ∈ G, PermN n g) : ∀ (w : List Int) (x : Int), (∀ a ∈ w, LetterIn G a) → 0 ≤ x → x < n → 0 ≤ actW G w x ∧ actW G w x < n
  | [], x, _, h0, h1 => ⟨h0, h1⟩
  | a :: w, x, hw, h0, h1 => by
    have h := actL_in hG (hw a List.mem_cons_self) h0 h1
    exact actW_in hG w _ (fun b hb => hw b (List.mem_cons_of_mem _ hb)) h.1 h.2
/-- Does a word map each point to itself? -/
def trivB (G : List (List Int)) (w : List Int) : Nat → Nat → Bool
  | 0, _ => true
  | d + 1, x => decide (actW G w (x : Int) = (x : Int)) && trivB G w d (x + 1)
theorem neg_letter (j : Nat) (hj : j ≤ 1048576) : wrap64 (wrap64 (-(-((j + 1 : Nat) : Int))) - 1) = (j : Int) := by
  rw [Int.neg_neg, w64n (j + 1) (by omega), show ((j + 1 : Nat) : Int) - 1 = (j : Int) by omega]
  exact w64n j (by omega)
theorem pos_letter (j : Nat) (hj : j ≤ 1048576) : wrap64 (((j + 1 : Nat) : Int) - 1) = (j : Int) := by
  rw [show ((j + 1 : Nat) : Int) - 1 = (j : Int) by omega]
  exact w64n j (by omega)

/-- All tuples of d lists, in their order. -/
def tup (all : List (List Int)) : Nat → List (List (List Int))
  | 0 => [[]]
  | d + 1 => all.flatMap fun l => (tup all d).map (l :: ·)
/-- A visitor is shown one thing after the other, until it has enough. -/
def visP {σ : Type} (vp : List (List Int) → σ → Bool × σ) : List (List (List Int)) → σ → Bool × σ
  | [], s => (true, s)
  | G :: t, s => if (vp G s).1 = true then visP vp t (vp G s).2 else (false, (vp G s).2)
theorem visP_one {σ : Type} (vp : List (List Int) → σ → Bool × σ) (G : List (List Int)) (s : σ) : visP vp [G] s = vp G s := by
  rw [visP, visP]
  rcases vp G s with ⟨b, s'⟩
  cases b <;> rfl
theorem visP_append {σ : Type} (vp : List (List Int) → σ → Bool × σ) : ∀ (a b : List (List (List Int))) (s : σ), visP vp (a ++ b) s = if (visP vp a s).1 = true then visP vp b (visP vp a s).2 else (false, (visP vp a s).2)
  | [], b, s => by simp [visP]
  | G :: a, b, s => by
    rw [List.cons_append, visP, visP]
    by_cases c : (vp G s).1 = true
    · rw [if_pos c, if_pos c, visP_append vp a b]
    · rw [if_neg c, if_neg c]
      simp
theorem tup_len (all : List (List Int)) : ∀ d, (tup all d).length = all.length ^ d
  | 0 => rfl
  | d + 1 => by
    rw [tup, List.length_flatMap]
    simp only [List.length_map, tup_len all d]
    rw [List.map_const', List.sum_replicate_nat, Nat.pow_succ, Nat.mul_comm]
theorem tup_mem (all : List (List Int)) : ∀ (d : Nat) (G : List (List Int)), G ∈ tup all d → G.length = d ∧ ∀ x ∈ G, x ∈ all
  | 0, G, h => by
    rw [tup, List.mem_singleton] at h
    subst h
    simp
  | d + 1, G, h => by
    rw [tup, List.mem_flatMap] at h
    obtain ⟨l, hl, h⟩ := h
    obtain ⟨t, ht, rfl⟩ := List.mem_map.1 h
    obtain ⟨h1, h2⟩ := tup_mem all d t ht
    refine ⟨by simp [h1], fun x hx => ?_⟩
    rcases List.mem_cons.1 hx with rfl | hx
    · exact hl
    · exact h2 x hx

theorem index_l0 (y : Int) (g : List Int) (hl : g.length ≤ 1048576) : ∀ (d i : Nat), i + d = g.length → Evt (fun K => slices_Index_int64_int64.l0 K g y (g.length : Int) (i : Int)) (idxF (g.drop i) y i)
  | 0, i, hd => by
    refine Evt.now fun K => ?_
    rw [slices_Index_int64_int64.l0, if_neg (by omega), List.drop_of_length_le (by omega)]
    rfl
  | d + 1, i, hd => by
    have hi : i < g.length := by omega
    have hd2 : i + 1 + d = g.length := by omega
    have ei : wrap64 ((i : Int) + 1) = ((i + 1 : Nat) : Int) := w64n (i + 1) (by omega)
    have f1 : (i : Int) < (g.length : Int) := Int.ofNat_lt.2 hi
    rw [drop_rd g i hi]
    unfold idxF
    by_cases c : rd g (i : Int) = y
    · rw [if_pos c]
      exact Evt.now fun K => by rw [slices_Index_int64_int64.l0, if_pos f1, if_pos (Int.natCast_nonneg i), if_pos f1, if_pos c.symm]
    · rw [if_neg c]
      exact Evt.step (index_l0 y g hl d (i + 1) hd2) fun K => by rw [slices_Index_int64_int64.l0, if_pos f1, if_pos (Int.natCast_nonneg i), if_pos f1, if_neg (Ne.symm c), ei]
theorem back_ev (y : Int) (g : List Int) (hl : g.length ≤ 1048576) : Evt (fun K => impl_back.f K g y) (invI g y) := by
  have h := index_l0 y g hl g.length 0 (Nat.zero_add _)
  rw [List.drop_zero] at h
  exact Evt.bind h (h := fun _ t => some t) (Evt.const fun _ => rfl) fun _ => rfl
theorem act_ev {n : Nat} (hn : n ≤ 8) {G : List (List Int)} (hG : ∀ g ∈ G, PermN n g) (hl : G.length ≤ 1048576) {a x : Int} (ha : LetterIn G a) (h0 : 0 ≤ x) (h1 : x < n) : Evt (fun K => impl_act.f K G a x) (actL G a x) := by
  obtain ⟨j, hj, rfl | rfl⟩ := ha.cases
  · have hp := hG _ (rdL1_mem G j hj)
    have e1 := pos_letter j (by omega)
    rw [actL_pos]
    refine Evt.const fun K => ?_
    unfold impl_act.f
    rw [if_pos (by clear e1; omega), e1, if_pos (Int.natCast_nonneg j), if_pos (Int.ofNat_lt.2 hj), if_pos h0, if_pos (by rw [hp.1]; exact h1)]
  · have hp := hG _ (rdL1_mem G j hj)
    have e1 := neg_letter j (by omega)
    rw [actL_neg]
    refine Evt.bind (back_ev x (rd_L1 G (j : Int)) (by rw [hp.1]; exact Nat.le_trans hn (by decide))) (h := fun _ t => some t) (Evt.const fun _ => rfl) fun K => ?_
    unfold impl_act.f
    rw [w64 (-(-((j + 1 : Nat) : Int))) (by clear e1; omega) (by clear e1; omega)] at e1
    rw [if_neg (by clear e1; omega), w64 (-(-((j + 1 : Nat) : Int))) (by clear e1; omega) (by clear e1; omega), e1, if_pos (Int.natCast_nonneg j), if_pos (Int.ofNat_lt.2 hj)]
theorem actWord_l0 {n : Nat} (hn : n ≤ 8) {G : List (List Int)} (hG : ∀ g ∈ G, PermN n g) (hl : G.length ≤ 1048576) (w : List Int) (hw : ∀ a ∈ w, LetterIn G a) (hwl : w.length ≤ 1048576) : ∀ (d i : Nat) (x : Int), i + d = w.length → 0 ≤ x → x < n →
    Evt (fun K => impl_actWord.l0 K G x w (w.length : Int) (i : Int)) (actW G (w.drop i) x)
  | 0, i, x, hd, h0, h1 => by
    refine Evt.now fun K => ?_
    rw [impl_actWord.l0, if_neg (by omega), List.drop_of_length_le (by omega)]
    rfl
  | d + 1, i, x, hd, h0, h1 => by
    have hi : i < w.length := by omega
    have hd2 : i + 1 + d = w.length := by omega
    have ei : wrap64 ((i : Int) + 1) = ((i + 1 : Nat) : Int) := w64n (i + 1) (by omega)
    have f1 : (i : Int) < (w.length : Int) := Int.ofNat_lt.2 hi
    have ha := hw _ (rd_in w (i : Int) (Int.natCast_nonneg i) f1)
    have hx := actL_in hG ha h0 h1
    rw [drop_rd w i hi]
    refine Evt.bind1 (act_ev hn hG hl ha h0 h1) (h := fun K t => impl_actWord.l0 K G t w (w.length : Int) ((i + 1 : Nat) : Int)) (actWord_l0 hn hG hl w hw hwl d (i + 1) _ hd2 hx.1 hx.2) fun K => ?_
    rw [impl_actWord.l0, if_pos f1, if_pos (Int.natCast_nonneg i), if_pos f1, ei]
theorem actWord_ev {n : Nat} (hn : n ≤ 8) {G : List (List Int)} (hG : ∀ g ∈ G, PermN n g) (hl : G.length ≤ 1048576) (w : List Int) (hw : ∀ a ∈ w, LetterIn G a) (hwl : w.length ≤ 1048576) (x : Int) (h0 : 0 ≤ x) (h1 : x < n) :
    Evt (fun K => impl_actWord.f K G w x) (actW G w x) := by
  have h := actWord_l0 hn hG hl w hw hwl w.length 0 x (Nat.zero_add _) h0 h1
  rw [List.drop_zero] at h
  exact h

theorem isTrivial_l0 {n : Nat} (hn : n ≤ 8) {G : List (List Int)} (hG : ∀ g ∈ G, PermN n g) (hl : G.length ≤ 1048576) (w : List Int) (hw : ∀ a ∈ w, LetterIn G a) (hwl : w.length ≤ 1048576) : ∀ (d x : Nat), x + d = n →
    Evt (fun K => impl_isTrivial.l0 K G w (n : Int) (x : Int)) (trivB G w d x)
  | 0, x, hd => by
    refine Evt.now fun K => ?_
    rw [impl_isTrivial.l0, if_neg (by omega)]
    rfl
  | d + 1, x, hd => by
    have hx : x < n := by omega
    have hd2 : x + 1 + d = n := by omega
    have ei : wrap64 ((x : Int) + 1) = ((x + 1 : Nat) : Int) := w64n (x + 1) (by omega)
    have f1 : (x : Int) < (n : Int) := Int.ofNat_lt.2 hx
    unfold trivB
    refine Evt.bind1 (actWord_ev hn hG hl w hw hwl (x : Int) (Int.natCast_nonneg x) f1) (h := fun K t => if t = (x : Int) then impl_isTrivial.l0 K G w (n : Int) ((x + 1 : Nat) : Int) else some false) ?_ fun K => ?_
    · by_cases c : actW G w (x : Int) = (x : Int)
      · rw [decide_eq_true c, Bool.true_and]
        exact Evt.same (isTrivial_l0 hn hG hl w hw hwl d (x + 1) hd2) fun K => if_pos c
      · rw [decide_eq_false c, Bool.false_and]
        exact Evt.const fun K => if_neg c
    · rw [impl_isTrivial.l0, if_pos f1, ei]
theorem isTrivial_ev {n : Nat} (hn : n ≤ 8) {G : List (List Int)} (hG : ∀ g ∈ G, PermN n g) (hl : G.length ≤ 1048576) (w : List Int) (hw : ∀ a ∈ w, LetterIn G a) (hwl : w.length ≤ 1048576) :
    Evt (fun K => impl_isTrivial.f K (n : Int) G w) (trivB G w n 0) := isTrivial_l0 hn hG hl w hw hwl n 0 (Nat.zero_add _)

theorem rdSet (l : List Int) (p q : Nat) (h : p < l.length) (v : Int) : rd (l.set p v) (q : Int) = if q = p then v else rd l (q : Int) := by
  unfold rd
  rw [Int.toNat_natCast, List.getD_eq_getElem?_getD, List.getD_eq_getElem?_getD]
  by_cases e : p = q
  · subst e
    rw [if_pos rfl, List.getElem?_set_self h]
    rfl
  · rw [if_neg (Ne.symm e), List.getElem?_set_ne e]
/-- The first entries stand in order. -/
def SortedTo (i : Nat) (x : List Int) : Prop := ∀ a b : Nat, a < b → b < i → rd x (a : Int) ≤ rd x (b : Int)
theorem less_eq (a b : Int) : cmp_Less_int64.f a b = some (decide (a < b)) := by
  unfold cmp_Less_int64.f cmp_isNaN_int64.f
  simp
theorem sort_l1 (L i : Nat) (hL : L ≤ 1000) (hi : i < L) (Q : List Int → Prop) : ∀ (j : Nat) (x : List Int), j ≤ i → x.length = L → (∀ a b : Nat, a < b → b ≤ i → b ≠ j → rd x (a : Int) ≤ rd x (b : Int)) →
    (∀ x' : List Int, x'.Perm x → SortedTo (i + 1) x' → ∃ r, Evt (fun K => slices_insertionSortOrdered_int64.l0 K x' 0 (L : Int) ((i + 1 : Nat) : Int)) r ∧ Q r) →
    ∃ r, Evt (fun K => slices_insertionSortOrdered_int64.l1 K x 0 (L : Int) (i : Int) (j : Int)) r ∧ Q r
  | 0, x, hj, hx, hs, hk => by
    obtain ⟨r, h1, h2⟩ := hk x (List.Perm.refl _) (fun a b hab hb => hs a b hab (by omega) (by omega))
    have e2 : wrap64 ((i : Int) + 1) = ((i + 1 : Nat) : Int) := w64n (i + 1) (by omega)
    refine ⟨r, Evt.step h1 fun K => ?_, h2⟩
    rw [slices_insertionSortOrdered_int64.l1, if_neg (by simp), e2]
  | j + 1, x, hj, hx, hs, hk => by
    have e2 : wrap64 ((i : Int) + 1) = ((i + 1 : Nat) : Int) := w64n (i + 1) (by omega)
    have e1 : wrap64 (((j + 1 : Nat) : Int) - 1) = (j : Int) := by rw [show ((j + 1 : Nat) : Int) - 1 = (j : Int) by omega]; exact w64n j (by omega)
    have hf : ∀ K, slices_insertionSortOrdered_int64.l1 (K + 1) x 0 (L : Int) (i : Int) ((j + 1 : Nat) : Int) = (if rd x ((j + 1 : Nat) : Int) < rd x (j : Int) then slices_insertionSortOrdered_int64.l1 K ((x.set (j + 1) (rd x (j : Int))).set j (rd x ((j + 1 : Nat) : Int))) 0 (L : Int) (i : Int) (j : Int) else slices_insertionSortOrdered_int64.l0 K x 0 (L : Int) ((i + 1 : Nat) : Int)) := by
      intro K
      rw [slices_insertionSortOrdered_int64.l1, if_pos (by omega), if_pos (by omega), if_pos (by omega), e1, if_pos (by omega), if_pos (by omega), less_eq, Option.bind_some, e2, Int.toNat_natCast, Int.toNat_natCast]
      by_cases c : rd x ((j + 1 : Nat) : Int) < rd x (j : Int)
      · rw [if_pos c, if_pos (decide_eq_true c)]
      · rw [if_neg c, if_neg (by simpa using c)]
    by_cases c : rd x ((j + 1 : Nat) : Int) < rd x (j : Int)
    · have hp : ((x.set (j + 1) (rd x (j : Int))).set j (rd x ((j + 1 : Nat) : Int))).Perm x := by
        rw [rd_nat x j (by omega), rd_nat x (j + 1) (by omega)]
        exact List.set_set_perm (by omega) (by omega)
      have hv : ∀ q : Nat, rd ((x.set (j + 1) (rd x (j : Int))).set j (rd x ((j + 1 : Nat) : Int))) (q : Int) = if q = j then rd x ((j + 1 : Nat) : Int) else if q = j + 1 then rd x (j : Int) else rd x (q : Int) := by
        intro q
        rw [rdSet _ j q (by simp; omega), rdSet x (j + 1) q (by omega)]
      obtain ⟨r, h1, h2⟩ := sort_l1 L i hL hi Q j _ (by omega) (by simp [hx]) (fun a b hab hb hne => by
        rw [hv a, hv b, if_neg hne]
        by_cases b1 : b = j + 1
        · rw [if_pos b1]
          by_cases a1 : a = j
          · rw [if_pos a1]
            omega
          · rw [if_neg a1, if_neg (by omega)]
            exact hs a j (by omega) (by omega) (by omega)
        · rw [if_neg b1]
          have h3 := hs a b hab hb b1
          by_cases a1 : a = j
          · rw [if_pos a1]
            exact hs (j + 1) b (by omega) hb b1
          · rw [if_neg a1]
            by_cases a2 : a = j + 1
            · rw [if_pos a2]
              exact hs j b (by omega) hb b1
            · rw [if_neg a2]
              exact h3) (fun x' hx' hs' => hk x' (hx'.trans hp) hs')
      exact ⟨r, Evt.step h1 fun K => by rw [hf, if_pos c], h2⟩
    · obtain ⟨r, h1, h2⟩ := hk x (List.Perm.refl _) (fun a b hab hb => by
        by_cases b1 : b = j + 1
        · subst b1
          by_cases a1 : a = j
          · subst a1
            omega
          · have := hs a j (by omega) (by omega) (by omega)
            omega
        · exact hs a b hab (by omega) b1)
      exact ⟨r, Evt.step h1 fun K => by rw [hf, if_neg c], h2⟩
theorem sort_l0 (L : Nat) (hL : L ≤ 1000) : ∀ (d i : Nat) (x : List Int), i + d = L → x.length = L → SortedTo i x →
    ∃ r, Evt (fun K => slices_insertionSortOrdered_int64.l0 K x 0 (L : Int) (i : Int)) r ∧ r.Perm x ∧ SortedTo L r
  | 0, i, x, hd, hx, hs => by
    refine ⟨x, Evt.now fun K => ?_, List.Perm.refl _, by rw [← hd]; exact hs⟩
    rw [slices_insertionSortOrdered_int64.l0, if_neg (by omega)]
  | d + 1, i, x, hd, hx, hs => by
    obtain ⟨r, h1, h2⟩ := sort_l1 L i hL (by omega) (fun r => r.Perm x ∧ SortedTo L r) i x (Nat.le_refl _) hx (fun a b hab hb hne => hs a b hab (by omega)) (fun x' hp hs' => by
      obtain ⟨r, g1, g2, g3⟩ := sort_l0 L hL d (i + 1) x' (by omega) (by rw [hp.length_eq, hx]) hs'
      exact ⟨r, g1, g2.trans hp, g3⟩)
    refine ⟨r, Evt.step h1 fun K => ?_, h2⟩
    rw [slices_insertionSortOrdered_int64.l0, if_pos (by omega)]
theorem sort_ev (l : List Int) (hl : l.length ≤ 12) : ∃ r, Evt (fun K => slices_Sort_int64_int64.f K l) r ∧ r.Perm l ∧ SortedTo l.length r := by
  have e01 : wrap64 (0 + 1) = ((1 : Nat) : Int) := w64n 1 (by omega)
  by_cases c : l.length = 0
  · refine ⟨l, Evt.now fun K => ?_, List.Perm.refl _, fun a b _ hb => by omega⟩
    unfold slices_Sort_int64_int64.f slices_insertionSortOrdered_int64.f
    rw [if_pos hl, slices_insertionSortOrdered_int64.l0, if_neg (by rw [c, e01]; omega)]
  · obtain ⟨r, h1, h2⟩ := sort_l0 l.length (by omega) (l.length - 1) 1 l (by omega) rfl (fun a b h1 h2 => by omega)
    refine ⟨r, Evt.same h1 fun K => ?_, h2⟩
    unfold slices_Sort_int64_int64.f slices_insertionSortOrdered_int64.f
    rw [if_pos hl, e01]

/-- The images of a point. -/
def candI (G : List (List Int)) (y : Int) : List Int := G.map fun g => rd g y
theorem candI_in {n : Nat} {G : List (List Int)} (hG : ∀ g ∈ G, PermN n g) (y : Int) (h0 : 0 ≤ y) (h1 : y < n) : InN n (candI G y) := by
  intro x hx
  obtain ⟨g, hg, rfl⟩ := List.mem_map.1 hx
  exact (hG g hg).at h0 h1
theorem orb_l2 {n : Nat} (hn : n ≤ 8) {G : List (List Int)} (hG : ∀ g ∈ G, PermN n g) (hl : G.length ≤ 1048576) (out : List (List Int)) (o : List Int) (X x : Int) (i : Nat) (y : Int) (h0 : 0 ≤ y) (h1 : y < n) (r : List (List Int)) :
    ∀ (d j : Nat) (q : List Int), j + d = G.length → i < q.length → rd q (i : Int) = y → Good n o q →
      Evt (fun K => impl_orbits.l1 K G out (mkB n (o ++ ((G.drop j).map fun g => rd g y).foldl (pushO o) q)) (((G.drop j).map fun g => rd g y).foldl (pushO o) q) ((i + 1 : Nat) : Int) X x) r →
      Evt (fun K => impl_orbits.l2 K G out (mkB n (o ++ q)) q (i : Int) X x G (G.length : Int) (j : Int)) r
  | 0, j, q, hd, hi, hy, hg, h => by
    rw [List.drop_of_length_le (by omega)] at h
    refine Evt.step h fun K => ?_
    have hq := hg.len
    have ei : wrap64 ((i : Int) + 1) = ((i + 1 : Nat) : Int) := w64n (i + 1) (by omega)
    rw [impl_orbits.l2, if_neg (by omega), ei]
    rfl
  | d + 1, j, q, hd, hi, hy, hg, h => by
    have hq := hg.len
    have hj : j < G.length := by omega
    have hd2 : (j + 1) + d = G.length := by omega
    have ej : wrap64 ((j : Int) + 1) = ((j + 1 : Nat) : Int) := w64n (j + 1) (by omega)
    have f1 : (j : Int) < (G.length : Int) := Int.ofNat_lt.2 hj
    have f2 : (0 : Int) ≤ (j : Int) := Int.natCast_nonneg j
    have f3 : (0 : Int) ≤ (i : Int) := Int.natCast_nonneg i
    have f4 : (i : Int) < (q.length : Int) := Int.ofNat_lt.2 hi
    have f7 : q.length < 17592186044416 := Nat.lt_of_le_of_lt (Nat.le_trans hq hn) (by decide)
    have hm := rdL1_mem G j hj
    obtain ⟨g, hge⟩ : ∃ g, g = rd_L1 G (j : Int) := ⟨_, rfl⟩
    rw [drop_rdL1 G j hj, ← hge, List.map_cons, List.foldl_cons] at h
    rw [← hge] at hm
    have hp := hG g hm
    have hc := hp.at h0 h1
    have f5 : y < (g.length : Int) := by rw [hp.1]; exact h1
    obtain ⟨c, hce⟩ : ∃ c, c = rd g y := ⟨_, rfl⟩
    rw [← hce] at h hc
    have f6 : c < ((mkB n (o ++ q)).length : Int) := by rw [mkB_length]; exact hc.2
    obtain ⟨t, ht⟩ := pushO_pre o q c
    have hi2 : i < (pushO o q c).length := by rw [ht, List.length_append]; exact Nat.lt_of_lt_of_le hi (Nat.le_add_right _ _)
    have ih := orb_l2 hn hG hl out o X x i y h0 h1 r d (j + 1) (pushO o q c) hd2 hi2 (by rw [ht, rd_pre q t i hi, hy]) (hg.push hc.1 hc.2) h
    refine Evt.step ih fun K => ?_
    clear ih h
    rw [impl_orbits.l2, if_pos f1, if_pos f2, if_pos f1, if_pos f3, if_pos f4, hy, ← hge, if_pos h0, if_pos f5, ← hce, if_pos hc.1, if_pos f6, rdB n _ c hc.1 hc.2, ej]
    by_cases e : c ∈ o ++ q
    · have e1 : pushO o q c = q := if_pos e
      rw [e1, if_pos (decide_eq_true e)]
    · have e1 : pushO o q c = q ++ [c] := if_neg e
      rw [e1, if_neg (by simpa using e), if_pos f7, mkB_set n _ c hc.1, List.append_assoc]
theorem orb_l1 {n : Nat} (hn : n ≤ 8) {G : List (List Int)} (hG : ∀ g ∈ G, PermN n g) (hl : G.length ≤ 1048576) (out : List (List Int)) (o : List Int) (X x : Int) (r : List (List Int)) :
    ∀ (d i : Nat) (q : List Int), Good n o q → i ≤ q.length → n < d + i →
      Evt (fun K => (slices_Sort_int64_int64.f K (bfsO o (candI G) d i q)).bind fun t => if out.length < 5864062014805 then impl_orbits.l0 K G (out ++ [t]) (mkB n (o ++ bfsO o (candI G) d i q)) X (wrap64 (x + 1)) else none) r →
      Evt (fun K => impl_orbits.l1 K G out (mkB n (o ++ q)) q (i : Int) X x) r
  | 0, i, q, hg, hi, hd, _ => by
    have := hg.len
    omega
  | d + 1, i, q, hg, hi, hd, h => by
    unfold bfsO at h
    by_cases c : i < q.length
    · rw [if_pos c] at h
      have hy := hg.right.2 _ (rd_in q (i : Int) (by omega) (by omega))
      obtain ⟨g1, ⟨t, g2⟩, g3, g4⟩ := foldO (n := n) (o := o) (candI G (rd q (i : Int))) q hg (candI_in hG _ hy.1 hy.2)
      have ih := orb_l1 hn hG hl out o X x r d (i + 1) _ g1 (by rw [g2]; simp; omega) (by omega) h
      have h2 := orb_l2 hn hG hl out o X x i (rd q (i : Int)) hy.1 hy.2 r G.length 0 q (by omega) c rfl hg ih
      refine Evt.step h2 fun K => ?_
      rw [impl_orbits.l1, if_pos (by omega)]
      rfl
    · rw [if_neg c] at h
      refine Evt.step h fun K => ?_
      rw [impl_orbits.l1, if_neg (by omega)]
/-- The orbits that are found from x on, each in the order in which it was found. -/
def orbL (n : Nat) (G : List (List Int)) : Nat → Nat → List Int → List (List Int)
  | 0, _, _ => []
  | d + 1, x, o => if (x : Int) ∈ o then orbL n G d (x + 1) o else bfsO o (candI G) (n + 1) 0 [(x : Int)] :: orbL n G d (x + 1) (o ++ bfsO o (candI G) (n + 1) 0 [(x : Int)])
/-- The same lists, each sorted. -/
def Like : List (List Int) → List (List Int) → Prop
  | [], [] => True
  | a :: s, b :: t => (a.Perm b ∧ SortedTo b.length a) ∧ Like s t
  | _, _ => False
theorem Like.len : ∀ {s t : List (List Int)}, Like s t → s.length = t.length
  | [], [], _ => rfl
  | _ :: s, _ :: t, h => by rw [List.length_cons, List.length_cons, Like.len h.2]
  | [], _ :: _, h => h.elim
  | _ :: _, [], h => h.elim
theorem good_one {n : Nat} {o : List Int} (hg : Good n o []) {x : Int} (h0 : 0 ≤ x) (h1 : x < n) (c : x ∉ o) : Good n o [x] := by
  have := hg.push (c := x) h0 h1
  unfold pushO at this
  rw [List.append_nil, if_neg c] at this
  exact this
theorem orb_l0 {n : Nat} (hn : n ≤ 8) {G : List (List Int)} (hG : ∀ g ∈ G, PermN n g) (hl : G.length ≤ 1048576) :
    ∀ (d x : Nat) (o : List Int) (out : List (List Int)), x + d = n → Good n o [] → out.length ≤ x →
      ∃ more, Evt (fun K => impl_orbits.l0 K G out (mkB n o) (n : Int) (x : Int)) (out ++ more) ∧ Like more (orbL n G d x o)
  | 0, x, o, out, hd, hg, ho => by
    refine ⟨[], Evt.now fun K => ?_, trivial⟩
    rw [impl_orbits.l0, if_neg (by omega), List.append_nil]
  | d + 1, x, o, out, hd, hg, ho => by
    have hxn : (x : Int) < (n : Int) := by omega
    have ho2 : out.length < 5864062014805 := Nat.lt_of_le_of_lt (show out.length ≤ 8 by omega) (by decide)
    have ex : wrap64 ((x : Int) + 1) = ((x + 1 : Nat) : Int) := w64n (x + 1) (by omega)
    have hf : ∀ K, impl_orbits.l0 (K + 1) G out (mkB n o) (n : Int) (x : Int) = (if (x : Int) ∈ o then impl_orbits.l0 K G out (mkB n o) (n : Int) ((x + 1 : Nat) : Int) else impl_orbits.l1 K G out (mkB n (o ++ [(x : Int)])) [(x : Int)] 0 (n : Int) (x : Int)) := by
      intro K
      rw [impl_orbits.l0, if_pos hxn, if_pos (Int.natCast_nonneg x), if_pos (by rw [mkB_length]; exact hxn), rdB n o (x : Int) (Int.natCast_nonneg x) hxn, ex, mkB_set n o (x : Int) (Int.natCast_nonneg x)]
      by_cases c : (x : Int) ∈ o
      · rw [if_pos c, if_pos (decide_eq_true c)]
      · rw [if_neg c, if_neg (by simpa using c)]
    have hd2 : x + 1 + d = n := by omega
    unfold orbL
    by_cases c : (x : Int) ∈ o
    · obtain ⟨more, h1, h2⟩ := orb_l0 hn hG hl d (x + 1) o out hd2 hg (Nat.le_succ_of_le ho)
      rw [if_pos c]
      exact ⟨more, Evt.step h1 fun K => by rw [hf, if_pos c], h2⟩
    · have hg1 := good_one hg (Int.natCast_nonneg x) hxn c
      obtain ⟨g1, g2, _, _⟩ := bfsO_facts (n := n) (o := o) (cand := candI G) (fun y h0 h1 => candI_in hG y h0 h1) (n + 1) 0 [(x : Int)] hg1 (Nat.zero_le _) (by clear ex hf; omega) (fun j hj => absurd hj (Nat.not_lt_zero j))
      obtain ⟨s, s1, s2, s3⟩ := sort_ev (bfsO o (candI G) (n + 1) 0 [(x : Int)]) (Nat.le_trans g1.len (Nat.le_trans hn (by decide)))
      obtain ⟨more, h1, h2⟩ := orb_l0 hn hG hl d (x + 1) (o ++ bfsO o (candI G) (n + 1) 0 [(x : Int)]) (out ++ [s]) hd2 (by unfold Good; rw [List.append_nil]; exact g1) (by rw [List.length_append]; exact Nat.succ_le_succ ho)
      rw [if_neg c]
      refine ⟨s :: more, ?_, ⟨s2, s3⟩, h2⟩
      have h3 := orb_l1 hn hG hl out o (n : Int) (x : Int) (out ++ s :: more) (n + 1) 0 [(x : Int)] hg1 (Nat.zero_le _) (by clear ex hf; omega) (Evt.bind s1 (h := fun K t => if out.length < 5864062014805 then impl_orbits.l0 K G (out ++ [t]) (mkB n (o ++ bfsO o (candI G) (n + 1) 0 [(x : Int)])) (n : Int) (wrap64 ((x : Int) + 1)) else none) (by
        rw [List.append_assoc, List.singleton_append] at h1
        exact Evt.same h1 fun K => by rw [if_pos ho2, ex]) fun _ => rfl)
      exact Evt.step h3 fun K => by rw [hf, if_neg c]; rfl
theorem orbits_ev {n : Nat} (hn : n ≤ 8) {G : List (List Int)} (hG : ∀ g ∈ G, PermN n g) (hl : G.length ≤ 1048576) : ∃ r, Evt (fun K => impl_orbits.f K (n : Int) G) r ∧ Like r (orbL n G n 0 []) := by
  obtain ⟨r, h1, h2⟩ := orb_l0 hn hG hl n 0 [] [] (by omega) ⟨by simp, fun x hx => absurd hx (by simp)⟩ (Nat.le_refl _)
  refine ⟨r, Evt.same h1 fun K => ?_, h2⟩
  unfold impl_orbits.f
  rw [if_pos (Int.natCast_nonneg n), Int.toNat_natCast, if_pos (Nat.le_trans hn (by decide)), mkB_nil]
  rfl

/-- The test of a permutation, entry by entry. -/
def goP (n len : Nat) : List Int → List Int → Bool
  | _, [] => decide (len = n)
  | q, x :: t => if 0 ≤ x ∧ x ≤ (n : Int) - 1 then (if x ∈ q then false else goP n len (q ++ [x]) t) else false
theorem goP_true (n len : Nat) : ∀ (t q : List Int), goP n len q t = true → q.Nodup → InN n q → (q ++ t).Nodup ∧ InN n (q ++ t) ∧ len = n
  | [], q, h, h1, h2 => by
    rw [List.append_nil]
    exact ⟨h1, h2, of_decide_eq_true h⟩
  | x :: t, q, h, h1, h2 => by
    unfold goP at h
    by_cases c : 0 ≤ x ∧ x ≤ (n : Int) - 1
    · rw [if_pos c] at h
      by_cases e : x ∈ q
      · rw [if_pos e] at h
        exact absurd h (by simp)
      · rw [if_neg e] at h
        have := goP_true n len t (q ++ [x]) h (List.nodup_append.2 ⟨h1, by simp, fun a ha b hb e2 => by
          rw [List.mem_singleton] at hb
          exact e (hb ▸ e2 ▸ ha)⟩) (fun y hy => by
          rw [List.mem_append, List.mem_singleton] at hy
          rcases hy with hy | rfl
          · exact h2 y hy
          · omega)
        rwa [List.append_assoc] at this
    · rw [if_neg c] at h
      exact absurd h (by simp)
theorem permN_of {n : Nat} {g : List Int} (h : goP n g.length [] g = true) : PermN n g := by
  obtain ⟨h1, h2, h3⟩ := goP_true n g.length g [] h (by simp) (fun x hx => absurd hx (by simp))
  exact ⟨h3, h1, h2⟩

theorem rdL1_map (φ : List Int → List Int) (G : List (List Int)) (j : Nat) (h : j < G.length) : rd_L1 (G.map φ) (j : Int) = φ (rd_L1 G (j : Int)) := by
  simp only [rd_L1, Int.toNat_natCast]
  rw [List.getD_eq_getElem?_getD, List.getD_eq_getElem?_getD, List.getElem?_map, List.getElem?_eq_getElem h]
  rfl
theorem actW_map {n : Nat} (φ : List Int → List Int) (e : Int → Int) {G : List (List Int)} (hG : ∀ p ∈ G, PermN n p) (hφ : ∀ p ∈ G, ∀ x : Int, 0 ≤ x → x < n → rd (φ p) (e x) = e (rd p x) ∧ invI (φ p) (e x) = e (invI p x)) : ∀ (w : List Int) (x : Int), (∀ a ∈ w, LetterIn G a) → 0 ≤ x → x < n → actW (G.map φ) w (e x) = e (actW G w x)
  | [], x, _, _, _ => rfl
  | a :: w, x, hw, h0, h1 => by
    have ha := hw a List.mem_cons_self
    have hin := actL_in hG ha h0 h1
    have e1 : actL (G.map φ) a (e x) = e (actL G a x) := by
      obtain ⟨j, hj, rfl | rfl⟩ := ha.cases
      · rw [actL_pos, actL_pos, rdL1_map φ G j hj]
        exact (hφ _ (rdL1_mem G j hj) x h0 h1).1
      · rw [actL_neg, actL_neg, rdL1_map φ G j hj]
        exact (hφ _ (rdL1_mem G j hj) x h0 h1).2
    show actW (G.map φ) w (actL (G.map φ) a (e x)) = e (actW G w (actL G a x))
    rw [e1]
    exact actW_map φ e hG hφ w _ (fun b hb => hw b (List.mem_cons_of_mem _ hb)) hin.1 hin.2
theorem actW_fix {G : List (List Int)} {i : Int} (hG : ∀ p ∈ G, rd p i = i ∧ invI p i = i) : ∀ (w : List Int), (∀ a ∈ w, LetterIn G a) → actW G w i = i
  | [], _ => rfl
  | a :: w, hw => by
    have e1 : actL G a i = i := by
      obtain ⟨j, hj, rfl | rfl⟩ := (hw a List.mem_cons_self).cases
      · rw [actL_pos]
        exact (hG _ (rdL1_mem G j hj)).1
      · rw [actL_neg]
        exact (hG _ (rdL1_mem G j hj)).2
    show actW G w (actL G a i) = i
    rw [e1]
    exact actW_fix hG w fun b hb => hw b (List.mem_cons_of_mem _ hb)
def ej (x : Int) : Int := if x = 0 then 1 else if x = 1 then 0 else x
def cj (p : List Int) : List Int := [ej (rd p 1), ej (rd p 0), ej (rd p 2)]
def em0 (p : List Int) : List Int := [0, 1 + rd p 0, 1 + rd p 1]
def em1 (p : List Int) : List Int := [2 * rd p 0, 1, 2 * rd p 1]
def em2 (p : List Int) : List Int := [rd p 0, rd p 1, 2]
def A2 : List (List Int) := [[0, 1], [1, 0]]
def A3 : List (List Int) := [[0, 1, 2], [0, 2, 1], [1, 0, 2], [1, 2, 0], [2, 0, 1], [2, 1, 0]]
theorem cj_ok : (A3.all fun p => [0, 1, 2].all fun x => decide (rd (cj p) (ej x) = ej (rd p x) ∧ invI (cj p) (ej x) = ej (invI p x))) = true := by decide +kernel
theorem em0_ok : (A2.all fun p => decide (rd (em0 p) 0 = 0 ∧ invI (em0 p) 0 = 0) && [0, 1].all fun x => decide (rd (em0 p) (1 + x) = 1 + rd p x ∧ invI (em0 p) (1 + x) = 1 + invI p x)) = true := by decide +kernel
theorem em1_ok : (A2.all fun p => decide (rd (em1 p) 1 = 1 ∧ invI (em1 p) 1 = 1) && [0, 1].all fun x => decide (rd (em1 p) (2 * x) = 2 * rd p x ∧ invI (em1 p) (2 * x) = 2 * invI p x)) = true := by decide +kernel
theorem em2_ok : (A2.all fun p => decide (rd (em2 p) 2 = 2 ∧ invI (em2 p) 2 = 2) && [0, 1].all fun x => decide (rd (em2 p) x = rd p x ∧ invI (em2 p) x = invI p x)) = true := by decide +kernel
theorem A2_perm : ∀ p ∈ A2, PermN 2 p := fun p hp => permN_of (List.all_eq_true.1 (by decide +kernel : (A2.all fun l => goP 2 l.length [] l) = true) p hp)
theorem A3_perm : ∀ p ∈ A3, PermN 3 p := fun p hp => permN_of (List.all_eq_true.1 (by decide +kernel : (A3.all fun l => goP 3 l.length [] l) = true) p hp)
theorem in3 {x : Int} (h0 : 0 ≤ x) (h1 : x < (3 : Nat)) : x ∈ ([0, 1, 2] : List Int) := by
  have : x = 0 ∨ x = 1 ∨ x = 2 := by omega
  rcases this with rfl | rfl | rfl <;> simp
theorem in2 {x : Int} (h0 : 0 ≤ x) (h1 : x < (2 : Nat)) : x ∈ ([0, 1] : List Int) := by
  have : x = 0 ∨ x = 1 := by omega
  rcases this with rfl | rfl <;> simp
theorem triv3 (G : List (List Int)) (w : List Int) : trivB G w 3 0 = true ↔ actW G w 0 = 0 ∧ actW G w 1 = 1 ∧ actW G w 2 = 2 := by
  simp [trivB]
theorem triv2 (G : List (List Int)) (w : List Int) : trivB G w 2 0 = true ↔ actW G w 0 = 0 ∧ actW G w 1 = 1 := by
  simp [trivB]
theorem triv_cj {G : List (List Int)} (hG : ∀ p ∈ G, p ∈ A3) (w : List Int) (hw : ∀ a ∈ w, LetterIn G a) : trivB (G.map cj) w 3 0 = trivB G w 3 0 := by
  have hp : ∀ p ∈ G, PermN 3 p := fun p h => A3_perm p (hG p h)
  have h := fun (x : Int) h0 h1 => actW_map (n := 3) cj ej hp (fun p h x h0 h1 => of_decide_eq_true (List.all_eq_true.1 (List.all_eq_true.1 cj_ok p (hG p h)) x (in3 h0 h1))) w x hw h0 h1
  have h0 := h 0 (by omega) (by omega)
  have h1 := h 1 (by omega) (by omega)
  have h2 := h 2 (by omega) (by omega)
  have r0 := actW_in hp w 0 hw (by omega) (by omega)
  have r1 := actW_in hp w 1 hw (by omega) (by omega)
  have r2 := actW_in hp w 2 hw (by omega) (by omega)
  rw [show ej 0 = 1 from rfl] at h0
  rw [show ej 1 = 0 from rfl] at h1
  rw [show ej 2 = 2 from rfl] at h2
  rw [Bool.eq_iff_iff, triv3, triv3, h0, h1, h2]
  unfold ej
  constructor <;> intro h <;> refine ⟨?_, ?_, ?_⟩ <;> (try split at h) <;> (try split at h) <;> (try split at h) <;> (try split at h) <;> (try split at h) <;> (try split at h) <;> (try split) <;> (try split) <;> omega
theorem triv_em0 {G : List (List Int)} (hG : ∀ p ∈ G, p ∈ A2) (w : List Int) (hw : ∀ a ∈ w, LetterIn G a) : trivB (G.map em0) w 3 0 = trivB G w 2 0 := by
  have hp : ∀ p ∈ G, PermN 2 p := fun p h => A2_perm p (hG p h)
  have ok : ∀ p ∈ G, _ := fun p h => (Bool.and_eq_true _ _).mp (List.all_eq_true.1 em0_ok p (hG p h))
  have h := fun (x : Int) h0 h1 => actW_map (n := 2) em0 (fun x => 1 + x) hp (fun p h x h0 h1 => of_decide_eq_true (List.all_eq_true.1 (ok p h).2 x (in2 h0 h1))) w x hw h0 h1
  have hf := actW_fix (G := G.map em0) (i := 0) (fun p h => by
    obtain ⟨q, hq, rfl⟩ := List.mem_map.1 h
    exact of_decide_eq_true (ok q hq).1) w (fun a ha => by
    have := hw a ha
    unfold LetterIn at this ⊢
    rwa [List.length_map])
  have h0 := h 0 (by omega) (by omega)
  have h1 := h 1 (by omega) (by omega)
  try simp only at h0 h1
  rw [show (1 : Int) + 0 = 1 from rfl] at h0
  rw [show (1 : Int) + 1 = 2 from rfl] at h1
  rw [Bool.eq_iff_iff, triv3, triv2, h0, h1, hf]
  omega
theorem triv_em1 {G : List (List Int)} (hG : ∀ p ∈ G, p ∈ A2) (w : List Int) (hw : ∀ a ∈ w, LetterIn G a) : trivB (G.map em1) w 3 0 = trivB G w 2 0 := by
  have hp : ∀ p ∈ G, PermN 2 p := fun p h => A2_perm p (hG p h)
  have ok : ∀ p ∈ G, _ := fun p h => (Bool.and_eq_true _ _).mp (List.all_eq_true.1 em1_ok p (hG p h))
  have h := fun (x : Int) h0 h1 => actW_map (n := 2) em1 (fun x => 2 * x) hp (fun p h x h0 h1 => of_decide_eq_true (List.all_eq_true.1 (ok p h).2 x (in2 h0 h1))) w x hw h0 h1
  have hf := actW_fix (G := G.map em1) (i := 1) (fun p h => by
    obtain ⟨q, hq, rfl⟩ := List.mem_map.1 h
    exact of_decide_eq_true (ok q hq).1) w (fun a ha => by
    have := hw a ha
    unfold LetterIn at this ⊢
    rwa [List.length_map])
  have h0 := h 0 (by omega) (by omega)
  have h1 := h 1 (by omega) (by omega)
  try simp only at h0 h1
  rw [show (2 : Int) * 0 = 0 from rfl] at h0
  rw [show (2 : Int) * 1 = 2 from rfl] at h1
  rw [Bool.eq_iff_iff, triv3, triv2, h0, h1, hf]
  omega
theorem triv_em2 {G : List (List Int)} (hG : ∀ p ∈ G, p ∈ A2) (w : List Int) (hw : ∀ a ∈ w, LetterIn G a) : trivB (G.map em2) w 3 0 = trivB G w 2 0 := by
  have hp : ∀ p ∈ G, PermN 2 p := fun p h => A2_perm p (hG p h)
  have ok : ∀ p ∈ G, _ := fun p h => (Bool.and_eq_true _ _).mp (List.all_eq_true.1 em2_ok p (hG p h))
  have h := fun (x : Int) h0 h1 => actW_map (n := 2) em2 (fun x => x) hp (fun p h x h0 h1 => of_decide_eq_true (List.all_eq_true.1 (ok p h).2 x (in2 h0 h1))) w x hw h0 h1
  have hf := actW_fix (G := G.map em2) (i := 2) (fun p h => by
    obtain ⟨q, hq, rfl⟩ := List.mem_map.1 h
    exact of_decide_eq_true (ok q hq).1) w (fun a ha => by
    have := hw a ha
    unfold LetterIn at this ⊢
    rwa [List.length_map])
  have h0 := h 0 (by omega) (by omega)
  have h1 := h 1 (by omega) (by omega)
  try simp only at h0 h1
  rw [Bool.eq_iff_iff, triv3, triv2, h0, h1, hf]
  omega
def trT (n : Nat) (G : List (List Int)) : Bool := decide ((orbL n G n 0 []).length = 1)
/-- The first of two tuples that are conjugate. -/
def lexT : List Int → List Int → Bool
  | [], _ => false
  | _, [] => false
  | x :: a, y :: b => decide (x < y) || (decide (x = y) && lexT a b)
def N2 (g : Nat) : List (List (List Int)) := (tup A2 g).filter fun G => !decide (G = List.replicate g [0, 1])
def H3 (g : Nat) : List (List (List Int)) := (tup A3 g).filter fun G => trT 3 G && lexT G.flatten (G.map cj).flatten
def parts3 (g : Nat) : List (List (List Int)) := [List.replicate g [0, 1, 2]] ++ (N2 g).map (List.map em0) ++ (N2 g).map (List.map em1) ++ (N2 g).map (List.map em2) ++ H3 g ++ (H3 g).map (List.map cj)
def tabG (g : Nat) : Bool := decide ((tup A2 g).Perm ([List.replicate g [0, 1]] ++ N2 g)) && decide ((tup A3 g).Perm (parts3 g)) && ((N2 g).all fun G => trT 2 G && (!trT 3 (G.map em0) && (!trT 3 (G.map em1) && !trT 3 (G.map em2)))) && !trT 2 (List.replicate g [0, 1]) && !trT 3 (List.replicate g [0, 1, 2]) && ((H3 g).all fun G => trT 3 G && trT 3 (G.map cj))
theorem tabG_ok : ((List.range 4).all tabG) = true := by decide +kernel

theorem visP_count (vp : List (List Int) → Int → Bool × Int) (p : List (List Int) → Bool) : ∀ (L : List (List (List Int))) (s : Nat), s + L.length ≤ 1000000 → (∀ G ∈ L, ∀ s : Nat, s ≤ 1000000 → vp G (s : Int) = (true, if p G = true then wrap64 ((s : Int) + 1) else (s : Int))) → visP vp L (s : Int) = (true, ((s + (L.filter p).length : Nat) : Int))
  | [], s, _, _ => by simp [visP]
  | G :: L, s, hs, h => by
    rw [List.length_cons] at hs
    have hG := h G List.mem_cons_self s (by omega)
    have hL : ∀ G ∈ L, ∀ s : Nat, s ≤ 1000000 → vp G (s : Int) = (true, if p G = true then wrap64 ((s : Int) + 1) else (s : Int)) := fun x hx => h x (List.mem_cons_of_mem _ hx)
    rw [visP, hG, if_pos rfl, List.filter_cons]
    by_cases c : p G = true
    · have e : wrap64 ((s : Int) + 1) = ((s + 1 : Nat) : Int) := w64n (s + 1) (by omega)
      rw [if_pos c, if_pos c, e, visP_count vp p L (s + 1) (by omega) hL, List.length_cons]
      congr 2
      omega
    · rw [if_neg c, if_neg c]
      exact visP_count vp p L s (by omega) hL

/-- The tests of the places from m on hold. -/
def okT (n : Nat) (T : List (List (List Int))) : Nat → Nat → List (List Int) → Bool
  | m, 0, G => (T.getD m []).all fun w => trivB G w n 0
  | m, d + 1, G => ((T.getD m []).all fun w => trivB G w n 0) && okT n T (m + 1) d G
theorem anyO_trivQ {n : Nat} (hn : n ≤ 8) {G : List (List Int)} (hG : ∀ g ∈ G, PermN n g) (hl : G.length ≤ 1048576) : ∀ (R : List (List Int)), (∀ w ∈ R, ∀ b ∈ w, LetterIn G b) → (∀ w ∈ R, w.length ≤ 1048576) → Evt (fun K => anyO (trivQ K (n : Int) G) R) (!(R.all fun w => trivB G w n 0))
  | [], _, _ => Evt.const fun _ => rfl
  | w :: R, hw, hwl => by
    have h := isTrivial_ev hn hG hl w (hw w List.mem_cons_self) (hwl w List.mem_cons_self)
    have hq : Evt (fun K => trivQ K (n : Int) G w) (!(trivB G w n 0)) := Evt.bind h (h := fun _ b => some (!b)) (Evt.const fun _ => rfl) fun _ => rfl
    rw [List.all_cons]
    refine Evt.bind hq (h := fun K b => if b = true then some true else anyO (trivQ K (n : Int) G) R) ?_ fun _ => rfl
    by_cases c : trivB G w n 0 = true
    · rw [c, Bool.true_and]
      exact Evt.same (anyO_trivQ hn hG hl R (fun x hx => hw x (List.mem_cons_of_mem _ hx)) fun x hx => hwl x (List.mem_cons_of_mem _ hx)) fun K => if_neg (by simp)
    · rw [Bool.not_eq_true] at c
      rw [c, Bool.false_and]
      exact Evt.const fun K => if_pos rfl
theorem rdL1_app (G t : List (List Int)) (j : Nat) (h : j < G.length) : rd_L1 (G ++ t) (j : Int) = rd_L1 G (j : Int) := by
  simp only [rd_L1, Int.toNat_natCast]
  rw [List.getD_eq_getElem?_getD, List.getD_eq_getElem?_getD, List.getElem?_append_left h]
theorem actL_app (G t : List (List Int)) (a x : Int) (h : LetterIn G a) : actL (G ++ t) a x = actL G a x := by
  obtain ⟨j, hj, rfl | rfl⟩ := h.cases
  · rw [actL_pos, actL_pos, rdL1_app G t j hj]
  · rw [actL_neg, actL_neg, rdL1_app G t j hj]
theorem actW_app (G t : List (List Int)) : ∀ (w : List Int) (x : Int), (∀ a ∈ w, LetterIn G a) → actW (G ++ t) w x = actW G w x
  | [], x, _ => rfl
  | a :: w, x, h => by
    show actW (G ++ t) w (actL (G ++ t) a x) = actW G w (actL G a x)
    rw [actL_app G t a x (h a List.mem_cons_self)]
    exact actW_app G t w _ fun b hb => h b (List.mem_cons_of_mem _ hb)
theorem trivB_app (G t : List (List Int)) (w : List Int) (h : ∀ a ∈ w, LetterIn G a) : ∀ d x, trivB (G ++ t) w d x = trivB G w d x
  | 0, _ => rfl
  | d + 1, x => by rw [trivB, trivB, actW_app G t w _ h, trivB_app G t w h d]
theorem all_app (G t : List (List Int)) (n : Nat) : ∀ (R : List (List Int)), (∀ w ∈ R, ∀ a ∈ w, LetterIn G a) → (R.all fun w => trivB (G ++ t) w n 0) = R.all fun w => trivB G w n 0
  | [], _ => rfl
  | w :: R, h => by rw [List.all_cons, List.all_cons, trivB_app G t w (h w List.mem_cons_self), all_app G t n R fun x hx => h x (List.mem_cons_of_mem _ hx)]
theorem filter_none {α : Type} {p : α → Bool} : ∀ (l : List α), (∀ x ∈ l, p x = false) → l.filter p = []
  | [], _ => rfl
  | x :: l, h => by rw [List.filter_cons, if_neg (by rw [h x List.mem_cons_self]; simp), filter_none l fun y hy => h y (List.mem_cons_of_mem _ hy)]
/-- The search shows the visitor those tuples for which all tests hold. -/
theorem growEv {σ : Type} {n g : Nat} (hn : n ≤ 8) (hg : g ≤ 24) (T : List (List (List Int))) (hT : ∀ m w, w ∈ T.getD m [] → (∀ a ∈ w, a ≠ 0 ∧ -(m : Int) ≤ a ∧ a ≤ m) ∧ w.length ≤ 1048576) (all : List (List Int)) (hall : ∀ l ∈ all, PermN n l)
    (vis : Nat → List (List Int) → σ → Option (Bool × σ)) (vp : List (List Int) → σ → Bool × σ) (hv : ∀ G, G.length = g → (∀ l ∈ G, PermN n l) → ∀ s, Evt (fun K => vis K G s) (vp G s)) :
    ∀ (d : Nat) (images : List (List Int)) (s : σ), images.length + d = g → (∀ l ∈ images, PermN n l) → Evt (fun K => growG K (n : Int) T all (vis K) d images s) (visP vp (((tup all d).map (images ++ ·)).filter (okT n T images.length d)) s)
  | 0, images, s, hd, hi => by
    have hw : ∀ w ∈ T.getD images.length [], ∀ b ∈ w, LetterIn images b := fun w hw b hb => (hT _ w hw).1 b hb
    have ha := anyO_trivQ hn hi (by omega) (T.getD images.length []) hw (fun w hw => (hT _ w hw).2)
    refine Evt.bind ha (h := fun K b => if b = true then some (true, s) else vis K images s) ?_ fun _ => rfl
    rw [tup, List.map_singleton, List.append_nil, List.filter_cons, List.filter_nil, okT]
    by_cases c : ((T.getD images.length []).all fun w => trivB images w n 0) = true
    · rw [c, if_pos rfl, visP_one]
      refine Evt.same (hv images (by omega) hi s) fun K => ?_
      rw [if_neg (by simp)]
    · rw [Bool.not_eq_true] at c
      rw [c]
      exact Evt.const fun K => rfl
  | d + 1, images, s, hd, hi => by
    have hw : ∀ w ∈ T.getD images.length [], ∀ b ∈ w, LetterIn images b := fun w hw b hb => (hT _ w hw).1 b hb
    have ha := anyO_trivQ hn hi (by omega) (T.getD images.length []) hw (fun w hw => (hT _ w hw).2)
    refine Evt.bind ha (h := fun K b => if b = true then some (true, s) else foldG (fun l s => growG K (n : Int) T all (vis K) d (images ++ [l]) s) all s) ?_ fun _ => rfl
    by_cases c : ((T.getD images.length []).all fun w => trivB images w n 0) = true
    · rw [c]
      have e : ∀ (l : List (List Int)), (∀ x ∈ l, PermN n x) → ∀ s, Evt (fun K => foldG (fun l s => growG K (n : Int) T all (vis K) d (images ++ [l]) s) l s) (visP vp (((l.flatMap fun x => (tup all d).map (x :: ·)).map (images ++ ·)).filter (okT n T images.length (d + 1))) s) := by
        intro l
        induction l with
        | nil => exact fun _ s => Evt.const fun _ => rfl
        | cons x l ih =>
          intro hx s
          have h1 := growEv hn hg T hT all hall vis vp hv d (images ++ [x]) s (by rw [List.length_append, List.length_singleton]; omega) (fun y hy => by
            rcases List.mem_append.1 hy with h | h
            · exact hi y h
            · rw [List.mem_singleton.1 h]
              exact hx x List.mem_cons_self)
          have e1 : (((tup all d).map (x :: ·)).map (images ++ ·)).filter (okT n T images.length (d + 1)) = ((tup all d).map ((images ++ [x]) ++ ·)).filter (okT n T (images ++ [x]).length d) := by
            rw [List.map_map, show ((images ++ ·) ∘ (x :: ·) : List (List Int) → List (List Int)) = fun t => (images ++ [x]) ++ t from funext fun t => by simp]
            refine List.filter_congr fun G hG => ?_
            obtain ⟨t, _, rfl⟩ := List.mem_map.1 hG
            rw [okT, List.append_assoc, all_app images ([x] ++ t) n _ hw, c, Bool.true_and, List.length_append, List.length_singleton]
          rw [List.flatMap_cons, List.map_append, List.filter_append, visP_append, e1]
          refine Evt.bind h1 (h := fun K r => if r.1 = true then foldG (fun l s => growG K (n : Int) T all (vis K) d (images ++ [l]) s) l r.2 else some (false, r.2)) ?_ fun _ => rfl
          by_cases c2 : (visP vp (((tup all d).map ((images ++ [x]) ++ ·)).filter (okT n T (images ++ [x]).length d)) s).1 = true
          · rw [if_pos c2]
            exact Evt.same (ih (fun y hy => hx y (List.mem_cons_of_mem _ hy)) _) fun K => if_pos c2
          · rw [if_neg c2]
            exact Evt.const fun K => if_neg c2
      refine Evt.same (e all hall s) fun K => ?_
      rw [if_neg (by simp)]
    · rw [Bool.not_eq_true] at c
      rw [c, filter_none]
      · exact Evt.const fun K => rfl
      · intro G hG
        obtain ⟨t, _, rfl⟩ := List.mem_map.1 hG
        rw [okT, all_app images t n _ hw, c, Bool.false_and]
/-! the tests -/
theorem lastN_mono : ∀ (x : List Int) (m : Nat), m ≤ lastN x m
  | [], m => Nat.le_refl _
  | a :: t, m => Nat.le_trans (Nat.le_max_left _ _) (lastN_mono t _)
theorem lastN_mem : ∀ (x : List Int) (m : Nat) (a : Int), a ∈ x → a.natAbs ≤ lastN x m
  | b :: t, m, a, h => by
    rcases List.mem_cons.1 h with rfl | h
    · exact Nat.le_trans (Nat.le_max_right _ _) (lastN_mono t _)
    · exact lastN_mem t _ a h
theorem testsN_mem : ∀ (R : List (List Int)) (T : List (List (List Int))), (∀ x ∈ R, lastN x 0 < T.length) → ∀ m w, w ∈ (testsN R T).getD m [] ↔ w ∈ T.getD m [] ∨ w ∈ R ∧ lastN w 0 = m
  | [], T, _, m, w => by simp [testsN]
  | x :: R, T, h, m, w => by
    have hx := h x List.mem_cons_self
    rw [testsN, testsN_mem R _ (fun y hy => by rw [List.length_set]; exact h y (List.mem_cons_of_mem _ hy)) m w, List.mem_cons, List.getD_eq_getElem?_getD, List.getElem?_set]
    by_cases c : lastN x 0 = m
    · rw [if_pos c, if_pos hx, Option.getD_some, List.mem_append, List.mem_singleton, c]
      constructor
      · rintro ((h | rfl) | h)
        · exact .inl h
        · exact .inr ⟨.inl rfl, c⟩
        · exact .inr ⟨.inr h.1, h.2⟩
      · rintro (h | ⟨rfl | h, h2⟩)
        · exact .inl (.inl h)
        · exact .inl (.inr rfl)
        · exact .inr ⟨h, h2⟩
    · rw [if_neg c, ← List.getD_eq_getElem?_getD]
      constructor
      · rintro (h | h)
        · exact .inl h
        · exact .inr ⟨.inr h.1, h.2⟩
      · rintro (h | ⟨rfl | h, h2⟩)
        · exact .inl h
        · exact absurd h2 c
        · exact .inr ⟨h, h2⟩
theorem okT_iff (n : Nat) (T : List (List (List Int))) (G : List (List Int)) : ∀ (d m : Nat), okT n T m d G = true ↔ ∀ j, m ≤ j → j ≤ m + d → ∀ w ∈ T.getD j [], trivB G w n 0 = true
  | 0, m => by
    rw [okT, List.all_eq_true]
    constructor
    · intro h j h1 h2
      obtain rfl : j = m := by omega
      exact h
    · exact fun h => h m (Nat.le_refl _) (Nat.le_refl _)
  | d + 1, m => by
    rw [okT, Bool.and_eq_true, List.all_eq_true, okT_iff n T G d (m + 1)]
    constructor
    · rintro ⟨h1, h2⟩ j h3 h4
      by_cases c : j = m
      · subst c
        exact h1
      · exact h2 j (by omega) (by omega)
    · exact fun h => ⟨h m (Nat.le_refl _) (by omega), fun j h1 h2 => h j (by omega) (by omega)⟩
/-- All representations, shown to a visitor. -/
theorem runEv {σ : Type} {n g : Nat} (h1 : 1 ≤ n) (h4 : n ≤ 4) (hg : g ≤ 24) (R : List (List Int)) (hR : R.length ≤ 48) (hRw : ∀ x ∈ R, ∀ a ∈ x, a ≠ 0 ∧ -(g : Int) ≤ a ∧ a ≤ g) (hRl : ∀ x ∈ R, x.length ≤ 1048576) (hall : ∀ l ∈ permsF n n [] [], PermN n l)
    (vis : Nat → List (List Int) → σ → Option (Bool × σ)) (vp : List (List Int) → σ → Bool × σ) (hv : ∀ G, G.length = g → (∀ l ∈ G, PermN n l) → ∀ s, Evt (fun K => vis K G s) (vp G s)) (s : σ) :
    Evt (fun K => repsRun K (g : Int) R (n : Int) (vis K) s) (visP vp ((tup (permsF n n [] []) g).filter fun G => R.all fun w => trivB G w n 0) s) := by
  have hok : okReps (g : Int) R (n : Int) := ⟨by omega, by omega, by omega, by omega, hR, fun x hx a ha => by have := hRw x hx a ha; omega⟩
  have hle : ∀ x ∈ R, lastN x 0 ≤ g := fun x hx => lastN_le g x 0 (Nat.zero_le _) fun a ha => by have := hRw x hx a ha; omega
  obtain ⟨T, hTd⟩ : ∃ T, T = testsN R (List.replicate (g + 1) []) := ⟨_, rfl⟩
  have hTm : ∀ m w, w ∈ T.getD m [] ↔ w ∈ R ∧ lastN w 0 = m := fun m w => by
    rw [hTd, testsN_mem R _ (fun x hx => by rw [List.length_replicate]; exact Nat.lt_succ_of_le (hle x hx)) m w]
    have : ¬ w ∈ (List.replicate (g + 1) ([] : List (List Int))).getD m [] := by
      rw [List.getD_eq_getElem?_getD, List.getElem?_replicate]
      split <;> simp
    exact ⟨fun h => h.resolve_left this, .inr⟩
  have h := growEv (by omega : n ≤ 8) hg T (fun m w hw => by
    have hm := (hTm m w).1 hw
    exact ⟨fun a ha => ⟨(hRw w hm.1 a ha).1, by have := lastN_mem w 0 a ha; omega, by have := lastN_mem w 0 a ha; omega⟩, hRl w hm.1⟩) (permsF n n [] []) hall vis vp hv g [] s (by simp) (by simp)
  have e : ((tup (permsF n n [] []) g).map (([] : List (List Int)) ++ ·)).filter (okT n T ([] : List (List Int)).length g) = (tup (permsF n n [] []) g).filter fun G => R.all fun w => trivB G w n 0 := by
    rw [show ((([] : List (List Int)) ++ ·) : List (List Int) → List (List Int)) = id from funext fun t => by simp, List.map_id]
    refine List.filter_congr fun G _ => ?_
    rw [Bool.eq_iff_iff, okT_iff, List.all_eq_true]
    constructor
    · exact fun h w hw => h (lastN w 0) (by simp) (by have := hle w hw; simpa using this) w ((hTm _ w).2 ⟨hw, rfl⟩)
    · exact fun h j _ _ w hw => h w ((hTm j w).1 hw).1
  rw [e] at h
  refine Evt.same h fun K => ?_
  unfold repsRun
  rw [if_pos hok, Int.toNat_natCast, Int.toNat_natCast, hTd]

/-- Is a list a word? -/
def letters (g : Int) (l : List Int) : Bool := l.all fun x => decide (x ≠ 0) && (decide (-g ≤ x) && decide (x ≤ g))
theorem letters_mem {g : Int} {w : List Int} (h : letters g w = true) : ∀ a ∈ w, a ≠ 0 ∧ -g ≤ a ∧ a ≤ g := by
  intro a ha
  have := List.all_eq_true.1 h a ha
  simpa using this

/-- One more letter behind a reduced word. -/
def redStep (out : List Int) (x : Int) : List Int :=
  if 0 < out.length ∧ rd out (((out.length - 1 : Nat) : Int)) = wrap64 (-x) then out.take (out.length - 1) else out ++ [x]
def redOf (l : List Int) : List Int := l.foldl redStep []
theorem redStep_length (out : List Int) (x : Int) : (redStep out x).length ≤ out.length + 1 := by
  unfold redStep
  split
  · simp; omega
  · simp
theorem foldl_length : ∀ (l out : List Int), (l.foldl redStep out).length ≤ out.length + l.length
  | [], out => by simp
  | x :: r, out => by
    have h1 := foldl_length r (redStep out x)
    have h2 := redStep_length out x
    simp only [List.foldl_cons, List.length_cons]
    omega
theorem redOf_length (l : List Int) : (redOf l).length ≤ l.length := by
  have := foldl_length l []
  simpa [redOf] using this

/-- No letter of l cancels the one before it, out being what stands before. -/
def chainB : List Int → List Int → Bool
  | _, [] => true
  | out, x :: r => !(decide (0 < out.length) && decide (rd out ((out.length - 1 : Nat) : Int) = wrap64 (-x))) && chainB (out ++ [x]) r
theorem chain_iff : ∀ (l out : List Int), ((l.foldl redStep out).length = out.length + l.length) ↔ chainB out l = true
  | [], out => by simp [chainB]
  | x :: r, out => by
    simp only [List.foldl_cons, List.length_cons, chainB]
    by_cases h : 0 < out.length ∧ rd out ((out.length - 1 : Nat) : Int) = wrap64 (-x)
    · have e : redStep out x = out.take (out.length - 1) := if_pos h
      have hb : (decide (0 < out.length) && decide (rd out ((out.length - 1 : Nat) : Int) = wrap64 (-x))) = true := by
        rw [decide_eq_true h.1, decide_eq_true h.2]
        rfl
      rw [hb, e]
      have := foldl_length r (out.take (out.length - 1))
      rw [List.length_take] at this
      simp
      omega
    · have e : redStep out x = out ++ [x] := if_neg h
      have hb : (decide (0 < out.length) && decide (rd out ((out.length - 1 : Nat) : Int) = wrap64 (-x))) = false := by
        by_cases h0 : 0 < out.length
        · rw [decide_eq_false fun h1 => h ⟨h0, h1⟩, Bool.and_false]
        · rw [decide_eq_false h0]
          rfl
      rw [hb, e]
      have ih := chain_iff r (out ++ [x])
      simp only [List.length_append, List.length_singleton] at ih
      simp only [Bool.not_false, Bool.true_and]
      rw [← ih]
      omega
/-- A reduced word with letters up to g. -/
def redB (g : Int) (x : List Int) : Bool := letters g x && decide (x.length ≤ 120) && chainB [] x

theorem neg_swap (a b : Int) (ha : (Lit.int .i64 a).wf = true) (hb : (Lit.int .i64 b).wf = true) : a = wrap64 (-b) ↔ b = wrap64 (-a) := by
  have h1 : -9223372036854775808 ≤ a ∧ a ≤ 9223372036854775807 := by simpa [Lit.wf, IntKind.min, IntKind.max, IntKind.signed, IntKind.bits] using ha
  have h2 : -9223372036854775808 ≤ b ∧ b ≤ 9223372036854775807 := by simpa [Lit.wf, IntKind.min, IntKind.max, IntKind.signed, IntKind.bits] using hb
  unfold wrap64
  omega
theorem rd_wf (l : List Int) (hw : ∀ x ∈ l, (Lit.int .i64 x).wf = true) (i : Nat) (h : i < l.length) : (Lit.int .i64 (rd l (i : Int))).wf = true := by
  rw [rd_nat l i h]
  exact hw _ (List.getElem_mem h)
theorem rd_take (l : List Int) (n i : Nat) (h : i < n) (hn : n ≤ l.length) : rd (l.take n) (i : Int) = rd l (i : Int) := by
  rw [rd_nat _ i (by simp; omega), rd_nat l i (by omega)]
  simp
theorem specLetters_l0 (l : List Int) (hw : ∀ x ∈ l, (Lit.int .i64 x).wf = true) (g : Int) (hg : 0 ≤ g) (hg1 : g ≤ 4611686018427387904) (hl : l.length ≤ 4611686018427387904) : ∀ (d i k : Nat), i + d = l.length → d < k →
    spec_l04Letters.l0 k l g (i : Int) = some (letters g (l.drop i) && decide (l.length ≤ 120) && chainB (l.take i) (l.drop i)) := by
  intro d
  induction d with
  | zero =>
    intro i k hd hk
    obtain ⟨k, rfl⟩ := succ_k hk
    simp only [spec_l04Letters.l0]
    rw [if_neg (by omega), List.drop_of_length_le (by omega)]
    simp [letters, chainB]
    omega
  | succ d ih =>
    intro i k hd hk
    obtain ⟨k, rfl⟩ := succ_k hk
    have hc : (l.take i) ++ [rd l (i : Int)] = l.take (i + 1) := by
      rw [List.take_succ_eq_append_getElem (by omega), rd_nat l i (by omega)]
    have hwi := rd_wf l hw i (by omega)
    simp only [spec_l04Letters.l0]
    rw [if_pos (by omega), if_pos (by omega), w64 (-g) (by omega) (by omega), w64 ((i : Int) + 1) (by omega) (by omega), cast_succ, ih (i + 1) k (by omega) (by omega), drop_rd l i (by omega)]
    simp only [chainB, hc]
    unfold spec_l01In.f
    have hlen : (l.take i).length = i := by simp; omega
    rw [hlen]
    have hl2 : letters g (rd l (i : Int) :: l.drop (i + 1)) = ((decide (rd l (i : Int) ≠ 0) && (decide (-g ≤ rd l (i : Int)) && decide (rd l (i : Int) ≤ g))) && letters g (l.drop (i + 1))) := rfl
    rw [hl2]
    by_cases h0 : rd l (i : Int) = 0
    · simp [h0]
    · rw [if_neg h0]
      by_cases h1 : -g ≤ rd l (i : Int) <;> by_cases h2 : rd l (i : Int) ≤ g
      · by_cases hi : 0 < i
        · have e1 : wrap64 ((i : Int) - 1) = ((i - 1 : Nat) : Int) := by rw [w64 _ (by omega) (by omega)]; omega
          have hwj := rd_wf l hw (i - 1) (by omega)
          have hn := neg_swap _ _ hwi hwj
          have hi1 : (0 : Int) ≤ ((i - 1 : Nat) : Int) := by omega
          have hi2 : ((i - 1 : Nat) : Int) < (l.length : Int) := by omega
          have hi3 : (i : Int) > 0 := by omega
          rw [e1, rd_take l i (i - 1) (by omega) (by omega)]
          generalize rd l (i : Int) = a at h0 h1 h2 hn
          generalize rd l ((i - 1 : Nat) : Int) = b at hn
          generalize ((i - 1 : Nat) : Int) = m at hi1 hi2
          by_cases h3 : b = wrap64 (-a)
          · have h4 : (a = wrap64 (-b)) = True := eq_true (hn.mpr h3)
            have h5 : (b = wrap64 (-a)) = True := eq_true h3
            clear h3 hn
            simp [h0, h1, h2, hi, h4, h5, hi1, hi2, hi3]
          · have h4 : (a = wrap64 (-b)) = False := eq_false fun e => h3 (hn.mp e)
            have h5 : (b = wrap64 (-a)) = False := eq_false h3
            clear h3 hn
            simp [h0, h1, h2, hi, h4, h5, hi1, hi2, hi3]
        · have hi0 : i = 0 := by omega
          subst hi0
          simp at h0 h1 h2
          simp [h0, h1, h2]
      · simp [h0, h1, h2]
      · simp [h0, h1, h2]
      · simp [h0, h1, h2]
theorem specLetters_eq (l : List Int) (hw : ∀ x ∈ l, (Lit.int .i64 x).wf = true) (g : Int) (hg : 0 ≤ g) (hg1 : g ≤ 4611686018427387904) (k : Nat) (hl : l.length ≤ 4611686018427387904) (hk : l.length < k) : spec_l04Letters.f k l g = some (redB g l) := by
  have := specLetters_l0 l hw g hg hg1 hl l.length 0 k (by omega) hk
  unfold spec_l04Letters.f redB
  simpa using this

def presB (g : Int) (l : List (List Int)) : Bool := decide (0 ≤ g) && decide (g ≤ 24) && decide (l.length ≤ 48) && l.all (redB g)
theorem specPres_l0 (g : Int) (hg : 0 ≤ g) (hg1 : g ≤ 24) (l : List (List Int)) (n : Nat) (hn : n ≤ 1048576) (hl : l.length ≤ 1048576) (hr : ∀ x ∈ l, x.length ≤ n) (hw : ∀ x ∈ l, ∀ y ∈ x, (Lit.int .i64 y).wf = true) : ∀ (d i k : Nat), i + d = l.length → d + n < k →
    spec_IsPresentation.l0 k (i : Int) g l = some ((l.drop i).all (redB g)) := by
  intro d
  induction d with
  | zero =>
    intro i k hd hk
    obtain ⟨k, rfl⟩ := succ_k hk
    simp only [spec_IsPresentation.l0]
    rw [if_neg (by omega), List.drop_of_length_le (by omega)]
    rfl
  | succ d ih =>
    intro i k hd hk
    obtain ⟨k, rfl⟩ := succ_k hk
    simp only [spec_IsPresentation.l0]
    have hm := rdL1_mem l i (by omega)
    have hlen := hr _ hm
    rw [if_pos (by omega), if_pos (by omega), specLetters_eq _ (hw _ hm) g hg (by omega) k (by omega) (by omega), w64 _ (by omega) (by omega), cast_succ, ih (i + 1) k (by omega) (by omega), drop_rdL1 l i (by omega), List.all_cons]
    simp only [Option.bind_some]
    by_cases h : redB g (rd_L1 l (i : Int)) = true
    · simp [h]
    · simp [h]
theorem specPres_eq (g : Int) (l : List (List Int)) (n k : Nat) (hn : n ≤ 1048576) (hl : l.length ≤ 1048576) (hr : ∀ x ∈ l, x.length ≤ n) (hw : ∀ x ∈ l, ∀ y ∈ x, (Lit.int .i64 y).wf = true) (hk : 2097200 < k) :
    spec_IsPresentation.f k g l = some (presB g l) := by
  obtain ⟨k, rfl⟩ := succ_k hk
  unfold spec_IsPresentation.f spec_l01In.f presB
  simp only [spec_IsPresentation.j0]
  by_cases h1 : 0 ≤ g
  · by_cases h2 : g ≤ 24
    · by_cases h3 : l.length ≤ 48
      · have := specPres_l0 g h1 h2 l n hn hl hr hw l.length 0 k (by omega) (by omega)
        have h3' : ¬ (l.length : Int) > 48 := by omega
        simp only [List.drop_zero] at this
        simp [h1, h2, h3, h3']
        exact this
      · have h3' : (l.length : Int) > 48 := by omega
        simp [h1, h2, h3, h3']
    · simp [h1, h2]
  · simp [h1]

theorem rels_in {g : Nat} {R : List (List Int)} (h : presB (g : Int) R = true) : R.length ≤ 48 ∧ ∀ w ∈ R, ∀ a ∈ w, a ≠ 0 ∧ -(g : Int) ≤ a ∧ a ≤ g := by
  unfold presB at h
  rw [Bool.and_eq_true, Bool.and_eq_true, Bool.and_eq_true] at h
  refine ⟨of_decide_eq_true h.1.2, fun w hw a ha => ?_⟩
  have h1 := List.all_eq_true.1 h.2 w hw
  unfold redB at h1
  rw [Bool.and_eq_true, Bool.and_eq_true] at h1
  exact letters_mem h1.1.1 a ha

theorem dbyte_of (x : Int) (h : (Lit.int .u8 x).wf = true) : 0 ≤ x ∧ x ≤ 255 := by
  simpa [Lit.wf, IntKind.min, IntKind.max, IntKind.signed, IntKind.bits] using h
theorem dbyte_at (b : List Int) (hb : ∀ x ∈ b, (Lit.int .u8 x).wf = true) (i : Nat) (hi : i < b.length) : 0 ≤ rd b i ∧ rd b i ≤ 255 := by
  refine dbyte_of _ (hb _ ?_)
  rw [rd_nat b i hi]
  exact List.getElem_mem hi
theorem from_step (c x : Int) (h0 : 0 ≤ c) (h1 : c < 2147483647) (x0 : 0 ≤ x) (x1 : x ≤ 255) : 0 ≤ Int.tmod (wrap64 (wrap64 (c * 37) + wrap64 x)) 2147483647 ∧ Int.tmod (wrap64 (wrap64 (c * 37) + wrap64 x)) 2147483647 < 2147483647 := by
  rw [w64 (c * 37) (by omega) (by omega), w64 x (by omega) (by omega), w64 (c * 37 + x) (by omega) (by omega)]
  exact ⟨Int.tmod_nonneg _ (by omega), Int.tmod_lt_of_pos _ (by omega)⟩
theorem from_l0 (b : List Int) (hb : ∀ x ∈ b, (Lit.int .u8 x).wf = true) (hl : b.length ≤ 4096) : ∀ (d i k : Nat) (c : Int), i + d = b.length → d < k → 0 ≤ c → c < 2147483647 → ∃ c', spec_l01From.l0 k b (i : Int) b 0 c = some (b, 0, c') ∧ 0 ≤ c' ∧ c' < 2147483647 := by
  intro d
  induction d with
  | zero =>
    intro i k c hi hk h0 h1
    obtain ⟨k, rfl⟩ := succ_k hk
    simp only [spec_l01From.l0]
    rw [if_neg (by omega)]
    exact ⟨c, rfl, h0, h1⟩
  | succ d ih =>
    intro i k c hi hk h0 h1
    obtain ⟨k, rfl⟩ := succ_k hk
    simp only [spec_l01From.l0]
    rw [if_pos (by omega)]
    by_cases c4 : (i : Int) < 64
    · obtain ⟨x0, x1⟩ := dbyte_at b hb i (by omega)
      obtain ⟨s0, s1⟩ := from_step c _ h0 h1 x0 x1
      rw [if_pos c4, if_pos (by omega), w64 ((i : Int) + 1) (by omega) (by omega), cast_succ]
      exact ih (i + 1) k _ (by omega) (by omega) s0 s1
    · rw [if_neg c4]
      exact ⟨c, rfl, h0, h1⟩
theorem from_ok (b : List Int) (hb : ∀ x ∈ b, (Lit.int .u8 x).wf = true) (hl : b.length ≤ 4096) (k : Nat) (hk : b.length < k) : ∃ c, spec_l01From.f k b = some (b, 0, c) ∧ 0 ≤ c ∧ c < 2147483647 :=
  from_l0 b hb hl b.length 0 k 97531 (by omega) hk (by omega) (by omega)
theorem next_seed (c : Int) (h0 : 0 ≤ c) (h1 : c < 2147483647) : 0 ≤ Int.tmod (wrap64 (wrap64 (c * 48271) + 11)) 2147483647 ∧ Int.tmod (wrap64 (wrap64 (c * 48271) + 11)) 2147483647 < 2147483647 := by
  rw [w64 (c * 48271) (by omega) (by omega), w64 (c * 48271 + 11) (by omega) (by omega)]
  exact ⟨Int.tmod_nonneg _ (by omega), Int.tmod_lt_of_pos _ (by omega)⟩
theorem next_ok (b : List Int) (hb : ∀ x ∈ b, (Lit.int .u8 x).wf = true) (hl : b.length ≤ 4096) (i c a : Int) (hi : 0 ≤ i) (h0 : 0 ≤ c) (h1 : c < 2147483647) :
    ∃ r i' c', spec_l01Next.f b i c a = some (r, i', c') ∧ 0 ≤ r ∧ (r < a ∨ r = 0) ∧ 0 ≤ i' ∧ 0 ≤ c' ∧ c' < 2147483647 := by
  unfold spec_l01Next.f
  obtain ⟨s0, s1⟩ := next_seed c h0 h1
  generalize Int.tmod (wrap64 (wrap64 (c * 48271) + 11)) 2147483647 = s at s0 s1 ⊢
  by_cases a1 : a ≤ 1
  · rw [if_pos a1]
    exact ⟨0, i, c, rfl, by omega, Or.inr rfl, hi, h0, h1⟩
  · rw [if_neg a1]
    have an : ¬ a = 0 := by omega
    have q0 : 0 ≤ Int.tdiv s 11 := Int.tdiv_nonneg s0 (by omega)
    have q1 : Int.tdiv s 11 ≤ 2147483647 := by rw [Int.tdiv_eq_ediv_of_nonneg s0]; omega
    generalize Int.tdiv s 11 = q at q0 q1 ⊢
    by_cases c1 : i < (b.length : Int)
    · obtain ⟨j, rfl⟩ : ∃ j : Nat, i = j := ⟨i.toNat, by omega⟩
      obtain ⟨x0, x1⟩ := dbyte_at b hb j (by omega)
      have b1 : -9223372036854775808 ≤ (j : Int) + 1 ∧ (j : Int) + 1 ≤ 9223372036854775807 := by omega
      have b2 : -9223372036854775808 ≤ (j : Int) + 1 - 1 ∧ (j : Int) + 1 - 1 ≤ 9223372036854775807 := by omega
      have e2 : (j : Int) + 1 - 1 = (j : Int) := by omega
      have b3 : 0 ≤ (j : Int) + 1 := by omega
      rw [w64 ((j : Int) + 1) b1.1 b1.2, w64 ((j : Int) + 1 - 1) b2.1 b2.2, e2]
      generalize rd b (j : Int) = x at x0 x1 ⊢
      have t0 := Int.tmod_nonneg a x0
      have t1 := Int.tmod_lt_of_pos x (show 0 < a by omega)
      have t2 := Int.tmod_nonneg a (show 0 ≤ q + x by omega)
      have t3 := Int.tmod_lt_of_pos (q + x) (show 0 < a by omega)
      have b4 : -9223372036854775808 ≤ x ∧ x ≤ 9223372036854775807 := by omega
      have b5 : -9223372036854775808 ≤ q ∧ q ≤ 9223372036854775807 := by omega
      have b6 : -9223372036854775808 ≤ q + x ∧ q + x ≤ 9223372036854775807 := by omega
      rw [w64 x b4.1 b4.2, w64 q b5.1 b5.2, w64 (q + x) b6.1 b6.2, if_pos c1, if_pos hi]
      by_cases c2 : a ≤ 256
      · rw [if_pos c2]
        by_cases c3 : ((j : Int) + 1).tmod 2 = 0
        · rw [if_pos c3, if_pos hi, if_pos c1, if_neg an]
          exact ⟨_, _, _, rfl, t0, Or.inl t1, b3, s0, s1⟩
        · rw [if_neg c3, if_neg an]
          exact ⟨_, _, _, rfl, t2, Or.inl t3, b3, s0, s1⟩
      · rw [if_neg c2, if_neg an]
        exact ⟨_, _, _, rfl, t2, Or.inl t3, b3, s0, s1⟩
    · have b5 : -9223372036854775808 ≤ q ∧ q ≤ 9223372036854775807 := by omega
      rw [if_neg c1, if_neg an, w64 q b5.1 b5.2]
      exact ⟨_, _, _, rfl, Int.tmod_nonneg a q0, Or.inl (Int.tmod_lt_of_pos q (by omega)), hi, s0, s1⟩

theorem specReduce_l0 (l : List Int) (hl : l.length ≤ 1099511627776) : ∀ (d i k : Nat) (out : List Int), i + d = l.length → out.length ≤ i → d < k →
    spec_l04Reduce.l0 k l out (i : Int) = some ((l.drop i).foldl redStep out) := by
  intro d
  induction d with
  | zero =>
    intro i k out hd ho hk
    obtain ⟨k, rfl⟩ := succ_k hk
    simp only [spec_l04Reduce.l0]
    rw [if_neg (by omega), List.drop_of_length_le (by omega)]
    rfl
  | succ d ih =>
    intro i k out hd ho hk
    obtain ⟨k, rfl⟩ := succ_k hk
    have hs := redStep_length out (rd l (i : Int))
    simp only [spec_l04Reduce.l0]
    rw [if_pos (by omega), drop_rd l i (by omega), List.foldl_cons, w64 ((i : Int) + 1) (by omega) (by omega), cast_succ]
    by_cases h0 : 0 < out.length
    · have e1 : wrap64 ((out.length : Int) - 1) = ((out.length - 1 : Nat) : Int) := by rw [w64 _ (by omega) (by omega)]; omega
      rw [if_pos (by omega), e1, if_pos (by omega), if_pos (by omega), if_pos (by omega)]
      by_cases h1 : rd out (((out.length - 1 : Nat) : Int)) = wrap64 (-(rd l (i : Int)))
      · have e2 : redStep out (rd l (i : Int)) = out.take (out.length - 1) := if_pos ⟨h0, h1⟩
        rw [if_pos h1, if_pos (by omega), Int.toNat_natCast, e2, ih (i + 1) k _ (by omega) (by simp; omega) (by omega)]
      · have e2 : redStep out (rd l (i : Int)) = out ++ [rd l (i : Int)] := if_neg fun h => h1 h.2
        rw [if_neg h1, if_pos (by omega), e2, ih (i + 1) k _ (by omega) (by simp; omega) (by omega)]
    · have e2 : redStep out (rd l (i : Int)) = out ++ [rd l (i : Int)] := if_neg fun h => h0 h.1
      rw [if_neg (by omega), if_pos (by omega), if_pos (by omega), e2, ih (i + 1) k _ (by omega) (by simp; omega) (by omega)]
theorem specReduce_eq (l : List Int) (k : Nat) (hl : l.length ≤ 1099511627776) (hk : l.length < k) : spec_l04Reduce.f k l = some (redOf l) := by
  have := specReduce_l0 l hl l.length 0 k [] (by omega) (by simp) hk
  unfold spec_l04Reduce.f redOf
  simpa using this

theorem wfi_of (x : Int) (h0 : -9223372036854775808 ≤ x) (h1 : x ≤ 9223372036854775807) : (Lit.int .i64 x).wf = true := by
  simpa [Lit.wf, IntKind.min, IntKind.max, IntKind.signed, IntKind.bits] using ⟨h0, h1⟩
theorem evt_some {α β : Type} {o : Option α} {x : α} (e : o = some x) {F : Nat → α → Option β} {r : β} (h : Evt (fun K => F K x) r) : Evt (fun K => o.bind (F K)) r := Evt.same h fun K => by rw [e, Option.bind_some]
theorem foldl_sub : ∀ (l out : List Int) (x : Int), x ∈ l.foldl redStep out → x ∈ out ∨ x ∈ l
  | [], out, x, h => .inl h
  | y :: l, out, x, h => by
    rcases foldl_sub l (redStep out y) x h with h | h
    · unfold redStep at h
      split at h
      · exact .inl (List.mem_of_mem_take h)
      · rcases List.mem_append.1 h with h | h
        · exact .inl h
        · rw [List.mem_singleton] at h
          exact .inr (by rw [h]; exact List.mem_cons_self)
    · exact .inr (List.mem_cons_of_mem _ h)
theorem redOf_sub (l : List Int) (x : Int) (h : x ∈ redOf l) : x ∈ l := (foldl_sub l [] x h).resolve_left (by simp)
theorem evt_two {α : Type} {f g : Nat → Option α} {r : α} (h : Evt g r) (e : ∀ K, f (K + 1 + 1) = g K) : Evt f r := by
  obtain ⟨c, h⟩ := h
  refine ⟨c + 2, fun K hK => ?_⟩
  obtain ⟨m, rfl⟩ : ∃ m, K = m + 1 + 1 := ⟨K - 2, by omega⟩
  rw [e]
  exact h m (by omega)
/-- Where a draw stands. -/
def DS (i c : Int) : Prop := 0 ≤ i ∧ 0 ≤ c ∧ c < 2147483647
section
variable {b : List Int} (hb : ∀ x ∈ b, (Lit.int .u8 x).wf = true) (hl : b.length ≤ 4096)
include hb hl
theorem nextD (a i c : Int) (h : DS i c) : ∃ r i' c', spec_l01Next.f b i c a = some (r, i', c') ∧ 0 ≤ r ∧ (r < a ∨ r = 0) ∧ DS i' c' := by
  obtain ⟨r, i', c', e, r0, r1, h1, h2, h3⟩ := next_ok b hb hl i c a h.1 h.2.1 h.2.2
  exact ⟨r, i', c', e, r0, r1, h1, h2, h3⟩
theorem dWord_l0 (a1 : Int) (ha : a1 ≤ 8) : ∀ (n : Nat) (acc : List Int) (i c : Int), acc.length + n ≤ 1000 → DS i c → (∀ x ∈ acc, (Lit.int .i64 x).wf = true) →
    ∃ w i' c', Evt (fun K => spec_l04DrawWord.l0 K a1 acc (n : Int) b i c) (w, i', c') ∧ w.length ≤ acc.length + n ∧ (∀ x ∈ w, (Lit.int .i64 x).wf = true) ∧ DS i' c'
  | 0, acc, i, c, hn, hd, hw => by
    refine ⟨acc, i, c, Evt.step (g := fun K => spec_l04DrawWord.j1 K a1 acc (0 : Int) false b i c) (Evt.now fun K => by rw [spec_l04DrawWord.j1, if_neg (by simp)]) fun K => by rw [spec_l04DrawWord.l0, if_neg (by simp)]; rfl, by omega, hw, hd⟩
  | n + 1, acc, i, c, hn, hd, hw => by
    by_cases h1 : a1 > 0
    · obtain ⟨r, i1, c1, e1, r0, r1, d1⟩ := nextD hb hl a1 i c hd
      obtain ⟨s, i2, c2, e2, s0, s1, d2⟩ := nextD hb hl 2 i1 c1 d1
      have b1 : -9223372036854775808 ≤ 1 + r ∧ 1 + r ≤ 9223372036854775807 := by omega
      have b2 : -9223372036854775808 ≤ -(1 + r) ∧ -(1 + r) ≤ 9223372036854775807 := by omega
      have hx : ∀ y : Int, y = 1 + r ∨ y = -(1 + r) → ∀ x ∈ acc ++ [y], (Lit.int .i64 x).wf = true := fun y hy x hx => by
        rcases List.mem_append.1 hx with hx | hx
        · exact hw x hx
        · rw [List.mem_singleton.1 hx]
          exact wfi_of y (by omega) (by omega)
      have hlen : acc.length < 17592186044416 := by omega
      have e5 : ((n + 1 : Nat) : Int) > 0 := by omega
      have e6 : ((n + 1 : Nat) : Int) - 1 = (n : Int) := by omega
      have b3 : -9223372036854775808 ≤ (n : Int) ∧ (n : Int) ≤ 9223372036854775807 := by omega
      have key : ∀ y : Int, (y = 1 + r ∧ s ≠ 0 ∨ y = -(1 + r) ∧ s = 0) → ∀ K, spec_l04DrawWord.l0 (K + 1 + 1) a1 acc ((n + 1 : Nat) : Int) b i c = spec_l04DrawWord.l0 K a1 (acc ++ [y]) (n : Int) b i2 c2 := fun y hy K => by
        rw [spec_l04DrawWord.l0, if_pos e5, decide_eq_true h1, spec_l04DrawWord.j1, if_pos rfl, e1, Option.bind_some, e2, Option.bind_some]
        simp only
        rw [w64 (1 + r) b1.1 b1.2, w64 (-(1 + r)) b2.1 b2.2, e6, w64 (n : Int) b3.1 b3.2]
        rcases hy with ⟨rfl, h0⟩ | ⟨rfl, h0⟩
        · rw [if_neg h0, if_pos hlen]
        · rw [if_pos h0, if_pos hlen]
      by_cases hs : s = 0
      · obtain ⟨w, i3, c3, h3, h4, h5, h6⟩ := dWord_l0 a1 ha n (acc ++ [-(1 + r)]) i2 c2 (by simp; omega) d2 (hx _ (.inr rfl))
        exact ⟨w, i3, c3, evt_two h3 (key _ (.inr ⟨rfl, hs⟩)), by simp at h4; omega, h5, h6⟩
      · obtain ⟨w, i3, c3, h3, h4, h5, h6⟩ := dWord_l0 a1 ha n (acc ++ [1 + r]) i2 c2 (by simp; omega) d2 (hx _ (.inl rfl))
        exact ⟨w, i3, c3, evt_two h3 (key _ (.inl ⟨rfl, hs⟩)), by simp at h4; omega, h5, h6⟩
    · refine ⟨acc, i, c, Evt.step (g := fun K => spec_l04DrawWord.j1 K a1 acc ((n + 1 : Nat) : Int) false b i c) (Evt.now fun K => by rw [spec_l04DrawWord.j1, if_neg (by simp)]) fun K => by rw [spec_l04DrawWord.l0, if_pos (by omega), decide_eq_false h1], by omega, hw, hd⟩
theorem dWord (a1 i c : Int) (ha : a1 ≤ 8) (h : DS i c) : ∃ w i' c', Evt (fun K => spec_l04DrawWord.f K b i c a1 6) (w, i', c') ∧ w.length ≤ 10 ∧ (∀ x ∈ w, (Lit.int .i64 x).wf = true) ∧ DS i' c' := by
  obtain ⟨r, i1, c1, e1, r0, r1, d1⟩ := nextD hb hl (wrap64 (6 + 1)) i c h
  have e7 : wrap64 (6 + 1) = 7 := by decide +kernel
  rw [e7] at e1 r1
  obtain ⟨n, rfl⟩ : ∃ n : Nat, r = n := ⟨r.toNat, by omega⟩
  obtain ⟨w, i2, c2, h2, h3, h4, h5⟩ := dWord_l0 hb hl a1 ha n [] i1 c1 (by simp; omega) d1 (by simp)
  refine ⟨w, i2, c2, ?_, by simp at h3; omega, h4, h5⟩
  unfold spec_l04DrawWord.f
  rw [e7]
  exact evt_some e1 h2
theorem dValid_l0 (g : Int) (hg : g ≤ 8) : ∀ (n : Nat) (R : List (List Int)) (i c : Int), R.length + n ≤ 1000 → DS i c → (∀ w ∈ R, w.length ≤ 10 ∧ ∀ x ∈ w, (Lit.int .i64 x).wf = true) →
    ∃ R' i' c', Evt (fun K => spec_l04DrawValid.l0 K (n : Int) b i c g R) (g, R', i', c') ∧ R'.length ≤ R.length + n ∧ (∀ w ∈ R', w.length ≤ 10 ∧ ∀ x ∈ w, (Lit.int .i64 x).wf = true) ∧ DS i' c'
  | 0, R, i, c, hn, hd, hw => ⟨R, i, c, Evt.now fun K => by rw [spec_l04DrawValid.l0, if_neg (by simp)], by omega, hw, hd⟩
  | n + 1, R, i, c, hn, hd, hw => by
    obtain ⟨w, i1, c1, h1, h2, h3, h4⟩ := dWord hb hl g i c hg hd
    have hr : Evt (fun K => spec_l04Reduce.f K w) (redOf w) := ⟨1000, fun K hK => specReduce_eq w K (by omega) (by omega)⟩
    have hrl := redOf_length w
    obtain ⟨R', i2, c2, k1, k2, k3, k4⟩ := dValid_l0 g hg n (R ++ [redOf w]) i1 c1 (by simp; omega) h4 (fun y hy => by
      rcases List.mem_append.1 hy with hy | hy
      · exact hw y hy
      · rw [List.mem_singleton.1 hy]
        exact ⟨by omega, fun x hx => h3 x (redOf_sub w x hx)⟩)
    have e5 : ((n + 1 : Nat) : Int) > 0 := by omega
    have e6 : wrap64 (((n + 1 : Nat) : Int) - 1) = (n : Int) := by
      rw [show ((n + 1 : Nat) : Int) - 1 = (n : Int) by omega]
      exact w64n n (by omega)
    have e7 : R.length < 5864062014805 := by clear e6; omega
    refine ⟨R', i2, c2, Evt.bind1 h1 (h := fun K bt270 => (spec_l04Reduce.f K bt270.1).bind fun t275 => (if R.length < 5864062014805 then (spec_l04DrawValid.l0 K (wrap64 (((n + 1 : Nat) : Int) - 1)) b bt270.2.1 bt270.2.2 g (R ++ [t275])) else (none))) ?_ fun K => ?_, by simp at k2; clear e6; omega, k3, k4⟩
    · refine Evt.bind hr (h := fun K t275 => (if R.length < 5864062014805 then (spec_l04DrawValid.l0 K (wrap64 (((n + 1 : Nat) : Int) - 1)) b i1 c1 g (R ++ [t275])) else (none))) (Evt.same k1 fun K => ?_) fun _ => rfl
      rw [if_pos e7, e6]
    · rw [spec_l04DrawValid.l0, if_pos e5]
theorem dPres_l0 (g : Int) (hg : g ≤ 8) : ∀ (n : Nat) (R : List (List Int)) (i c : Int), R.length + n ≤ 1000 → DS i c → (∀ w ∈ R, w.length ≤ 10 ∧ ∀ x ∈ w, (Lit.int .i64 x).wf = true) →
    ∃ R' i' c', Evt (fun K => spec_l05DrawPresentation.l0 K (n : Int) b i c g R) (g, R', i', c') ∧ R'.length ≤ R.length + n ∧ (∀ w ∈ R', w.length ≤ 10 ∧ ∀ x ∈ w, (Lit.int .i64 x).wf = true) ∧ DS i' c'
  | 0, R, i, c, hn, hd, hw => ⟨R, i, c, Evt.now fun K => by rw [spec_l05DrawPresentation.l0, if_neg (by simp)], by omega, hw, hd⟩
  | n + 1, R, i, c, hn, hd, hw => by
    obtain ⟨w, i1, c1, h1, h2, h3, h4⟩ := dWord hb hl g i c hg hd
    have hr : Evt (fun K => spec_l04Reduce.f K w) (redOf w) := ⟨1000, fun K hK => specReduce_eq w K (by omega) (by omega)⟩
    have hrl := redOf_length w
    obtain ⟨R', i2, c2, k1, k2, k3, k4⟩ := dPres_l0 g hg n (R ++ [redOf w]) i1 c1 (by simp; omega) h4 (fun y hy => by
      rcases List.mem_append.1 hy with hy | hy
      · exact hw y hy
      · rw [List.mem_singleton.1 hy]
        exact ⟨by omega, fun x hx => h3 x (redOf_sub w x hx)⟩)
    have e5 : ((n + 1 : Nat) : Int) > 0 := by omega
    have e6 : wrap64 (((n + 1 : Nat) : Int) - 1) = (n : Int) := by
      rw [show ((n + 1 : Nat) : Int) - 1 = (n : Int) by omega]
      exact w64n n (by omega)
    have e7 : R.length < 5864062014805 := by clear e6; omega
    refine ⟨R', i2, c2, Evt.bind1 h1 (h := fun K bt270 => (spec_l04Reduce.f K bt270.1).bind fun t275 => (if R.length < 5864062014805 then (spec_l05DrawPresentation.l0 K (wrap64 (((n + 1 : Nat) : Int) - 1)) b bt270.2.1 bt270.2.2 g (R ++ [t275])) else (none))) ?_ fun K => ?_, by simp at k2; clear e6; omega, k3, k4⟩
    · refine Evt.bind hr (h := fun K t275 => (if R.length < 5864062014805 then (spec_l05DrawPresentation.l0 K (wrap64 (((n + 1 : Nat) : Int) - 1)) b i1 c1 g (R ++ [t275])) else (none))) (Evt.same k1 fun K => ?_) fun _ => rfl
      rw [if_pos e7, e6]
    · rw [spec_l05DrawPresentation.l0, if_pos e5]
/-- What a drawn presentation keeps. -/
def DP (R : List (List Int)) : Prop := R.length ≤ 40 ∧ ∀ w ∈ R, w.length ≤ 10 ∧ ∀ x ∈ w, (Lit.int .i64 x).wf = true
theorem dValid (i c : Int) (h : DS i c) : ∃ g R i' c', Evt (fun K => spec_l04DrawValid.f K b i c) (g, R, i', c') ∧ 0 ≤ g ∧ g ≤ 4 ∧ R.length ≤ 20 ∧ DP R ∧ DS i' c' := by
  obtain ⟨g, i1, c1, e1, r0, r1, d1⟩ := nextD hb hl 4 i c h
  obtain ⟨m, i2, c2, e2, s0, s1, d2⟩ := nextD hb hl 4 i1 c1 d1
  obtain ⟨m, rfl⟩ : ∃ n : Nat, m = n := ⟨m.toNat, by omega⟩
  obtain ⟨R, i3, c3, h1, h2, h3, h4⟩ := dValid_l0 hb hl g (by omega) m [] i2 c2 (by simp; omega) d2 (by simp)
  simp at h2
  refine ⟨g, R, i3, c3, ?_, r0, by omega, by omega, ⟨by omega, h3⟩, h4⟩
  unfold spec_l04DrawValid.f
  refine evt_some e1 (evt_some e2 ?_)
  exact h1
theorem dDraw (i c : Int) (h : DS i c) : ∃ g R i' c', Evt (fun K => spec_l04Draw.f K b i c) (g, R, i', c') ∧ DP R ∧ DS i' c' := by
  obtain ⟨g, R, i1, c1, h1, g0, g1, hR, hD, d1⟩ := dValid hb hl i c h
  obtain ⟨r, i2, c2, e2, r0, r1, d2⟩ := nextD hb hl 24 i1 c1 d1
  have hlen : R.length < 5864062014805 := by omega
  have fin : ∀ g' R' i' c', Evt (fun (_ : Nat) => (if r = 0 then ((some (([(-1), 24, 25] : List Int) : List Int)).bind fun y234 => ((spec_l01Next.f b i2 c2 3).bind fun bt237 => (if 0 ≤ bt237.1 then (if bt237.1 < (y234.length : Int) then (some (rd y234 bt237.1, R, bt237.2.1, bt237.2.2)) else (none)) else (none)))) else (if r = 1 then (if R.length < 5864062014805 then (some (g, (R ++ [(([wrap64 (g + 1)] : List Int))]), i2, c2)) else (none)) else (if r = 2 then (if R.length < 5864062014805 then (some (g, (R ++ [(([1, (-1)] : List Int))]), i2, c2)) else (none)) else (some (g, R, i2, c2)))))) (g', R', i', c') → Evt (fun K => spec_l04Draw.f K b i c) (g', R', i', c') := fun g' R' i' c' hh => by
    unfold spec_l04Draw.f
    refine Evt.bind h1 (h := fun K bt224 => (spec_l01Next.f b bt224.2.2.1 bt224.2.2.2 24).bind fun bt231 => (if bt231.1 = 0 then ((some (([(-1), 24, 25] : List Int) : List Int)).bind fun y234 => ((spec_l01Next.f b bt231.2.1 bt231.2.2 3).bind fun bt237 => (if 0 ≤ bt237.1 then (if bt237.1 < (y234.length : Int) then (some (rd y234 bt237.1, bt224.2.1, bt237.2.1, bt237.2.2)) else (none)) else (none)))) else (if bt231.1 = 1 then (if bt224.2.1.length < 5864062014805 then (some (bt224.1, (bt224.2.1 ++ [(([wrap64 (bt224.1 + 1)] : List Int))]), bt231.2.1, bt231.2.2)) else (none)) else (if bt231.1 = 2 then (if bt224.2.1.length < 5864062014805 then (some (bt224.1, (bt224.2.1 ++ [(([1, (-1)] : List Int))]), bt231.2.1, bt231.2.2)) else (none)) else (some (bt224.1, bt224.2.1, bt231.2.1, bt231.2.2)))))) ?_ fun _ => rfl
    exact evt_some e2 hh
  have put : ∀ y : List Int, y.length ≤ 10 → (∀ x ∈ y, (Lit.int .i64 x).wf = true) → DP (R ++ [y]) := fun y y1 y2 => ⟨by simp; omega, fun w hw => by
    rcases List.mem_append.1 hw with hw | hw
    · exact hD.2 w hw
    · rw [List.mem_singleton.1 hw]
      exact ⟨y1, y2⟩⟩
  by_cases h0 : r = 0
  · obtain ⟨u, i3, c3, e3, u0, u1, d3⟩ := nextD hb hl 3 i2 c2 d2
    refine ⟨rd [(-1), 24, 25] u, R, i3, c3, fin _ _ _ _ (Evt.const fun K => ?_), hD, d3⟩
    rw [if_pos h0, Option.bind_some, e3, Option.bind_some]
    exact (if_pos u0).trans (if_pos (by show u < 3; omega))
  · by_cases h1' : r = 1
    · refine ⟨g, R ++ [[wrap64 (g + 1)]], i2, c2, fin _ _ _ _ (Evt.const fun K => ?_), put _ (by simp) (fun x hx => ?_), d2⟩
      · rw [if_neg h0, if_pos h1', if_pos hlen]
      · rw [List.mem_singleton.1 hx, w64 (g + 1) (by omega) (by omega)]
        exact wfi_of _ (by omega) (by omega)
    · by_cases h2' : r = 2
      · refine ⟨g, R ++ [[1, -1]], i2, c2, fin _ _ _ _ (Evt.const fun K => ?_), put _ (by simp) (fun x hx => ?_), d2⟩
        · rw [if_neg h0, if_neg h1', if_pos h2', if_pos hlen]
        · rcases List.mem_cons.1 hx with rfl | hx
          · exact wfi_of _ (by omega) (by omega)
          · rw [List.mem_singleton.1 hx]
            exact wfi_of _ (by omega) (by omega)
      · exact ⟨g, R, i2, c2, fin _ _ _ _ (Evt.const fun K => by rw [if_neg h0, if_neg h1', if_neg h2']), hD, d2⟩
theorem dPresentation (i c : Int) (h : DS i c) : ∃ g R i' c', Evt (fun K => spec_l05DrawPresentation.f K b i c) (g, R, i', c') ∧ DP R ∧ DS i' c' := by
  obtain ⟨r, i1, c1, e1, r0, r1, d1⟩ := nextD hb hl 8 i c h
  by_cases h0 : r = 0
  · obtain ⟨g, R, i2, c2, h1, hD, d2⟩ := dDraw hb hl i1 c1 d1
    refine ⟨g, R, i2, c2, ?_, hD, d2⟩
    unfold spec_l05DrawPresentation.f
    refine evt_some e1 ?_
    exact Evt.bind h1 (h := fun _ bt257 => some (bt257.1, bt257.2.1, bt257.2.2.1, bt257.2.2.2)) (Evt.const fun _ => rfl) fun _ => if_pos h0
  · obtain ⟨g, i2, c2, e2, g0, g1, d2⟩ := nextD hb hl 3 i1 c1 d1
    obtain ⟨m, i3, c3, e3, m0, m1, d3⟩ := nextD hb hl 3 i2 c2 d2
    obtain ⟨m, rfl⟩ : ∃ n : Nat, m = n := ⟨m.toNat, by omega⟩
    have eg : wrap64 (1 + g) = 1 + g := w64 _ (by omega) (by omega)
    obtain ⟨R, i4, c4, h1, h2, h3, h4⟩ := dPres_l0 hb hl (1 + g) (by clear eg; omega) m [] i3 c3 (by clear eg; simp; omega) d3 (by simp)
    simp at h2
    refine ⟨1 + g, R, i4, c4, ?_, ⟨by clear eg; omega, h3⟩, h4⟩
    unfold spec_l05DrawPresentation.f
    refine evt_some e1 (Evt.same (g := fun K => ((spec_l01Next.f b i1 c1 3).bind fun bt263 => ((spec_l01Next.f b bt263.2.1 bt263.2.2 3).bind fun bt267 => (spec_l05DrawPresentation.l0 K bt267.1 b bt267.2.1 bt267.2.2 (wrap64 (1 + bt263.1)) ([] : List (List Int)))))) ?_ fun K => if_neg h0)
    refine evt_some e2 (evt_some e3 (Evt.same h1 fun K => ?_))
    simp only
    rw [eg]
theorem dRepCount : ∃ g R n, Evt (fun K => spec_DrawRepresentationCount.f K b) (g, R, n) ∧ DP R := by
  have h0 : ∃ c, Evt (fun K => spec_l01From.f K b) (b, 0, c) ∧ DS 0 c := by
    obtain ⟨c, e, k1, k2⟩ := from_ok b hb hl 5000 (by omega)
    refine ⟨c, ⟨5000, fun K hK => ?_⟩, by omega, k1, k2⟩
    exact at_rounds (g := fun K => spec_l01From.f K b) (spec_l01From.mono _) hK e
  obtain ⟨c, h0, d0⟩ := h0
  obtain ⟨g, R, i1, c1, h1, hD, d1⟩ := dPresentation hb hl 0 c d0
  obtain ⟨r, i2, c2, e2, r0, r1, d2⟩ := nextD hb hl 12 i1 c1 d1
  have fin : ∀ n, Evt (fun _ => if r = 0 then ((spec_l01Next.f b i2 c2 2).bind fun bt296 => (some (g, R, wrap64 (5 * bt296.1)))) else ((spec_l01Next.f b i2 c2 4).bind fun bt299 => (some (g, R, wrap64 (1 + bt299.1))))) (g, R, n) → ∃ g R n, Evt (fun K => spec_DrawRepresentationCount.f K b) (g, R, n) ∧ DP R := fun n hh => by
    refine ⟨g, R, n, ?_, hD⟩
    unfold spec_DrawRepresentationCount.f
    refine Evt.bind h0 (h := fun K bt282 => (spec_l05DrawPresentation.f K bt282.1 bt282.2.1 bt282.2.2).bind fun bt286 => ((spec_l01Next.f bt282.1 bt286.2.2.1 bt286.2.2.2 12).bind fun bt293 => (if bt293.1 = 0 then ((spec_l01Next.f bt282.1 bt293.2.1 bt293.2.2 2).bind fun bt296 => (some (bt286.1, bt286.2.1, wrap64 (5 * bt296.1)))) else ((spec_l01Next.f bt282.1 bt293.2.1 bt293.2.2 4).bind fun bt299 => (some (bt286.1, bt286.2.1, wrap64 (1 + bt299.1))))))) ?_ fun _ => rfl
    refine Evt.bind h1 (h := fun K bt286 => (spec_l01Next.f b bt286.2.2.1 bt286.2.2.2 12).bind fun bt293 => (if bt293.1 = 0 then ((spec_l01Next.f b bt293.2.1 bt293.2.2 2).bind fun bt296 => (some (bt286.1, bt286.2.1, wrap64 (5 * bt296.1)))) else ((spec_l01Next.f b bt293.2.1 bt293.2.2 4).bind fun bt299 => (some (bt286.1, bt286.2.1, wrap64 (1 + bt299.1)))))) ?_ fun _ => rfl
    exact evt_some e2 hh
  by_cases h3 : r = 0
  · obtain ⟨u, i3, c3, e3, _⟩ := nextD hb hl 2 i2 c2 d2
    exact fin _ (Evt.const fun _ => by rw [if_pos h3, e3, Option.bind_some])
  · obtain ⟨u, i3, c3, e3, _⟩ := nextD hb hl 4 i2 c2 d2
    exact fin _ (Evt.const fun _ => by rw [if_neg h3, e3, Option.bind_some])
end

theorem wf64 {x : Int} (h : (Lit.int .i64 x).wf = true) : -9223372036854775808 ≤ x ∧ x ≤ 9223372036854775807 := by
  simpa [Lit.wf, IntKind.min, IntKind.max, IntKind.signed, IntKind.bits] using h
theorem bad_iff (g x : Int) (hg : 0 ≤ g) (hg1 : g ≤ 4611686018427387904) (h : (Lit.int .i64 x).wf = true) : isWord_bad g x = !(decide (x ≠ 0) && (decide (-g ≤ x) && decide (x ≤ g))) := by
  have hx := wf64 h
  have e : (!(decide (x ≠ 0) && (decide (-g ≤ x) && decide (x ≤ g)))) = decide (x = 0 ∨ ¬ (-g ≤ x ∧ x ≤ g)) := by
    by_cases h0 : x = 0 <;> by_cases h1 : -g ≤ x <;> by_cases h2 : x ≤ g <;> simp [h0, h1, h2]
  rw [e]
  unfold isWord_bad abs64
  rw [w64 (-g) (by omega) (by omega)]
  have e2 : (x == 0 || (decide (g < if x < 0 then wrap64 (-x) else x) || decide (x < -g))) = decide (x = 0 ∨ (g < (if x < 0 then wrap64 (-x) else x) ∨ x < -g)) := by
    show (decide (x = 0) || _) = _
    simp [Bool.decide_or]
  rw [e2]
  apply decide_eq_decide.mpr
  by_cases hn : x < 0
  · rw [if_pos hn]
    by_cases hm : x = -9223372036854775808
    · subst hm
      have : wrap64 (-(-9223372036854775808)) = -9223372036854775808 := by unfold wrap64; omega
      rw [this]
      omega
    · rw [w64 (-x) (by omega) (by omega)]
      omega
  · rw [if_neg hn]
    omega
theorem any_bad (g : Int) (hg : 0 ≤ g) (hg1 : g ≤ 4611686018427387904) (l : List Int) (h : ∀ x ∈ l, (Lit.int .i64 x).wf = true) : (!(l.any (isWord_bad g))) = letters g l := by
  unfold letters
  induction l with
  | nil => rfl
  | cons x r ih =>
    rw [List.any_cons, List.all_cons, Bool.not_or, ih fun y hy => h y (List.mem_cons_of_mem _ hy), bad_iff g x hg hg1 (h x List.mem_cons_self)]
    simp
theorem implisWord_eq (g : Int) (hg : 0 ≤ g) (hg1 : g ≤ 4611686018427387904) (l : List Int) (h : ∀ x ∈ l, (Lit.int .i64 x).wf = true) : impl_isWord.f l g = some (letters g l && decide (l.length ≤ 120)) := by
  unfold impl_isWord.f
  rw [any_bad g hg hg1 l h, Bool.and_comm]

theorem implReduced_l0 (l : List Int) (hl : l.length ≤ 1099511627776) : ∀ (d i k : Nat) (out : List Int), i + d = l.length → out.length ≤ i → d < k →
    impl_reduced.l0 k out l (l.length : Int) (i : Int) = some ((l.drop i).foldl redStep out) := by
  intro d
  induction d with
  | zero =>
    intro i k out hd ho hk
    obtain ⟨k, rfl⟩ := succ_k hk
    simp only [impl_reduced.l0]
    rw [if_neg (by omega), List.drop_of_length_le (by omega)]
    rfl
  | succ d ih =>
    intro i k out hd ho hk
    obtain ⟨k, rfl⟩ := succ_k hk
    have hs := redStep_length out (rd l (i : Int))
    simp only [impl_reduced.l0]
    rw [if_pos (by omega), if_pos (by omega), if_pos (by omega), drop_rd l i (by omega), List.foldl_cons, w64 ((i : Int) + 1) (by omega) (by omega), cast_succ]
    by_cases h0 : 0 < out.length
    · have e1 : wrap64 ((out.length : Int) - 1) = ((out.length - 1 : Nat) : Int) := by rw [w64 _ (by omega) (by omega)]; omega
      rw [if_pos (by omega), e1, if_pos (by omega), if_pos (by omega)]
      by_cases h1 : rd out (((out.length - 1 : Nat) : Int)) = wrap64 (-(rd l (i : Int)))
      · have e2 : redStep out (rd l (i : Int)) = out.take (out.length - 1) := if_pos ⟨h0, h1⟩
        rw [if_pos h1, if_pos (by omega), Int.toNat_natCast, e2, ih (i + 1) k _ (by omega) (by simp; omega) (by omega)]
      · have e2 : redStep out (rd l (i : Int)) = out ++ [rd l (i : Int)] := if_neg fun h => h1 h.2
        rw [if_neg h1, if_pos (by omega), e2, ih (i + 1) k _ (by omega) (by simp; omega) (by omega)]
    · have e2 : redStep out (rd l (i : Int)) = out ++ [rd l (i : Int)] := if_neg fun h => h0 h.1
      rw [if_neg (by omega), if_pos (by omega), e2, ih (i + 1) k _ (by omega) (by simp; omega) (by omega)]
theorem implReduced_eq (l : List Int) (k : Nat) (hl : l.length ≤ 1099511627776) (hk : l.length < k) : impl_reduced.f k l = some (redOf l) := by
  have := implReduced_l0 l hl l.length 0 k [] (by omega) (by simp) hk
  unfold impl_reduced.f redOf
  simpa using this

theorem implisReduced_eq (g : Int) (hg : 0 ≤ g) (hg1 : g ≤ 4611686018427387904) (x : List Int) (k : Nat) (h : ∀ y ∈ x, (Lit.int .i64 y).wf = true) (hx : x.length ≤ 1099511627776) (hk : x.length < k) :
    impl_isReduced.f k x g = some (redB g x) := by
  unfold impl_isReduced.f redB
  rw [implisWord_eq g hg hg1 x h]
  simp only [Option.bind_some]
  by_cases hw : (letters g x && decide (x.length ≤ 120)) = true
  · rw [if_pos hw, hw, implReduced_eq x k hx hk]
    simp only [Option.bind_some, Bool.true_and]
    have := chain_iff x []
    simp only [List.length_nil, Nat.zero_add] at this
    congr 1
    rw [Bool.eq_iff_iff, ← this]
    simp [redOf]
    omega
  · rw [if_neg hw]
    have : (letters g x && decide (x.length ≤ 120)) = false := by simpa using hw
    rw [this]
    rfl

theorem anyO_all (g : Int) (hg : 0 ≤ g) (hg1 : g ≤ 24) (n k : Nat) (hn : n ≤ 1048576) (hk : n < k) : ∀ (l : List (List Int)), (∀ x ∈ l, x.length ≤ n) → (∀ x ∈ l, ∀ y ∈ x, (Lit.int .i64 y).wf = true) → anyO (impl_isPresentation.q k g) l = some (!(l.all (redB g)))
  | [], _, _ => rfl
  | x :: t, hr, hw => by
    simp only [anyO, impl_isPresentation.q]
    have hx := hr x List.mem_cons_self
    rw [implisReduced_eq g hg (by omega) x k (hw x List.mem_cons_self) (by omega) (by omega)]
    simp only [Option.bind_some]
    rw [anyO_all g hg hg1 n k hn hk t (fun y hy => hr y (List.mem_cons_of_mem _ hy)) (fun y hy => hw y (List.mem_cons_of_mem _ hy))]
    by_cases h : redB g x = true
    · simp [h]
    · simp [h]
theorem implisPres_eq (g : Int) (l : List (List Int)) (n k : Nat) (hn : n ≤ 1048576) (hr : ∀ x ∈ l, x.length ≤ n) (hw : ∀ x ∈ l, ∀ y ∈ x, (Lit.int .i64 y).wf = true) (hk : n < k) :
    impl_isPresentation.f k g l = some (presB g l) := by
  unfold impl_isPresentation.f presB
  by_cases h1 : 0 ≤ g ∧ g ≤ 24
  · rw [if_pos h1]
    by_cases h3 : l.length ≤ 48
    · rw [if_pos h3, anyO_all g h1.1 h1.2 n k hn hk l hr hw]
      simp [h1.1, h1.2, h3]
    · rw [if_neg h3]
      simp [h3]
  · rw [if_neg h1]
    by_cases h0 : 0 ≤ g <;> by_cases h4 : g ≤ 24 <;> simp [h0, h4]
    exact absurd ⟨h0, h4⟩ h1

theorem tabG_at {g : Nat} (h : g ≤ 3) : tabG g = true := List.all_eq_true.1 tabG_ok g (List.mem_range.2 (by omega))
/-- Is this a representation? -/
def isR (n : Nat) (R : List (List Int)) (G : List (List Int)) : Bool := R.all fun w => trivB G w n 0
theorem isR_map {n m g : Nat} {A : List (List Int)} (φ : List Int → List Int) (R : List (List Int)) (hR : ∀ w ∈ R, ∀ a ∈ w, a ≠ 0 ∧ -(g : Int) ≤ a ∧ a ≤ g)
    (h : ∀ {G : List (List Int)}, (∀ p ∈ G, p ∈ A) → ∀ w : List Int, (∀ a ∈ w, LetterIn G a) → trivB (G.map φ) w n 0 = trivB G w m 0) (G : List (List Int)) (hG : G ∈ tup A g) : isR n R (G.map φ) = isR m R G := by
  obtain ⟨h1, h2⟩ := tup_mem A g G hG
  unfold isR
  rw [Bool.eq_iff_iff, List.all_eq_true, List.all_eq_true]
  have e : ∀ w ∈ R, trivB (G.map φ) w n 0 = trivB G w m 0 := fun w hw => h h2 w fun a ha => by
    unfold LetterIn
    rw [h1]
    exact hR w hw a ha
  exact ⟨fun k w hw => by rw [← e w hw]; exact k w hw, fun k w hw => by rw [e w hw]; exact k w hw⟩
theorem isR_id {n g : Nat} (p : List Int) (hp : ∀ x : Nat, x < n → rd p (x : Int) = x ∧ invI p (x : Int) = x) (R : List (List Int)) (hR : ∀ w ∈ R, ∀ a ∈ w, a ≠ 0 ∧ -(g : Int) ≤ a ∧ a ≤ g) : isR n R (List.replicate g p) = true := by
  unfold isR
  rw [List.all_eq_true]
  intro w hw
  have hw2 : ∀ a ∈ w, LetterIn (List.replicate g p) a := fun a ha => by
    unfold LetterIn
    rw [List.length_replicate]
    exact hR w hw a ha
  have e : ∀ d x : Nat, x + d = n → trivB (List.replicate g p) w d x = true := by
    intro d
    induction d with
    | zero => exact fun _ _ => rfl
    | succ d ih =>
      intro x hx
      rw [trivB, ih (x + 1) (by omega), Bool.and_true, decide_eq_true_iff]
      exact actW_fix (fun q hq => by rw [(List.mem_replicate.1 hq).2]; exact hp x (by omega)) w hw2
  exact e n 0 (by omega)
/-- The numbers of representations. -/
def cR (n g : Nat) (A R : List (List Int)) : Nat := ((tup A g).filter (isR n R)).length
def cT (n g : Nat) (A R : List (List Int)) : Nat := (((tup A g).filter (isR n R)).filter (trT n)).length
theorem cR_eq (n g : Nat) (A R : List (List Int)) : cR n g A R = (tup A g).countP (isR n R) := by rw [cR, List.countP_eq_length_filter]
theorem cT_eq (n g : Nat) (A R : List (List Int)) : cT n g A R = (tup A g).countP fun G => trT n G && isR n R G := by rw [cT, List.filter_filter, List.countP_eq_length_filter]
theorem countP_same {α : Type} {p q : α → Bool} {l : List α} (h : ∀ x ∈ l, p x = q x) : l.countP p = l.countP q := List.countP_congr fun x hx => by rw [h x hx]
theorem countP_no {α : Type} {p : α → Bool} {l : List α} (h : ∀ x ∈ l, p x = false) : l.countP p = 0 := List.countP_eq_zero.2 fun x hx => by rw [h x hx]; simp
theorem sub_counts {g : Nat} (hg : g ≤ 3) (R : List (List Int)) (hR : ∀ w ∈ R, ∀ a ∈ w, a ≠ 0 ∧ -(g : Int) ≤ a ∧ a ≤ g) :
    ∃ x y : Nat, cR 2 g A2 R = 1 + x ∧ cT 2 g A2 R = x ∧ cR 3 g A3 R = 1 + 3 * x + 2 * y ∧ cT 3 g A3 R = 2 * y := by
  have ht := tabG_at hg
  unfold tabG at ht
  simp only [Bool.and_eq_true] at ht
  obtain ⟨⟨⟨⟨⟨t1, t2⟩, t3⟩, t4⟩, t5⟩, t6⟩ := ht
  have t1 := of_decide_eq_true t1
  have t2 := of_decide_eq_true t2
  have id2 : isR 2 R (List.replicate g [0, 1]) = true := isR_id [0, 1] (fun x hx => by
    have : x = 0 ∨ x = 1 := by omega
    rcases this with rfl | rfl <;> decide +kernel) R hR
  have id3 : isR 3 R (List.replicate g [0, 1, 2]) = true := isR_id [0, 1, 2] (fun x hx => by
    have : x = 0 ∨ x = 1 ∨ x = 2 := by omega
    rcases this with rfl | rfl | rfl <;> decide +kernel) R hR
  have hN : ∀ G ∈ N2 g, G ∈ tup A2 g ∧ trT 2 G = true ∧ trT 3 (G.map em0) = false ∧ trT 3 (G.map em1) = false ∧ trT 3 (G.map em2) = false := fun G hG => by
    have h1 := List.all_eq_true.1 t3 G hG
    simp only [Bool.and_eq_true, Bool.not_eq_true'] at h1
    exact ⟨(List.mem_filter.1 hG).1, h1⟩
  have hH : ∀ G ∈ H3 g, G ∈ tup A3 g ∧ trT 3 G = true ∧ trT 3 (G.map cj) = true := fun G hG => by
    have h1 := List.all_eq_true.1 t6 G hG
    simp only [Bool.and_eq_true] at h1
    exact ⟨(List.mem_filter.1 hG).1, h1⟩
  have n2 : trT 2 (List.replicate g [0, 1]) = false := by simpa using t4
  have n3 : trT 3 (List.replicate g [0, 1, 2]) = false := by simpa using t5
  have m0 : ∀ G ∈ N2 g, isR 3 R (G.map em0) = isR 2 R G := fun G hG => isR_map em0 R hR triv_em0 G (hN G hG).1
  have m1 : ∀ G ∈ N2 g, isR 3 R (G.map em1) = isR 2 R G := fun G hG => isR_map em1 R hR triv_em1 G (hN G hG).1
  have m2 : ∀ G ∈ N2 g, isR 3 R (G.map em2) = isR 2 R G := fun G hG => isR_map em2 R hR triv_em2 G (hN G hG).1
  have mc : ∀ G ∈ H3 g, isR 3 R (G.map cj) = isR 3 R G := fun G hG => isR_map cj R hR triv_cj G (hH G hG).1
  refine ⟨(N2 g).countP (isR 2 R), (H3 g).countP (isR 3 R), ?_, ?_, ?_, ?_⟩
  · rw [cR_eq, t1.countP_eq, List.countP_append, List.countP_cons, List.countP_nil, id2]
    simp
  · rw [cT_eq, t1.countP_eq, List.countP_append, List.countP_cons, List.countP_nil, n2, countP_same (q := isR 2 R) (fun G hG => by rw [(hN G hG).2.1, Bool.true_and])]
    simp
  · rw [cR_eq, t2.countP_eq, parts3]
    simp only [List.countP_append, List.countP_map]
    rw [countP_same (p := isR 3 R ∘ List.map em0) m0, countP_same (p := isR 3 R ∘ List.map em1) m1, countP_same (p := isR 3 R ∘ List.map em2) m2, countP_same (p := isR 3 R ∘ List.map cj) mc, List.countP_cons, List.countP_nil, id3]
    simp
    omega
  · rw [cT_eq, t2.countP_eq, parts3]
    simp only [List.countP_append, List.countP_map]
    rw [countP_no (p := (fun G => trT 3 G && isR 3 R G) ∘ List.map em0) (fun G hG => by simp [(hN G hG).2.2.1]), countP_no (p := (fun G => trT 3 G && isR 3 R G) ∘ List.map em1) (fun G hG => by simp [(hN G hG).2.2.2.1]), countP_no (p := (fun G => trT 3 G && isR 3 R G) ∘ List.map em2) (fun G hG => by simp [(hN G hG).2.2.2.2]),
      countP_same (p := (fun G => trT 3 G && isR 3 R G) ∘ List.map cj) (q := isR 3 R) (fun G hG => by show (trT 3 (G.map cj) && isR 3 R (G.map cj)) = isR 3 R G; rw [(hH G hG).2.2, mc G hG, Bool.true_and]), countP_same (p := fun G => trT 3 G && isR 3 R G) (l := H3 g) (q := isR 3 R) (fun G hG => by rw [(hH G hG).2.1, Bool.true_and]), List.countP_cons, List.countP_nil, n3]
    simp
    omega
theorem implCode3 {g n : Nat} (hg : g ≤ 3) (h1 : 1 ≤ n) (h3 : n ≤ 3) : impl_searchCode.l0 100 (n : Int) 1 (g : Int) 0 = some 0 := by
  have h : ((List.range 4).all fun g => (List.range 3).all fun m => decide (impl_searchCode.l0 100 ((m + 1 : Nat) : Int) 1 (g : Int) 0 = some 0)) = true := by decide +kernel
  have := of_decide_eq_true (List.all_eq_true.1 (List.all_eq_true.1 h g (List.mem_range.2 (by omega))) (n - 1) (List.mem_range.2 (by omega)))
  rwa [show n - 1 + 1 = n by omega] at this
theorem implCode_ev {g n : Nat} (hg : g ≤ 3) (h1 : 1 ≤ n) (h3 : n ≤ 3) {R : List (List Int)} (hp : presB (g : Int) R = true) (hRl : ∀ w ∈ R, w.length ≤ 1048576) (hRw : ∀ w ∈ R, ∀ y ∈ w, (Lit.int .i64 y).wf = true) : Evt (fun K => impl_searchCode.f K (g : Int) R (n : Int)) 0 := by
  have p2 : Evt (fun K => impl_isPresentation.f K (g : Int) R) (presB (g : Int) R) := ⟨1048577, fun K hK => implisPres_eq (g : Int) R 1048576 K (Nat.le_refl _) hRl hRw (by omega)⟩
  rw [hp] at p2
  refine Evt.bind p2 (h := fun K t => if t = true then ((impl_inRange.f (n : Int) 1 4).bind fun t252 => (if t252 = true then (impl_searchCode.l0 K (n : Int) 1 (g : Int) 0) else (some 2))) else (some 1)) ?_ fun _ => rfl
  refine Evt.same (g := fun K => impl_searchCode.l0 K (n : Int) 1 (g : Int) 0) ⟨100, fun K hK => at_rounds (g := fun K => impl_searchCode.l0 K (n : Int) 1 (g : Int) 0) (fun k => impl_searchCode.mono_l k _ _ _ _) hK (implCode3 hg h1 h3)⟩ fun K => ?_
  unfold impl_inRange.f
  rw [if_pos rfl, if_pos (by omega), Option.bind_some, if_pos (decide_eq_true (by omega))]
theorem perms3 {n : Nat} (h1 : 1 ≤ n) (h3 : n ≤ 3) : (∀ l ∈ permsF n n [] [], PermN n l) ∧ (permsF n n [] []).length ≤ 6 := by
  have h : ((List.range 3).all fun m => (permsF (m + 1) (m + 1) [] []).all (fun l => goP (m + 1) l.length [] l) && decide ((permsF (m + 1) (m + 1) [] []).length ≤ 6)) = true := by decide +kernel
  have h2 := List.all_eq_true.1 h (n - 1) (List.mem_range.2 (by omega))
  rw [show n - 1 + 1 = n by omega, Bool.and_eq_true] at h2
  exact ⟨fun l hl => permN_of (List.all_eq_true.1 h2.1 l hl), of_decide_eq_true h2.2⟩
theorem trT_ev {n : Nat} (hn : n ≤ 8) {G : List (List Int)} (hG : ∀ g ∈ G, PermN n g) (hl : G.length ≤ 1048576) : Evt (fun K => impl_isTransitive.f K (n : Int) G) (trT n G) := by
  obtain ⟨r, h1, h2⟩ := orbits_ev hn hG hl
  refine Evt.bind h1 (h := fun _ t => some ((t.length : Int) == 1)) (Evt.const fun _ => ?_) fun _ => rfl
  have e : r.length = (orbL n G n 0 []).length := h2.len
  unfold trT
  rw [Option.some.injEq, Bool.eq_iff_iff, beq_iff_eq, decide_eq_true_iff, e]
  omega
theorem few3 {g n : Nat} (hg : g ≤ 3) (h1 : 1 ≤ n) (h3 : n ≤ 3) : (tup (permsF n n [] []) g).length ≤ 216 := by
  rw [tup_len]
  have h := (perms3 h1 h3).2
  calc (permsF n n [] []).length ^ g ≤ 6 ^ g := Nat.pow_le_pow_left h g
    _ ≤ 6 ^ 3 := Nat.pow_le_pow_right (by omega) hg
    _ = 216 := rfl
section
variable {g n : Nat} (hg : g ≤ 3) (h1 : 1 ≤ n) (h3 : n ≤ 3) {R : List (List Int)} (hp : presB (g : Int) R = true) (hRl : ∀ w ∈ R, w.length ≤ 1048576) (hRw : ∀ w ∈ R, ∀ y ∈ w, (Lit.int .i64 y).wf = true)
include hg h1 h3 hp hRl hRw
theorem repN_ev : Evt (fun K => impl_RepresentationCount.f K (g : Int) R (n : Int)) ((cR n g (permsF n n [] []) R : Int), 0) := by
  have hrel := rels_in hp
  have hi := runEv h1 (by omega) (by omega) R hrel.1 hrel.2 hRl (perms3 h1 h3).1 (fun _ => repCount.vis) (fun _ s => (true, wrap64 (s + 1))) (fun _ _ _ _ => Evt.const fun _ => rfl) 0
  have hl : ((tup (permsF n n [] []) g).filter (isR n R)).length ≤ 216 := Nat.le_trans (List.length_filter_le _ _) (few3 hg h1 h3)
  have hv := visP_count (fun _ s => (true, wrap64 (s + 1))) (fun _ => true) ((tup (permsF n n [] []) g).filter (isR n R)) 0 (by omega) (fun _ _ _ _ => by rw [if_pos rfl])
  have hft : ∀ l : List (List (List Int)), l.filter (fun _ => true) = l := fun l => List.filter_eq_self.2 fun _ _ => rfl
  rw [show ((0 : Nat) : Int) = 0 from rfl, hft, Nat.zero_add] at hv
  have hi2 : Evt (fun K => repsRun K (g : Int) R (n : Int) repCount.vis 0) (true, (cR n g (permsF n n [] []) R : Int)) := by
    rw [show (true, (cR n g (permsF n n [] []) R : Int)) = visP (fun _ s => (true, wrap64 (s + 1))) ((tup (permsF n n [] []) g).filter (isR n R)) 0 from hv.symm]
    exact hi
  refine Evt.bind (implCode_ev hg h1 h3 hp hRl hRw) (h := fun K c => if c = 0 then (repsRun K (g : Int) R (n : Int) repCount.vis 0).bind fun r => some (r.2, 0) else some (0, c)) ?_ fun _ => rfl
  exact Evt.bind hi2 (h := fun _ r => some (r.2, 0)) (Evt.const fun _ => rfl) fun K => if_pos rfl
theorem transN_ev : Evt (fun K => impl_TransitiveCount.f K (g : Int) R (n : Int)) ((cT n g (permsF n n [] []) R : Int), 0) := by
  have hrel := rels_in hp
  have hi := runEv h1 (by omega) (by omega) R hrel.1 hrel.2 hRl (perms3 h1 h3).1 (fun K => transCount.vis K (n : Int)) (fun G s => (true, if trT n G = true then wrap64 (s + 1) else s)) (fun G hGl hG s => 
    Evt.bind (trT_ev (by omega) hG (by omega)) (h := fun _ b => some (true, if b = true then wrap64 (s + 1) else s)) (Evt.const fun _ => rfl) fun _ => rfl) 0
  have hl : ((tup (permsF n n [] []) g).filter (isR n R)).length ≤ 216 := Nat.le_trans (List.length_filter_le _ _) (few3 hg h1 h3)
  have hv := visP_count (fun G s => (true, if trT n G = true then wrap64 (s + 1) else s)) (trT n) ((tup (permsF n n [] []) g).filter (isR n R)) 0 (by omega) (fun _ _ _ _ => rfl)
  rw [show ((0 : Nat) : Int) = 0 from rfl, Nat.zero_add] at hv
  have hi2 : Evt (fun K => repsRun K (g : Int) R (n : Int) (transCount.vis K (n : Int)) 0) (true, (cT n g (permsF n n [] []) R : Int)) := by
    rw [show (true, (cT n g (permsF n n [] []) R : Int)) = visP (fun G s => (true, if trT n G = true then wrap64 (s + 1) else s)) ((tup (permsF n n [] []) g).filter (isR n R)) 0 from hv.symm]
    exact hi
  refine Evt.bind (implCode_ev hg h1 h3 hp hRl hRw) (h := fun K c => if c = 0 then (repsRun K (g : Int) R (n : Int) (transCount.vis K (n : Int)) 0).bind fun r => some (r.2, 0) else some (0, c)) ?_ fun _ => rfl
  exact Evt.bind hi2 (h := fun _ r => some (r.2, 0)) (Evt.const fun _ => rfl) fun K => if_pos rfl
theorem subN_ev (f : Int) (hf : impl_factorial.f 20 (wrap64 ((n : Int) - 1)) = some f) (hf0 : f ≠ 0) : Evt (fun K => impl_SubgroupCount.f K (g : Int) R (n : Int)) (wrap64 (Int.tdiv (cT n g (permsF n n [] []) R : Int) f), 0) := by
  have fe : Evt (fun K => impl_factorial.f K (wrap64 ((n : Int) - 1))) f := ⟨20, fun K hK => at_rounds (g := fun K => impl_factorial.f K (wrap64 ((n : Int) - 1))) (impl_factorial.mono _) hK hf⟩
  refine Evt.bind (transN_ev hg h1 h3 hp hRl hRw) (h := fun K bt312 => if bt312.2 = 0 then ((impl_factorial.f K (wrap64 ((n : Int) - 1))).bind fun t314 => (if t314 = 0 then (none) else (some (wrap64 (Int.tdiv bt312.1 t314), 0)))) else (some (0, bt312.2))) ?_ fun _ => rfl
  exact Evt.bind fe (h := fun _ t314 => if t314 = 0 then (none) else (some (wrap64 (Int.tdiv (cT n g (permsF n n [] []) R : Int) t314), 0))) (Evt.const fun K => if_neg hf0) fun K => if_pos rfl
end
theorem one_counts {g : Nat} (hg : g ≤ 3) (R : List (List Int)) (hR : ∀ w ∈ R, ∀ a ∈ w, a ≠ 0 ∧ -(g : Int) ≤ a ∧ a ≤ g) : cR 1 g [[0]] R = 1 ∧ cT 1 g [[0]] R = 1 := by
  have h : ((List.range 4).all fun g => decide (tup [[0]] g = [List.replicate g [0]]) && trT 1 (List.replicate g [0])) = true := by decide +kernel
  have h2 := List.all_eq_true.1 h g (List.mem_range.2 (by omega))
  rw [Bool.and_eq_true] at h2
  have e := of_decide_eq_true h2.1
  have hi : isR 1 R (List.replicate g [0]) = true := isR_id [0] (fun x hx => by
    obtain rfl : x = 0 := by omega
    decide +kernel) R hR
  unfold cR cT
  rw [e, List.filter_cons, List.filter_nil, hi]
  simp [h2.2]

theorem subg_law {g : Nat} (hg : g ≤ 3) {R : List (List Int)} (hp : presB (g : Int) R = true) (hRl : ∀ w ∈ R, w.length ≤ 1048576) (hRw : ∀ w ∈ R, ∀ y ∈ w, (Lit.int .i64 y).wf = true) :
    Evt (fun K => laws_FnSubgroups.j0 K false (g : Int) R) true := by
  have hrel := (rels_in hp).2
  obtain ⟨x, y, c1, c2, c3, c4⟩ := sub_counts hg R hrel
  obtain ⟨d1, d2⟩ := one_counts hg R hrel
  have p1 : permsF 1 1 [] [] = [[0]] := by decide +kernel
  have p2 : permsF 2 2 [] [] = A2 := by decide +kernel
  have p3 : permsF 3 3 [] [] = A3 := by decide +kernel
  have r1 := repN_ev hg (n := 1) (by omega) (by omega) hp hRl hRw
  have r2 := repN_ev hg (n := 2) (by omega) (by omega) hp hRl hRw
  have r3 := repN_ev hg (n := 3) (by omega) (by omega) hp hRl hRw
  have s1 := subN_ev hg (n := 1) (by omega) (by omega) hp hRl hRw 1 (by decide +kernel) (by decide)
  have s2 := subN_ev hg (n := 2) (by omega) (by omega) hp hRl hRw 1 (by decide +kernel) (by decide)
  have s3 := subN_ev hg (n := 3) (by omega) (by omega) hp hRl hRw 2 (by decide +kernel) (by decide)
  have few := few3 hg (n := 3) (by omega) (by omega)
  rw [p3] at few
  have hxy : 1 + 3 * x + 2 * y ≤ 216 := by
    rw [← c3]
    exact Nat.le_trans (List.length_filter_le _ _) few
  rw [p1, d1] at r1
  rw [p2, c1] at r2
  rw [p3, c3] at r3
  rw [p1, d2] at s1
  rw [p2, c2] at s2
  rw [p3, c4] at s3
  rw [show wrap64 (Int.tdiv ((1 : Nat) : Int) 1) = 1 from by decide +kernel] at s1
  have t2 : Int.tdiv ((x : Nat) : Int) 1 = (x : Int) := Int.tdiv_one _
  have t3 : Int.tdiv ((2 * y : Nat) : Int) 2 = (y : Int) := by
    rw [show ((2 * y : Nat) : Int) = 2 * (y : Int) by omega]
    exact Int.mul_tdiv_cancel_left _ (by decide)
  rw [t2, w64n x (by omega)] at s2
  rw [t3, w64n y (by omega)] at s3
  refine Evt.step (g := fun K => (impl_RepresentationCount.f K (g : Int) R 1).bind fun bt325 => ((impl_RepresentationCount.f K (g : Int) R 2).bind fun bt327 => ((impl_RepresentationCount.f K (g : Int) R 3).bind fun bt329 => ((impl_SubgroupCount.f K (g : Int) R 1).bind fun bt331 => ((impl_SubgroupCount.f K (g : Int) R 2).bind fun bt333 => ((impl_SubgroupCount.f K (g : Int) R 3).bind fun bt335 => (if (wrap64 ((wrap64 ((wrap64 ((wrap64 ((wrap64 (bt325.2 + bt327.2)) + bt329.2)) + bt331.2)) + bt333.2)) + bt335.2)) = 0 then (if bt325.1 = 1 then (if bt331.1 = 1 then (if bt333.1 = (wrap64 (bt327.1 - 1)) then (some ((wrap64 (2 * bt335.1)) == (wrap64 ((wrap64 (bt329.1 - 1)) - (wrap64 (3 * bt333.1)))))) else (some false)) else (some false)) else (some false)) else (some false)))))))) ?_ fun K => by rw [laws_FnSubgroups.j0, if_neg (by simp)]
  obtain ⟨k1, r1⟩ := r1
  obtain ⟨k2, r2⟩ := r2
  obtain ⟨k3, r3⟩ := r3
  obtain ⟨k4, s1⟩ := s1
  obtain ⟨k5, s2⟩ := s2
  obtain ⟨k6, s3⟩ := s3
  refine ⟨k1 + k2 + k3 + k4 + k5 + k6, fun K hK => ?_⟩
  have q1 : impl_RepresentationCount.f K (g : Int) R 1 = some (((1 : Nat) : Int), 0) := r1 K (by omega)
  have q2 : impl_RepresentationCount.f K (g : Int) R 2 = some (((1 + x : Nat) : Int), 0) := r2 K (by omega)
  have q3 : impl_RepresentationCount.f K (g : Int) R 3 = some (((1 + 3 * x + 2 * y : Nat) : Int), 0) := r3 K (by omega)
  have q4 : impl_SubgroupCount.f K (g : Int) R 1 = some (1, 0) := s1 K (by omega)
  have q5 : impl_SubgroupCount.f K (g : Int) R 2 = some (((x : Nat) : Int), 0) := s2 K (by omega)
  have q6 : impl_SubgroupCount.f K (g : Int) R 3 = some (((y : Nat) : Int), 0) := s3 K (by omega)
  have e1 : ((1 + x : Nat) : Int) - 1 = (x : Int) := by omega
  have e2 : ((1 + 3 * x + 2 * y : Nat) : Int) - 1 = ((3 * x + 2 * y : Nat) : Int) := by omega
  have e3 : 3 * (x : Int) = ((3 * x : Nat) : Int) := by omega
  have e4 : ((3 * x + 2 * y : Nat) : Int) - ((3 * x : Nat) : Int) = ((2 * y : Nat) : Int) := by omega
  have e5 : 2 * (y : Int) = ((2 * y : Nat) : Int) := by omega
  have b1 : x ≤ 9223372036854775807 := by omega
  have b2 : 3 * x + 2 * y ≤ 9223372036854775807 := by omega
  have b3 : 3 * x ≤ 9223372036854775807 := by omega
  have b4 : 2 * y ≤ 9223372036854775807 := by omega
  simp only
  rw [q1, Option.bind_some, q2, Option.bind_some, q3, Option.bind_some, q4, Option.bind_some, q5, Option.bind_some, q6, Option.bind_some]
  simp only
  rw [if_pos (by decide +kernel), if_pos (show ((1 : Nat) : Int) = 1 from rfl), if_pos trivial, e1, w64n x b1, if_pos rfl, e2, w64n _ b2, e3, w64n _ b3, e4, w64n _ b4, e5, w64n _ b4]
  simp
theorem FnSubgroups : laws_FnSubgroups.Pure := by
  intro b _ _ hb
  by_cases h : (b.length : Int) > 4096
  · refine ⟨0, ?_⟩
    unfold laws_FnSubgroups.f laws_big.f
    rw [decide_eq_true h]
    rfl
  · have hl : b.length ≤ 4096 := by omega
    have hbig : laws_big.f b = some false := by
      unfold laws_big.f
      rw [decide_eq_false h]
    obtain ⟨g, R, n, hd, hR, hRr⟩ := dRepCount hb hl
    have p1 : Evt (fun K => spec_IsPresentation.f K g R) (presB g R) := ⟨2097201, fun K hK => specPres_eq g R 1048576 K (Nat.le_refl _) (by omega) (fun w hw => Nat.le_trans (hRr w hw).1 (by decide)) (fun w hw => (hRr w hw).2) (by omega)⟩
    have hds : Evt (fun K => spec_DrawSubgroupCount.f K b) (g, R, n) := Evt.bind hd (h := fun _ bt303 => some (bt303.1, bt303.2.1, bt303.2.2)) (Evt.const fun _ => rfl) fun _ => rfl
    have fin : Evt (fun K => laws_FnSubgroups.f K b) true := by
      unfold laws_FnSubgroups.f
      refine evt_some hbig (Evt.same (g := fun K => (spec_DrawSubgroupCount.f K b).bind fun bt318 => ((spec_IsPresentation.f K bt318.1 bt318.2.1).bind fun t324 => (if t324 = true then (laws_FnSubgroups.j0 K (decide (bt318.1 > 3)) bt318.1 bt318.2.1) else (laws_FnSubgroups.j0 K true bt318.1 bt318.2.1)))) ?_ fun K => if_neg (by simp))
      refine Evt.bind hds (h := fun K bt318 => (spec_IsPresentation.f K bt318.1 bt318.2.1).bind fun t324 => (if t324 = true then (laws_FnSubgroups.j0 K (decide (bt318.1 > 3)) bt318.1 bt318.2.1) else (laws_FnSubgroups.j0 K true bt318.1 bt318.2.1))) ?_ fun _ => rfl
      refine Evt.bind p1 (h := fun K t324 => if t324 = true then (laws_FnSubgroups.j0 K (decide (g > 3)) g R) else (laws_FnSubgroups.j0 K true g R)) ?_ fun _ => rfl
      have out : Evt (fun K => laws_FnSubgroups.j0 K true g R) true := Evt.now fun K => by rw [laws_FnSubgroups.j0, if_pos rfl]
      by_cases c : presB g R = true
      · by_cases c3 : g > 3
        · exact Evt.same out fun K => by rw [if_pos c, decide_eq_true c3]
        · have hp := c
          unfold presB at hp
          rw [Bool.and_eq_true, Bool.and_eq_true, Bool.and_eq_true] at hp
          have hp1 := of_decide_eq_true hp.1.1.1
          obtain ⟨g, rfl⟩ : ∃ m : Nat, g = m := ⟨g.toNat, by omega⟩
          exact Evt.same (subg_law (by omega) c (fun w hw => Nat.le_trans (hRr w hw).1 (by decide)) (fun w hw => (hRr w hw).2)) fun K => by rw [if_pos c, decide_eq_false c3]
      · exact Evt.same out fun K => if_neg c
    obtain ⟨k, hk⟩ := fin
    exact ⟨k, hk k (Nat.le_refl _)⟩

end Go.Proofs.Ytinpfomadogadaa.Pure
