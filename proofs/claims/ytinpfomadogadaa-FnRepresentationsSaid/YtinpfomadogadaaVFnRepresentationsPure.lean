/- Representations come in order, from the first to the last, and one behind the last is not found. No condition: for every input that the statement lets in. -/
import Derived.Test.YtinpfomadogadaaVFnRepresentationsPx10
namespace Go.Proofs.Ytinpfomadogadaa.Pure
open Go.RowKit Go.Proofs.Ytinpfomadogadaa.PFnRepresentations Go.Proofs.YtinpfomadogadaaW.PrintWords Go.Proofs.YtinpfomadogadaaW.PrintLast

set_option linter.unusedSimpArgs false
set_option linter.unusedVariables false
set_option linter.unusedSectionVars false
theorem w64 (x : Int) (h0 : -9223372036854775808 ≤ x) (h1 : x ≤ 9223372036854775807) : wrap64 x = x := by
  unfold wrap64
  omega
theorem w64n (n : Nat) (h : n ≤ 9223372036854775807) : wrap64 (n : Int) = (n : Int) := w64 _ (by omega) (by omega)
theorem rd_nat (l : List Int) (i : Nat) (h : i < l.length) : rd l (i : Int) = l[i] := by
  simp [rd, List.getD, List.getElem?_eq_getElem h]
theorem succ_k {k n : Nat} (h : n < k) : ∃ m, k = m + 1 := ⟨k - 1, by omega⟩
theorem cast_succ (i : Nat) : ((i : Int) + 1) = ((i + 1 : Nat) : Int) := by omega
theorem drop_rd (l : List Int) (k : Nat) (h : k < l.length) : l.drop k = rd l (k : Int) :: l.drop (k + 1) := by
  rw [List.drop_eq_getElem_cons h, rd_nat l k h]

theorem wrap_u64_range (x : Int) : 0 ≤ IntKind.u64.wrap x ∧ IntKind.u64.wrap x < 18446744073709551616 := by
  have : IntKind.u64.wrap x = x % 18446744073709551616 := by simp [IntKind.wrap, IntKind.bits, IntKind.signed]
  rw [this]
  omega
theorem and24 (x : Int) (h0 : 0 ≤ x) (h1 : x < 18446744073709551616) : 0 ≤ Go.bits .and .u64 x 16777215 ∧ Go.bits .and .u64 x 16777215 ≤ 16777215 := by
  have h := Go.bits_mask .u64 64 (by decide) (fun n a b => by
    have : IntKind.u64.wrap n = n % 18446744073709551616 := by simp [IntKind.wrap, IntKind.bits, IntKind.signed]
    rw [this]
    omega) 24 (by decide) x h0 (by omega)
  rw [show ((2 : Int) ^ 24 - 1) = 16777215 from rfl, show ((2 : Int) ^ 24) = 16777216 from rfl] at h
  rw [h]
  omega
theorem byte_of (x : Int) (h : (Lit.int .u8 x).wf = true) : 0 ≤ x ∧ x ≤ 255 := by
  simpa [Lit.wf, IntKind.min, IntKind.max, IntKind.signed, IntKind.bits] using h
theorem byte_at (b : List Int) (hb : ∀ x ∈ b, (Lit.int .u8 x).wf = true) (i : Nat) (hi : i < b.length) : 0 ≤ rd b i ∧ rd b i ≤ 255 := by
  refine byte_of _ (hb _ ?_)
  rw [rd_nat b i hi]
  exact List.getElem_mem hi
theorem below_ok (b : List Int) (i h n : Int) (hb : ∀ x ∈ b, (Lit.int .u8 x).wf = true) (hl : b.length ≤ 4096) (hi : 0 ≤ i) (hn : 0 < n) (hn2 : n ≤ 1000000000) :
    ∃ (r : Nat) (i' h' : Int), laws_dice_below.f b i h n = some ((r : Int), i', h') ∧ (r : Int) < n ∧ 0 ≤ i' := by
  unfold laws_dice_below.f
  have hg := wrap_u64_range ((IntKind.u64.wrap (h * 6364136223846793005)) + 1442695040888963407)
  generalize IntKind.u64.wrap ((IntKind.u64.wrap (h * 6364136223846793005)) + 1442695040888963407) = g at hg ⊢
  have ha := and24 (g / 8589934592) (by omega) (by omega)
  generalize Go.bits .and .u64 (g / 8589934592) 16777215 = y at ha ⊢
  have wy := w64 y (by omega) (by omega)
  have hn0 : ¬ n = 0 := by omega
  rw [wy, if_neg hn0, if_neg hn0]
  by_cases c : i < (b.length : Int)
  · rw [if_pos c, if_pos hi]
    obtain ⟨j, rfl⟩ : ∃ j : Nat, i = j := ⟨i.toNat, by omega⟩
    have hx := byte_at b hb j (by omega)
    generalize rd b (j : Int) = x at hx ⊢
    have wx := w64 x (by omega) (by omega)
    have ws := w64 (y + x) (by omega) (by omega)
    have wj := w64 ((j : Int) + 1) (by omega) (by omega)
    rw [wx, ws, wj]
    have t0 := Int.tmod_nonneg n (show 0 ≤ y + x by omega)
    have t1 := Int.tmod_lt_of_pos (y + x) hn
    refine ⟨((y + x).tmod n).toNat, (j : Int) + 1, g, ?_, by omega, by omega⟩
    rw [Int.toNat_of_nonneg t0]
  · rw [if_neg c]
    have t0 := Int.tmod_nonneg n (show 0 ≤ y by omega)
    have t1 := Int.tmod_lt_of_pos y hn
    refine ⟨(y.tmod n).toNat, i, g, ?_, by omega, hi⟩
    rw [Int.toNat_of_nonneg t0]
theorem roll_l0 (b : List Int) (hl : b.length ≤ 4096) : ∀ (d i k : Nat) (h : Int), i + d = b.length → d < k → ∃ h', laws_roll.l0 k b (i : Int) b 0 h = some (b, 0, h') := by
  intro d
  induction d with
  | zero =>
    intro i k h hi hk
    obtain ⟨k, rfl⟩ := succ_k hk
    simp only [laws_roll.l0]
    rw [if_neg (by omega)]
    exact ⟨_, rfl⟩
  | succ d ih =>
    intro i k h hi hk
    obtain ⟨k, rfl⟩ := succ_k hk
    simp only [laws_roll.l0]
    rw [if_pos (by omega), if_pos (by omega), w64 ((i : Int) + 1) (by omega) (by omega), cast_succ]
    exact ih (i + 1) k _ (by omega) (by omega)
theorem roll_ok (b : List Int) (a : Int) (k : Nat) (hl : b.length ≤ 4096) (hk : b.length < k) : ∃ h, laws_roll.f k b a = some (b, 0, h) :=
  roll_l0 b hl b.length 0 k _ (by omega) hk

theorem len_le_of_sub : ∀ (l m : List Int), l.Nodup → (∀ x ∈ l, x ∈ m) → l.length ≤ m.length
  | [], m, _, _ => Nat.zero_le _
  | a :: l, m, h, hs => by
    obtain ⟨h1, h2⟩ := List.nodup_cons.1 h
    have ha : a ∈ m := hs a (by simp)
    have := len_le_of_sub l (m.erase a) h2 (fun x hx => (List.mem_erase_of_ne (fun (e : x = a) => h1 (e ▸ hx))).2 (hs x (List.mem_cons_of_mem _ hx)))
    rw [List.length_erase_of_mem ha] at this
    have hp : 0 < m.length := List.length_pos_of_mem ha
    rw [List.length_cons]
    omega
/-- The numbers below n. -/
def rangeI (n : Nat) : List Int := (List.range n).map fun (i : Nat) => (i : Int)
theorem rangeI_len (n : Nat) : (rangeI n).length = n := by simp [rangeI]
theorem rangeI_mem (n : Nat) (x : Int) : x ∈ rangeI n ↔ 0 ≤ x ∧ x < n := by
  unfold rangeI
  rw [List.mem_map]
  constructor
  · rintro ⟨i, hi, rfl⟩
    rw [List.mem_range] at hi
    omega
  · rintro ⟨h0, h1⟩
    exact ⟨x.toNat, by rw [List.mem_range]; omega, by omega⟩
def InN (n : Nat) (q : List Int) : Prop := ∀ x ∈ q, 0 ≤ x ∧ x < n
theorem short_of {n : Nat} {q : List Int} (h : q.Nodup) (hr : InN n q) : q.length ≤ n := by
  have := len_le_of_sub q (rangeI n) h (fun x hx => (rangeI_mem n x).2 (hr x hx))
  rwa [rangeI_len] at this
theorem full_of {n : Nat} {q : List Int} (h : q.Nodup) (hr : InN n q) (hl : n ≤ q.length) (y : Int) (h0 : 0 ≤ y) (h1 : y < n) : y ∈ q := by
  by_cases c : y ∈ q
  · exact c
  · have := short_of (q := y :: q) (List.nodup_cons.2 ⟨c, h⟩) (fun x hx => by
      rcases List.mem_cons.1 hx with rfl | hx
      · exact ⟨h0, h1⟩
      · exact hr x hx)
    rw [List.length_cons] at this
    omega
/-- A permutation of the numbers below n. -/
def PermN (n : Nat) (g : List Int) : Prop := g.length = n ∧ g.Nodup ∧ InN n g
theorem rd_in (l : List Int) (y : Int) (h0 : 0 ≤ y) (h1 : y < l.length) : rd l y ∈ l := by
  obtain ⟨m, rfl⟩ : ∃ m : Nat, y = m := ⟨y.toNat, by omega⟩
  rw [rd_nat l m (by omega)]
  exact List.getElem_mem _
theorem PermN.at {n : Nat} {g : List Int} (h : PermN n g) {y : Int} (h0 : 0 ≤ y) (h1 : y < n) : 0 ≤ rd g y ∧ rd g y < n := h.2.2 _ (rd_in g y h0 (by have := h.1; omega))
theorem PermN.inj {n : Nat} {g : List Int} (h : PermN n g) {a b : Int} (a0 : 0 ≤ a) (a1 : a < n) (b0 : 0 ≤ b) (b1 : b < n) (e : rd g a = rd g b) : a = b := by
  obtain ⟨i, rfl⟩ : ∃ m : Nat, a = m := ⟨a.toNat, by omega⟩
  obtain ⟨j, rfl⟩ : ∃ m : Nat, b = m := ⟨b.toNat, by omega⟩
  have hl := h.1
  rw [rd_nat g i (by omega), rd_nat g j (by omega)] at e
  have hp := List.pairwise_iff_getElem.1 h.2.1
  rcases Nat.lt_trichotomy i j with c | c | c
  · exact absurd e (hp i j (by omega) (by omega) c)
  · rw [c]
  · exact absurd e.symm (hp j i (by omega) (by omega) c)
/-- What a permutation sends into a closed set came out of it. -/
theorem PermN.back {n : Nat} {g : List Int} (h : PermN n g) {S : List Int} (hS : S.Nodup) (hr : InN n S) (hc : ∀ y ∈ S, rd g y ∈ S) {y : Int} (h0 : 0 ≤ y) (h1 : y < n) (hy : rd g y ∈ S) : y ∈ S := by
  by_cases c : y ∈ S
  · exact c
  · have hn : ((y :: S).map fun z => rd g z).Nodup := by
      unfold List.Nodup
      rw [List.pairwise_map]
      refine List.Pairwise.imp_of_mem (fun {a b} ha hb hab e => ?_) (List.nodup_cons.2 ⟨c, hS⟩)
      have ia : 0 ≤ a ∧ a < n := by rcases List.mem_cons.1 ha with rfl | ha; exact ⟨h0, h1⟩; exact hr a ha
      have ib : 0 ≤ b ∧ b < n := by rcases List.mem_cons.1 hb with rfl | hb; exact ⟨h0, h1⟩; exact hr b hb
      exact hab (h.inj ia.1 ia.2 ib.1 ib.2 e)
    have := len_le_of_sub _ S hn (fun x hx => by
      obtain ⟨z, hz, rfl⟩ := List.mem_map.1 hx
      rcases List.mem_cons.1 hz with rfl | hz
      · exact hy
      · exact hc z hz)
    rw [List.length_map, List.length_cons] at this
    omega
/-- The marks of a list. -/
def mkB (n : Nat) (q : List Int) : List Bool := (List.range n).map fun (i : Nat) => decide ((i : Int) ∈ q)
theorem mkB_length (n : Nat) (q : List Int) : (mkB n q).length = n := by simp [mkB]
theorem rdB (n : Nat) (q : List Int) (c : Int) (h0 : 0 ≤ c) (h1 : c < n) : rdOf false (mkB n q) c = decide (c ∈ q) := by
  obtain ⟨m, rfl⟩ : ∃ m : Nat, c = m := ⟨c.toNat, by omega⟩
  unfold rdOf mkB
  rw [Int.toNat_natCast, List.getD_eq_getElem?_getD, List.getElem?_map, List.getElem?_range (by omega)]
  rfl
theorem mkB_set (n : Nat) (q : List Int) (c : Int) (h0 : 0 ≤ c) : (mkB n q).set c.toNat true = mkB n (q ++ [c]) := by
  refine List.ext_getElem (by simp [mkB]) fun i h1 h2 => ?_
  simp only [mkB, List.getElem_set, List.getElem_map, List.getElem_range]
  by_cases e : c.toNat = i
  · rw [if_pos e]
    have : (i : Int) ∈ q ++ [c] := by simp; omega
    simp [this]
  · rw [if_neg e]
    have : ((i : Int) ∈ q ++ [c]) ↔ ((i : Int) ∈ q) := by
      rw [List.mem_append, List.mem_singleton]
      constructor
      · rintro (h | h)
        · exact h
        · omega
      · exact Or.inl
    exact decide_eq_decide.2 this.symm
theorem mkB_nil (n : Nat) : List.replicate n false = mkB n [] := by
  refine List.ext_getElem (by simp [mkB]) fun i h1 h2 => ?_
  unfold mkB
  simp
def Good (n : Nat) (o q : List Int) : Prop := (o ++ q).Nodup ∧ InN n (o ++ q)
theorem Good.len {n : Nat} {o q : List Int} (h : Good n o q) : q.length ≤ n := by
  have := short_of h.1 h.2
  rw [List.length_append] at this
  omega
/-- With enough rounds, the answer is r. -/
def Evt {α : Type} (f : Nat → Option α) (r : α) : Prop := ∃ c, ∀ K, c ≤ K → f K = some r
theorem Evt.step {α : Type} {f g : Nat → Option α} {r : α} (h : Evt g r) (e : ∀ K, f (K + 1) = g K) : Evt f r := by
  obtain ⟨c, hc⟩ := h
  refine ⟨c + 1, fun K hK => ?_⟩
  obtain ⟨K, rfl⟩ : ∃ m, K = m + 1 := ⟨K - 1, by omega⟩
  rw [e K]
  exact hc K (by omega)
theorem Evt.same {α : Type} {f g : Nat → Option α} {r : α} (h : Evt g r) (e : ∀ K, f K = g K) : Evt f r := by
  obtain ⟨c, hc⟩ := h
  exact ⟨c, fun K hK => by rw [e K]; exact hc K hK⟩
theorem Evt.now {α : Type} {f : Nat → Option α} {r : α} (e : ∀ K, f (K + 1) = some r) : Evt f r := by
  refine ⟨1, fun K hK => ?_⟩
  obtain ⟨K, rfl⟩ : ∃ m, K = m + 1 := ⟨K - 1, by omega⟩
  exact e K
theorem Evt.const {α : Type} {f : Nat → Option α} {r : α} (e : ∀ K, f K = some r) : Evt f r := ⟨0, fun K _ => e K⟩
theorem Evt.bind {α β : Type} {f : Nat → Option β} {g : Nat → Option α} {h : Nat → α → Option β} {x : α} {r : β} (hg : Evt g x) (hh : Evt (fun K => h K x) r) (e : ∀ K, f K = (g K).bind (h K)) : Evt f r := by
  obtain ⟨c, hc⟩ := hg
  obtain ⟨d, hd⟩ := hh
  exact ⟨c + d, fun K hK => by rw [e K, hc K (by omega)]; exact hd K (by omega)⟩
theorem Evt.bind1 {α β : Type} {f : Nat → Option β} {g : Nat → Option α} {h : Nat → α → Option β} {x : α} {r : β} (hg : Evt g x) (hh : Evt (fun K => h K x) r) (e : ∀ K, f (K + 1) = (g K).bind (h K)) : Evt f r :=
  Evt.step (g := fun K => (g K).bind (h K)) (Evt.bind hg hh fun _ => rfl) e
theorem rdL1_nat (l : List (List Int)) (i : Nat) (h : i < l.length) : rd_L1 l (i : Int) = l[i] := by
  simp [rd_L1, List.getD, List.getElem?_eq_getElem h]
theorem drop_rdL1 (l : List (List Int)) (k : Nat) (h : k < l.length) : l.drop k = rd_L1 l (k : Int) :: l.drop (k + 1) := by
  rw [List.drop_eq_getElem_cons h, rdL1_nat l k h]
theorem rdL1_mem (l : List (List Int)) (i : Nat) (h : i < l.length) : rd_L1 l (i : Int) ∈ l := by
  rw [rdL1_nat l i h]
  exact List.getElem_mem h

/-- The place of a number in a list; -1, if it is not there. -/
def idxF : List Int → Int → Nat → Int
  | [], _, _ => -1
  | x :: t, y, i => if x = y then (i : Int) else idxF t y (i + 1)
theorem idxF_at : ∀ (t : List Int) (y : Int) (i : Nat), y ∈ t → ∃ m : Nat, m < t.length ∧ idxF t y i = ((i + m : Nat) : Int) ∧ rd t (m : Int) = y
  | [], y, i, h => absurd h (by simp)
  | x :: t, y, i, h => by
    unfold idxF
    by_cases c : x = y
    · rw [if_pos c]
      exact ⟨0, by simp, rfl, c⟩
    · rw [if_neg c]
      obtain ⟨m, h1, h2, h3⟩ := idxF_at t y (i + 1) (by
        rcases List.mem_cons.1 h with e | e
        · exact absurd e.symm c
        · exact e)
      refine ⟨m + 1, by rw [List.length_cons]; omega, by rw [h2]; congr 1; omega, ?_⟩
      rw [← h3]
      simp only [rd, Int.toNat_natCast]
      rfl
/-- Where a permutation comes from. -/
def invI (g : List Int) (y : Int) : Int := idxF g y 0
theorem invI_at {n : Nat} {g : List Int} (h : PermN n g) {y : Int} (h0 : 0 ≤ y) (h1 : y < n) : (0 ≤ invI g y ∧ invI g y < n) ∧ rd g (invI g y) = y := by
  obtain ⟨m, h2, h3, h4⟩ := idxF_at g y 0 (full_of h.2.1 h.2.2 (by rw [h.1]; exact Nat.le_refl _) y h0 h1)
  rw [h.1] at h2
  rw [Nat.zero_add] at h3
  unfold invI
  rw [h3]
  exact ⟨⟨by omega, by omega⟩, h4⟩

/-- Where a letter maps a point. -/
def actL (G : List (List Int)) (a x : Int) : Int := if 0 < a then rd (rd_L1 G (a - 1)) x else invI (rd_L1 G (-a - 1)) x
def actW (G : List (List Int)) (w : List Int) (x : Int) : Int := w.foldl (fun x a => actL G a x) x
/-- A letter for which there is a permutation. -/
def LetterIn (G : List (List Int)) (a : Int) : Prop := a ≠ 0 ∧ -(G.length : Int) ≤ a ∧ a ≤ (G.length : Int)
theorem LetterIn.cases {G : List (List Int)} {a : Int} (h : LetterIn G a) : ∃ j : Nat, j < G.length ∧ (a = ((j + 1 : Nat) : Int) ∨ a = -((j + 1 : Nat) : Int)) := by
  obtain ⟨h0, h1, h2⟩ := h
  by_cases c : 0 < a
  · exact ⟨(a - 1).toNat, by omega, .inl (by omega)⟩
  · exact ⟨(-a - 1).toNat, by omega, .inr (by omega)⟩
theorem actL_pos (G : List (List Int)) (j : Nat) (x : Int) : actL G ((j + 1 : Nat) : Int) x = rd (rd_L1 G (j : Int)) x := by
  unfold actL
  rw [if_pos (by omega), show ((j + 1 : Nat) : Int) - 1 = (j : Int) by omega]
theorem actL_neg (G : List (List Int)) (j : Nat) (x : Int) : actL G (-((j + 1 : Nat) : Int)) x = invI (rd_L1 G (j : Int)) x := by
  unfold actL
  rw [if_neg (by omega), show -(-((j + 1 : Nat) : Int)) - 1 = (j : Int) by omega]
theorem actL_in {n : Nat} {G : List (List Int)} (hG : ∀ g ∈ G, PermN n g) {a x : Int} (ha : LetterIn G a) (h0 : 0 ≤ x) (h1 : x < n) : 0 ≤ actL G a x ∧ actL G a x < n := by
  obtain ⟨j, hj, rfl | rfl⟩ := ha.cases
  · rw [actL_pos]
    exact (hG _ (rdL1_mem G j hj)).at h0 h1
  · rw [actL_neg]
    exact (invI_at (hG _ (rdL1_mem G j hj)) h0 h1).1
/-- Does a word map each point to itself? -/
def trivB (G : List (List Int)) (w : List Int) : Nat → Nat → Bool
  | 0, _ => true
  | d + 1, x => decide (actW G w (x : Int) = (x : Int)) && trivB G w d (x + 1)
theorem neg_letter (j : Nat) (hj : j ≤ 1048576) : wrap64 (wrap64 (-(-((j + 1 : Nat) : Int))) - 1) = (j : Int) := by
  rw [Int.neg_neg, w64n (j + 1) (by omega), show ((j + 1 : Nat) : Int) - 1 = (j : Int) by omega]
  exact w64n j (by omega)
theorem pos_letter (j : Nat) (hj : j ≤ 1048576) : wrap64 (((j + 1 : Nat) : Int) - 1) = (j : Int) := by
  rw [show ((j + 1 : Nat) : Int) - 1 = (j : Int) by omega]
  exact w64n j (by omega)

/-- All tuples of d lists, in their order. -/
def tup (all : List (List Int)) : Nat → List (List (List Int))
  | 0 => [[]]
  | d + 1 => all.flatMap fun l => (tup all d).map (l :: ·)
/-- A visitor is shown one thing after the other, until it has enough. -/
def visP {σ : Type} (vp : List (List Int) → σ → Bool × σ) : List (List (List Int)) → σ → Bool × σ
  | [], s => (true, s)
  | G :: t, s => if (vp G s).1 = true then visP vp t (vp G s).2 else (false, (vp G s).2)
theorem visP_one {σ : Type} (vp : List (List Int) → σ → Bool × σ) (G : List (List Int)) (s : σ) : visP vp [G] s = vp G s := by
  rw [visP, visP]
  rcases vp G s with ⟨b, s'⟩
  cases b <;> rfl
theorem visP_append {σ : Type} (vp : List (List Int) → σ → Bool × σ) : ∀ (a b : List (List (List Int))) (s : σ), visP vp (a ++ b) s = if (visP vp a s).1 = true then visP vp b (visP vp a s).2 else (false, (visP vp a s).2)
  | [], b, s => by simp [visP]
  | G :: a, b, s => by
    rw [List.cons_append, visP, visP]
    by_cases c : (vp G s).1 = true
    · rw [if_pos c, if_pos c, visP_append vp a b]
    · rw [if_neg c, if_neg c]
      simp
theorem tup_len (all : List (List Int)) : ∀ d, (tup all d).length = all.length ^ d
  | 0 => rfl
  | d + 1 => by
    rw [tup, List.length_flatMap]
    simp only [List.length_map, tup_len all d]
    rw [List.map_const', List.sum_replicate_nat, Nat.pow_succ, Nat.mul_comm]
theorem tup_mem (all : List (List Int)) : ∀ (d : Nat) (G : List (List Int)), G ∈ tup all d → G.length = d ∧ ∀ x ∈ G, x ∈ all
  | 0, G, h => by
    rw [tup, List.mem_singleton] at h
    subst h
    simp
  | d + 1, G, h => by
    rw [tup, List.mem_flatMap] at h
    obtain ⟨l, hl, h⟩ := h
    obtain ⟨t, ht, rfl⟩ := List.mem_map.1 h
    obtain ⟨h1, h2⟩ := tup_mem all d t ht
    refine ⟨by simp [h1], fun x hx => ?_⟩
    rcases List.mem_cons.1 hx with rfl | hx
    · exact hl
    · exact h2 x hx

/-- The first place at which two rows differ: is the second's number the smaller? -/
def cmpRow : List Int → List Int → Option Bool
  | x :: a, y :: b => if x = y then cmpRow a b else some (decide (y < x))
  | _, _ => none
def cmpT : List (List Int) → List (List Int) → Option Bool
  | p :: a, q :: b => match cmpRow p q with
    | some v => some v
    | none => cmpT a b
  | _, _ => none
theorem cmpRow_self : ∀ a, cmpRow a a = none
  | [] => rfl
  | x :: a => by rw [cmpRow, if_pos rfl, cmpRow_self a]
theorem tup_sorted {A : List (List Int)} (hA : A.Pairwise fun b a => cmpRow a b = some true) : ∀ d, (tup A d).Pairwise fun b a => cmpT a b = some true
  | 0 => List.pairwise_singleton _ _
  | d + 1 => by
    rw [tup, List.pairwise_flatMap]
    refine ⟨fun l _ => ?_, hA.imp fun {l l'} h x hx y hy => ?_⟩
    · rw [List.pairwise_map]
      refine (tup_sorted hA d).imp fun {x y} h => ?_
      rw [cmpT, cmpRow_self]
      exact h
    · obtain ⟨t, _, rfl⟩ := List.mem_map.1 hx
      obtain ⟨t', _, rfl⟩ := List.mem_map.1 hy
      rw [cmpT, h]
theorem permsSorted {n : Nat} (h1 : 1 ≤ n) (h4 : n ≤ 4) : (permsF n n [] []).Pairwise fun b a => cmpRow a b = some true := by
  have h : ((List.range 4).all fun m => decide ((permsF (m + 1) (m + 1) [] []).Pairwise fun b a => cmpRow a b = some true)) = true := by decide +kernel
  have h2 := of_decide_eq_true (List.all_eq_true.1 h (n - 1) (List.mem_range.2 (by omega)))
  rwa [show n - 1 + 1 = n by omega] at h2

theorem lawRows_l1 {n : Nat} (hn : n ≤ 4) (a b : List (List Int)) (hab : a.length = b.length) (hl : a.length ≤ 1000) (ha : ∀ p ∈ a, p.length = n) (hb : ∀ p ∈ b, p.length = n) (i : Nat) (hi : i < a.length) (r : Bool) (h : Evt (fun K => laws_FnRepresentations.l0 K a b 0 ((i + 1 : Nat) : Int)) r) : ∀ (d x : Nat), x + d = n →
    Evt (fun K => laws_FnRepresentations.l1 K a b 0 (i : Int) (x : Int)) ((cmpRow ((rd_L1 a (i : Int)).drop x) ((rd_L1 b (i : Int)).drop x)).getD r)
  | 0, x, hd => by
    have e1 : (rd_L1 a (i : Int)).length = n := ha _ (rdL1_mem a i hi)
    have ei : wrap64 ((i : Int) + 1) = ((i + 1 : Nat) : Int) := w64n (i + 1) (by omega)
    have f1 : (i : Int) < (a.length : Int) := Int.ofNat_lt.2 hi
    rw [List.drop_of_length_le (by omega)]
    show Evt _ r
    refine Evt.step (g := fun K => laws_FnRepresentations.j4 K a b 0 (i : Int) (x : Int) false) (Evt.step h fun K => ?_) fun K => ?_
    · rw [laws_FnRepresentations.j4, if_neg (by simp), ei]
    · rw [laws_FnRepresentations.l1, if_pos (Int.natCast_nonneg i), if_pos f1, if_neg (by rw [e1]; clear ei; omega)]
  | d + 1, x, hd => by
    have e1 : (rd_L1 a (i : Int)).length = n := ha _ (rdL1_mem a i hi)
    have e2 : (rd_L1 b (i : Int)).length = n := hb _ (rdL1_mem b i (by omega))
    have f1 : (i : Int) < (a.length : Int) := Int.ofNat_lt.2 hi
    have f2 : (i : Int) < (b.length : Int) := Int.ofNat_lt.2 (by omega)
    have f3 : (x : Int) < (n : Int) := Int.ofNat_lt.2 (by omega)
    have ex : wrap64 ((x : Int) + 1) = ((x + 1 : Nat) : Int) := w64n (x + 1) (by omega)
    have ih := lawRows_l1 hn a b hab hl ha hb i hi r h d (x + 1) (by clear ex; omega)
    rw [drop_rd _ x (by rw [e1]; clear ex; omega), drop_rd _ x (by rw [e2]; clear ex; omega), cmpRow]
    refine Evt.step (g := fun K => laws_FnRepresentations.j4 K a b 0 (i : Int) (x : Int) true) ?_ fun K => by rw [laws_FnRepresentations.l1, if_pos (Int.natCast_nonneg i), if_pos f1, e1, if_pos f3, if_pos f2, e2, decide_eq_true f3]
    by_cases c : rd (rd_L1 a (i : Int)) (x : Int) = rd (rd_L1 b (i : Int)) (x : Int)
    · rw [if_pos c]
      exact Evt.step ih fun K => by rw [laws_FnRepresentations.j4, if_pos rfl, if_pos (Int.natCast_nonneg i), if_pos f1, if_pos (Int.natCast_nonneg x), e1, if_pos f3, if_pos f2, e2, if_pos f3, if_pos c, ex]
    · rw [if_neg c]
      exact Evt.now fun K => by
        rw [laws_FnRepresentations.j4, if_pos rfl, if_pos (Int.natCast_nonneg i), if_pos f1, if_pos (Int.natCast_nonneg x), e1, if_pos f3, if_pos f2, e2, if_pos f3, if_neg c, if_pos rfl]
        rfl
theorem lawRows_l0 {n : Nat} (hn : n ≤ 4) (a b : List (List Int)) (hab : a.length = b.length) (hl : a.length ≤ 1000) (ha : ∀ p ∈ a, p.length = n) (hb : ∀ p ∈ b, p.length = n) : ∀ (d i : Nat), i + d = a.length →
    Evt (fun K => laws_FnRepresentations.l0 K a b 0 (i : Int)) ((cmpT (a.drop i) (b.drop i)).getD false)
  | 0, i, hd => by
    rw [List.drop_of_length_le (by omega)]
    show Evt _ false
    refine Evt.step (g := fun K => laws_FnRepresentations.j2 K a b 0 (i : Int) false) (Evt.now fun K => by rw [laws_FnRepresentations.j2, if_neg (by simp)]) fun K => by rw [laws_FnRepresentations.l0, if_neg (by omega)]
  | d + 1, i, hd => by
    have hi : i < a.length := by omega
    have f1 : (i : Int) < (a.length : Int) := Int.ofNat_lt.2 hi
    have f2 : (i : Int) < (b.length : Int) := Int.ofNat_lt.2 (by omega)
    have ih := lawRows_l0 hn a b hab hl ha hb d (i + 1) (by omega)
    have h1 := lawRows_l1 hn a b hab hl ha hb i hi _ ih n 0 (Nat.zero_add _)
    rw [List.drop_zero, List.drop_zero] at h1
    rw [drop_rdL1 a i hi, drop_rdL1 b i (by omega), cmpT]
    have e : (match cmpRow (rd_L1 a (i : Int)) (rd_L1 b (i : Int)) with | some v => some v | none => cmpT (a.drop (i + 1)) (b.drop (i + 1))).getD false = (cmpRow (rd_L1 a (i : Int)) (rd_L1 b (i : Int))).getD ((cmpT (a.drop (i + 1)) (b.drop (i + 1))).getD false) := by
      cases cmpRow (rd_L1 a (i : Int)) (rd_L1 b (i : Int)) <;> rfl
    rw [e]
    exact Evt.step (g := fun K => laws_FnRepresentations.j2 K a b 0 (i : Int) true) (Evt.step h1 fun K => by rw [laws_FnRepresentations.j2, if_pos rfl]; rfl) fun K => by rw [laws_FnRepresentations.l0, if_pos f1, decide_eq_true f2]

theorem index_l0 (y : Int) (g : List Int) (hl : g.length ≤ 1048576) : ∀ (d i : Nat), i + d = g.length → Evt (fun K => slices_Index_int64_int64.l0 K g y (g.length : Int) (i : Int)) (idxF (g.drop i) y i)
  | 0, i, hd => by
    refine Evt.now fun K => ?_
    rw [slices_Index_int64_int64.l0, if_neg (by omega), List.drop_of_length_le (by omega)]
    rfl
  | d + 1, i, hd => by
    have hi : i < g.length := by omega
    have hd2 : i + 1 + d = g.length := by omega
    have ei : wrap64 ((i : Int) + 1) = ((i + 1 : Nat) : Int) := w64n (i + 1) (by omega)
    have f1 : (i : Int) < (g.length : Int) := Int.ofNat_lt.2 hi
    rw [drop_rd g i hi]
    unfold idxF
    by_cases c : rd g (i : Int) = y
    · rw [if_pos c]
      exact Evt.now fun K => by rw [slices_Index_int64_int64.l0, if_pos f1, if_pos (Int.natCast_nonneg i), if_pos f1, if_pos c.symm]
    · rw [if_neg c]
      exact Evt.step (index_l0 y g hl d (i + 1) hd2) fun K => by rw [slices_Index_int64_int64.l0, if_pos f1, if_pos (Int.natCast_nonneg i), if_pos f1, if_neg (Ne.symm c), ei]
theorem back_ev (y : Int) (g : List Int) (hl : g.length ≤ 1048576) : Evt (fun K => impl_back.f K g y) (invI g y) := by
  have h := index_l0 y g hl g.length 0 (Nat.zero_add _)
  rw [List.drop_zero] at h
  exact Evt.bind h (h := fun _ t => some t) (Evt.const fun _ => rfl) fun _ => rfl
theorem act_ev {n : Nat} (hn : n ≤ 8) {G : List (List Int)} (hG : ∀ g ∈ G, PermN n g) (hl : G.length ≤ 1048576) {a x : Int} (ha : LetterIn G a) (h0 : 0 ≤ x) (h1 : x < n) : Evt (fun K => impl_act.f K G a x) (actL G a x) := by
  obtain ⟨j, hj, rfl | rfl⟩ := ha.cases
  · have hp := hG _ (rdL1_mem G j hj)
    have e1 := pos_letter j (by omega)
    rw [actL_pos]
    refine Evt.const fun K => ?_
    unfold impl_act.f
    rw [if_pos (by clear e1; omega), e1, if_pos (Int.natCast_nonneg j), if_pos (Int.ofNat_lt.2 hj), if_pos h0, if_pos (by rw [hp.1]; exact h1)]
  · have hp := hG _ (rdL1_mem G j hj)
    have e1 := neg_letter j (by omega)
    rw [actL_neg]
    refine Evt.bind (back_ev x (rd_L1 G (j : Int)) (by rw [hp.1]; exact Nat.le_trans hn (by decide))) (h := fun _ t => some t) (Evt.const fun _ => rfl) fun K => ?_
    unfold impl_act.f
    rw [w64 (-(-((j + 1 : Nat) : Int))) (by clear e1; omega) (by clear e1; omega)] at e1
    rw [if_neg (by clear e1; omega), w64 (-(-((j + 1 : Nat) : Int))) (by clear e1; omega) (by clear e1; omega), e1, if_pos (Int.natCast_nonneg j), if_pos (Int.ofNat_lt.2 hj)]
theorem actWord_l0 {n : Nat} (hn : n ≤ 8) {G : List (List Int)} (hG : ∀ g ∈ G, PermN n g) (hl : G.length ≤ 1048576) (w : List Int) (hw : ∀ a ∈ w, LetterIn G a) (hwl : w.length ≤ 1048576) : ∀ (d i : Nat) (x : Int), i + d = w.length → 0 ≤ x → x < n →
    Evt (fun K => impl_actWord.l0 K G x w (w.length : Int) (i : Int)) (actW G (w.drop i) x)
  | 0, i, x, hd, h0, h1 => by
    refine Evt.now fun K => ?_
    rw [impl_actWord.l0, if_neg (by omega), List.drop_of_length_le (by omega)]
    rfl
  | d + 1, i, x, hd, h0, h1 => by
    have hi : i < w.length := by omega
    have hd2 : i + 1 + d = w.length := by omega
    have ei : wrap64 ((i : Int) + 1) = ((i + 1 : Nat) : Int) := w64n (i + 1) (by omega)
    have f1 : (i : Int) < (w.length : Int) := Int.ofNat_lt.2 hi
    have ha := hw _ (rd_in w (i : Int) (Int.natCast_nonneg i) f1)
    have hx := actL_in hG ha h0 h1
    rw [drop_rd w i hi]
    refine Evt.bind1 (act_ev hn hG hl ha h0 h1) (h := fun K t => impl_actWord.l0 K G t w (w.length : Int) ((i + 1 : Nat) : Int)) (actWord_l0 hn hG hl w hw hwl d (i + 1) _ hd2 hx.1 hx.2) fun K => ?_
    rw [impl_actWord.l0, if_pos f1, if_pos (Int.natCast_nonneg i), if_pos f1, ei]
theorem actWord_ev {n : Nat} (hn : n ≤ 8) {G : List (List Int)} (hG : ∀ g ∈ G, PermN n g) (hl : G.length ≤ 1048576) (w : List Int) (hw : ∀ a ∈ w, LetterIn G a) (hwl : w.length ≤ 1048576) (x : Int) (h0 : 0 ≤ x) (h1 : x < n) :
    Evt (fun K => impl_actWord.f K G w x) (actW G w x) := by
  have h := actWord_l0 hn hG hl w hw hwl w.length 0 x (Nat.zero_add _) h0 h1
  rw [List.drop_zero] at h
  exact h

theorem isTrivial_l0 {n : Nat} (hn : n ≤ 8) {G : List (List Int)} (hG : ∀ g ∈ G, PermN n g) (hl : G.length ≤ 1048576) (w : List Int) (hw : ∀ a ∈ w, LetterIn G a) (hwl : w.length ≤ 1048576) : ∀ (d x : Nat), x + d = n →
    Evt (fun K => impl_isTrivial.l0 K G w (n : Int) (x : Int)) (trivB G w d x)
  | 0, x, hd => by
    refine Evt.now fun K => ?_
    rw [impl_isTrivial.l0, if_neg (by omega)]
    rfl
  | d + 1, x, hd => by
    have hx : x < n := by omega
    have hd2 : x + 1 + d = n := by omega
    have ei : wrap64 ((x : Int) + 1) = ((x + 1 : Nat) : Int) := w64n (x + 1) (by omega)
    have f1 : (x : Int) < (n : Int) := Int.ofNat_lt.2 hx
    unfold trivB
    refine Evt.bind1 (actWord_ev hn hG hl w hw hwl (x : Int) (Int.natCast_nonneg x) f1) (h := fun K t => if t = (x : Int) then impl_isTrivial.l0 K G w (n : Int) ((x + 1 : Nat) : Int) else some false) ?_ fun K => ?_
    · by_cases c : actW G w (x : Int) = (x : Int)
      · rw [decide_eq_true c, Bool.true_and]
        exact Evt.same (isTrivial_l0 hn hG hl w hw hwl d (x + 1) hd2) fun K => if_pos c
      · rw [decide_eq_false c, Bool.false_and]
        exact Evt.const fun K => if_neg c
    · rw [impl_isTrivial.l0, if_pos f1, ei]
theorem isTrivial_ev {n : Nat} (hn : n ≤ 8) {G : List (List Int)} (hG : ∀ g ∈ G, PermN n g) (hl : G.length ≤ 1048576) (w : List Int) (hw : ∀ a ∈ w, LetterIn G a) (hwl : w.length ≤ 1048576) :
    Evt (fun K => impl_isTrivial.f K (n : Int) G w) (trivB G w n 0) := isTrivial_l0 hn hG hl w hw hwl n 0 (Nat.zero_add _)

/-- The tests of the places from m on hold. -/
def okT (n : Nat) (T : List (List (List Int))) : Nat → Nat → List (List Int) → Bool
  | m, 0, G => (T.getD m []).all fun w => trivB G w n 0
  | m, d + 1, G => ((T.getD m []).all fun w => trivB G w n 0) && okT n T (m + 1) d G
theorem anyO_trivQ {n : Nat} (hn : n ≤ 8) {G : List (List Int)} (hG : ∀ g ∈ G, PermN n g) (hl : G.length ≤ 1048576) : ∀ (R : List (List Int)), (∀ w ∈ R, ∀ b ∈ w, LetterIn G b) → (∀ w ∈ R, w.length ≤ 1048576) → Evt (fun K => anyO (trivQ K (n : Int) G) R) (!(R.all fun w => trivB G w n 0))
  | [], _, _ => Evt.const fun _ => rfl
  | w :: R, hw, hwl => by
    have h := isTrivial_ev hn hG hl w (hw w List.mem_cons_self) (hwl w List.mem_cons_self)
    have hq : Evt (fun K => trivQ K (n : Int) G w) (!(trivB G w n 0)) := Evt.bind h (h := fun _ b => some (!b)) (Evt.const fun _ => rfl) fun _ => rfl
    rw [List.all_cons]
    refine Evt.bind hq (h := fun K b => if b = true then some true else anyO (trivQ K (n : Int) G) R) ?_ fun _ => rfl
    by_cases c : trivB G w n 0 = true
    · rw [c, Bool.true_and]
      exact Evt.same (anyO_trivQ hn hG hl R (fun x hx => hw x (List.mem_cons_of_mem _ hx)) fun x hx => hwl x (List.mem_cons_of_mem _ hx)) fun K => if_neg (by simp)
    · rw [Bool.not_eq_true] at c
      rw [c, Bool.false_and]
      exact Evt.const fun K => if_pos rfl
theorem rdL1_app (G t : List (List Int)) (j : Nat) (h : j < G.length) : rd_L1 (G ++ t) (j : Int) = rd_L1 G (j : Int) := by
  simp only [rd_L1, Int.toNat_natCast]
  rw [List.getD_eq_getElem?_getD, List.getD_eq_getElem?_getD, List.getElem?_append_left h]
theorem actL_app (G t : List (List Int)) (a x : Int) (h : LetterIn G a) : actL (G ++ t) a x = actL G a x := by
  obtain ⟨j, hj, rfl | rfl⟩ := h.cases
  · rw [actL_pos, actL_pos, rdL1_app G t j hj]
  · rw [actL_neg, actL_neg, rdL1_app G t j hj]
theorem actW_app (G t : List (List Int)) : ∀ (w : List Int) (x : Int), (∀ a ∈ w, LetterIn G a) → actW (G ++ t) w x = actW G w x
  | [], x, _ => rfl
  | a :: w, x, h => by
    show actW (G ++ t) w (actL (G ++ t) a x) = actW G w (actL G a x)
    rw [actL_app G t a x (h a List.mem_cons_self)]
    exact actW_app G t w _ fun b hb => h b (List.mem_cons_of_mem _ hb)
theorem trivB_app (G t : List (List Int)) (w : List Int) (h : ∀ a ∈ w, LetterIn G a) : ∀ d x, trivB (G ++ t) w d x = trivB G w d x
  | 0, _ => rfl
  | d + 1, x => by rw [trivB, trivB, actW_app G t w _ h, trivB_app G t w h d]
theorem all_app (G t : List (List Int)) (n : Nat) : ∀ (R : List (List Int)), (∀ w ∈ R, ∀ a ∈ w, LetterIn G a) → (R.all fun w => trivB (G ++ t) w n 0) = R.all fun w => trivB G w n 0
  | [], _ => rfl
  | w :: R, h => by rw [List.all_cons, List.all_cons, trivB_app G t w (h w List.mem_cons_self), all_app G t n R fun x hx => h x (List.mem_cons_of_mem _ hx)]
theorem filter_none {α : Type} {p : α → Bool} : ∀ (l : List α), (∀ x ∈ l, p x = false) → l.filter p = []
  | [], _ => rfl
  | x :: l, h => by rw [List.filter_cons, if_neg (by rw [h x List.mem_cons_self]; simp), filter_none l fun y hy => h y (List.mem_cons_of_mem _ hy)]
/-- The search shows the visitor those tuples for which all tests hold. -/
theorem growEv {σ : Type} {n g : Nat} (hn : n ≤ 8) (hg : g ≤ 24) (T : List (List (List Int))) (hT : ∀ m w, w ∈ T.getD m [] → (∀ a ∈ w, a ≠ 0 ∧ -(m : Int) ≤ a ∧ a ≤ m) ∧ w.length ≤ 1048576) (all : List (List Int)) (hall : ∀ l ∈ all, PermN n l)
    (vis : Nat → List (List Int) → σ → Option (Bool × σ)) (vp : List (List Int) → σ → Bool × σ) (hv : ∀ G, G.length = g → (∀ l ∈ G, PermN n l) → ∀ s, Evt (fun K => vis K G s) (vp G s)) :
    ∀ (d : Nat) (images : List (List Int)) (s : σ), images.length + d = g → (∀ l ∈ images, PermN n l) → Evt (fun K => growG K (n : Int) T all (vis K) d images s) (visP vp (((tup all d).map (images ++ ·)).filter (okT n T images.length d)) s)
  | 0, images, s, hd, hi => by
    have hw : ∀ w ∈ T.getD images.length [], ∀ b ∈ w, LetterIn images b := fun w hw b hb => (hT _ w hw).1 b hb
    have ha := anyO_trivQ hn hi (by omega) (T.getD images.length []) hw (fun w hw => (hT _ w hw).2)
    refine Evt.bind ha (h := fun K b => if b = true then some (true, s) else vis K images s) ?_ fun _ => rfl
    rw [tup, List.map_singleton, List.append_nil, List.filter_cons, List.filter_nil, okT]
    by_cases c : ((T.getD images.length []).all fun w => trivB images w n 0) = true
    · rw [c, if_pos rfl, visP_one]
      refine Evt.same (hv images (by omega) hi s) fun K => ?_
      rw [if_neg (by simp)]
    · rw [Bool.not_eq_true] at c
      rw [c]
      exact Evt.const fun K => rfl
  | d + 1, images, s, hd, hi => by
    have hw : ∀ w ∈ T.getD images.length [], ∀ b ∈ w, LetterIn images b := fun w hw b hb => (hT _ w hw).1 b hb
    have ha := anyO_trivQ hn hi (by omega) (T.getD images.length []) hw (fun w hw => (hT _ w hw).2)
    refine Evt.bind ha (h := fun K b => if b = true then some (true, s) else foldG (fun l s => growG K (n : Int) T all (vis K) d (images ++ [l]) s) all s) ?_ fun _ => rfl
    by_cases c : ((T.getD images.length []).all fun w => trivB images w n 0) = true
    · rw [c]
      have e : ∀ (l : List (List Int)), (∀ x ∈ l, PermN n x) → ∀ s, Evt (fun K => foldG (fun l s => growG K (n : Int) T all (vis K) d (images ++ [l]) s) l s) (visP vp (((l.flatMap fun x => (tup all d).map (x :: ·)).map (images ++ ·)).filter (okT n T images.length (d + 1))) s) := by
        intro l
        induction l with
        | nil => exact fun _ s => Evt.const fun _ => rfl
        | cons x l ih =>
          intro hx s
          have h1 := growEv hn hg T hT all hall vis vp hv d (images ++ [x]) s (by rw [List.length_append, List.length_singleton]; omega) (fun y hy => by
            rcases List.mem_append.1 hy with h | h
            · exact hi y h
            · rw [List.mem_singleton.1 h]
              exact hx x List.mem_cons_self)
          have e1 : (((tup all d).map (x :: ·)).map (images ++ ·)).filter (okT n T images.length (d + 1)) = ((tup all d).map ((images ++ [x]) ++ ·)).filter (okT n T (images ++ [x]).length d) := by
            rw [List.map_map, show ((images ++ ·) ∘ (x :: ·) : List (List Int) → List (List Int)) = fun t => (images ++ [x]) ++ t from funext fun t => by simp]
            refine List.filter_congr fun G hG => ?_
            obtain ⟨t, _, rfl⟩ := List.mem_map.1 hG
            rw [okT, List.append_assoc, all_app images ([x] ++ t) n _ hw, c, Bool.true_and, List.length_append, List.length_singleton]
          rw [List.flatMap_cons, List.map_append, List.filter_append, visP_append, e1]
          refine Evt.bind h1 (h := fun K r => if r.1 = true then foldG (fun l s => growG K (n : Int) T all (vis K) d (images ++ [l]) s) l r.2 else some (false, r.2)) ?_ fun _ => rfl
          by_cases c2 : (visP vp (((tup all d).map ((images ++ [x]) ++ ·)).filter (okT n T (images ++ [x]).length d)) s).1 = true
          · rw [if_pos c2]
            exact Evt.same (ih (fun y hy => hx y (List.mem_cons_of_mem _ hy)) _) fun K => if_pos c2
          · rw [if_neg c2]
            exact Evt.const fun K => if_neg c2
      refine Evt.same (e all hall s) fun K => ?_
      rw [if_neg (by simp)]
    · rw [Bool.not_eq_true] at c
      rw [c, filter_none]
      · exact Evt.const fun K => rfl
      · intro G hG
        obtain ⟨t, _, rfl⟩ := List.mem_map.1 hG
        rw [okT, all_app images t n _ hw, c, Bool.false_and]
/-! the tests -/
theorem lastN_mono : ∀ (x : List Int) (m : Nat), m ≤ lastN x m
  | [], m => Nat.le_refl _
  | a :: t, m => Nat.le_trans (Nat.le_max_left _ _) (lastN_mono t _)
theorem lastN_mem : ∀ (x : List Int) (m : Nat) (a : Int), a ∈ x → a.natAbs ≤ lastN x m
  | b :: t, m, a, h => by
    rcases List.mem_cons.1 h with rfl | h
    · exact Nat.le_trans (Nat.le_max_right _ _) (lastN_mono t _)
    · exact lastN_mem t _ a h
theorem testsN_mem : ∀ (R : List (List Int)) (T : List (List (List Int))), (∀ x ∈ R, lastN x 0 < T.length) → ∀ m w, w ∈ (testsN R T).getD m [] ↔ w ∈ T.getD m [] ∨ w ∈ R ∧ lastN w 0 = m
  | [], T, _, m, w => by simp [testsN]
  | x :: R, T, h, m, w => by
    have hx := h x List.mem_cons_self
    rw [testsN, testsN_mem R _ (fun y hy => by rw [List.length_set]; exact h y (List.mem_cons_of_mem _ hy)) m w, List.mem_cons, List.getD_eq_getElem?_getD, List.getElem?_set]
    by_cases c : lastN x 0 = m
    · rw [if_pos c, if_pos hx, Option.getD_some, List.mem_append, List.mem_singleton, c]
      constructor
      · rintro ((h | rfl) | h)
        · exact .inl h
        · exact .inr ⟨.inl rfl, c⟩
        · exact .inr ⟨.inr h.1, h.2⟩
      · rintro (h | ⟨rfl | h, h2⟩)
        · exact .inl (.inl h)
        · exact .inl (.inr rfl)
        · exact .inr ⟨h, h2⟩
    · rw [if_neg c, ← List.getD_eq_getElem?_getD]
      constructor
      · rintro (h | h)
        · exact .inl h
        · exact .inr ⟨.inr h.1, h.2⟩
      · rintro (h | ⟨rfl | h, h2⟩)
        · exact .inl h
        · exact absurd h2 c
        · exact .inr ⟨h, h2⟩
theorem okT_iff (n : Nat) (T : List (List (List Int))) (G : List (List Int)) : ∀ (d m : Nat), okT n T m d G = true ↔ ∀ j, m ≤ j → j ≤ m + d → ∀ w ∈ T.getD j [], trivB G w n 0 = true
  | 0, m => by
    rw [okT, List.all_eq_true]
    constructor
    · intro h j h1 h2
      obtain rfl : j = m := by omega
      exact h
    · exact fun h => h m (Nat.le_refl _) (Nat.le_refl _)
  | d + 1, m => by
    rw [okT, Bool.and_eq_true, List.all_eq_true, okT_iff n T G d (m + 1)]
    constructor
    · rintro ⟨h1, h2⟩ j h3 h4
      by_cases c : j = m
      · subst c
        exact h1
      · exact h2 j (by omega) (by omega)
    · exact fun h => ⟨h m (Nat.le_refl _) (by omega), fun j h1 h2 => h j (by omega) (by omega)⟩
/-- All representations, shown to a visitor. -/
theorem runEv {σ : Type} {n g : Nat} (h1 : 1 ≤ n) (h4 : n ≤ 4) (hg : g ≤ 24) (R : List (List Int)) (hR : R.length ≤ 48) (hRw : ∀ x ∈ R, ∀ a ∈ x, a ≠ 0 ∧ -(g : Int) ≤ a ∧ a ≤ g) (hRl : ∀ x ∈ R, x.length ≤ 1048576) (hall : ∀ l ∈ permsF n n [] [], PermN n l)
    (vis : Nat → List (List Int) → σ → Option (Bool × σ)) (vp : List (List Int) → σ → Bool × σ) (hv : ∀ G, G.length = g → (∀ l ∈ G, PermN n l) → ∀ s, Evt (fun K => vis K G s) (vp G s)) (s : σ) :
    Evt (fun K => repsRun K (g : Int) R (n : Int) (vis K) s) (visP vp ((tup (permsF n n [] []) g).filter fun G => R.all fun w => trivB G w n 0) s) := by
  have hok : okReps (g : Int) R (n : Int) := ⟨by omega, by omega, by omega, by omega, hR, fun x hx a ha => by have := hRw x hx a ha; omega⟩
  have hle : ∀ x ∈ R, lastN x 0 ≤ g := fun x hx => lastN_le g x 0 (Nat.zero_le _) fun a ha => by have := hRw x hx a ha; omega
  obtain ⟨T, hTd⟩ : ∃ T, T = testsN R (List.replicate (g + 1) []) := ⟨_, rfl⟩
  have hTm : ∀ m w, w ∈ T.getD m [] ↔ w ∈ R ∧ lastN w 0 = m := fun m w => by
    rw [hTd, testsN_mem R _ (fun x hx => by rw [List.length_replicate]; exact Nat.lt_succ_of_le (hle x hx)) m w]
    have : ¬ w ∈ (List.replicate (g + 1) ([] : List (List Int))).getD m [] := by
      rw [List.getD_eq_getElem?_getD, List.getElem?_replicate]
      split <;> simp
    exact ⟨fun h => h.resolve_left this, .inr⟩
  have h := growEv (by omega : n ≤ 8) hg T (fun m w hw => by
    have hm := (hTm m w).1 hw
    exact ⟨fun a ha => ⟨(hRw w hm.1 a ha).1, by have := lastN_mem w 0 a ha; omega, by have := lastN_mem w 0 a ha; omega⟩, hRl w hm.1⟩) (permsF n n [] []) hall vis vp hv g [] s (by simp) (by simp)
  have e : ((tup (permsF n n [] []) g).map (([] : List (List Int)) ++ ·)).filter (okT n T ([] : List (List Int)).length g) = (tup (permsF n n [] []) g).filter fun G => R.all fun w => trivB G w n 0 := by
    rw [show ((([] : List (List Int)) ++ ·) : List (List Int) → List (List Int)) = id from funext fun t => by simp, List.map_id]
    refine List.filter_congr fun G _ => ?_
    rw [Bool.eq_iff_iff, okT_iff, List.all_eq_true]
    constructor
    · exact fun h w hw => h (lastN w 0) (by simp) (by have := hle w hw; simpa using this) w ((hTm _ w).2 ⟨hw, rfl⟩)
    · exact fun h j _ _ w hw => h w ((hTm j w).1 hw).1
  rw [e] at h
  refine Evt.same h fun K => ?_
  unfold repsRun
  rw [if_pos hok, Int.toNat_natCast, Int.toNat_natCast, hTd]

theorem visP_count (vp : List (List Int) → Int → Bool × Int) (p : List (List Int) → Bool) : ∀ (L : List (List (List Int))) (s : Nat), s + L.length ≤ 1000000 → (∀ G ∈ L, ∀ s : Nat, s ≤ 1000000 → vp G (s : Int) = (true, if p G = true then wrap64 ((s : Int) + 1) else (s : Int))) → visP vp L (s : Int) = (true, ((s + (L.filter p).length : Nat) : Int))
  | [], s, _, _ => by simp [visP]
  | G :: L, s, hs, h => by
    rw [List.length_cons] at hs
    have hG := h G List.mem_cons_self s (by omega)
    have hL : ∀ G ∈ L, ∀ s : Nat, s ≤ 1000000 → vp G (s : Int) = (true, if p G = true then wrap64 ((s : Int) + 1) else (s : Int)) := fun x hx => h x (List.mem_cons_of_mem _ hx)
    rw [visP, hG, if_pos rfl, List.filter_cons]
    by_cases c : p G = true
    · have e : wrap64 ((s : Int) + 1) = ((s + 1 : Nat) : Int) := w64n (s + 1) (by omega)
      rw [if_pos c, if_pos c, e, visP_count vp p L (s + 1) (by omega) hL, List.length_cons]
      congr 2
      omega
    · rw [if_neg c, if_neg c]
      exact visP_count vp p L s (by omega) hL

/-- Is a list a word? -/
def letters (g : Int) (l : List Int) : Bool := l.all fun x => decide (x ≠ 0) && (decide (-g ≤ x) && decide (x ≤ g))
theorem letters_mem {g : Int} {w : List Int} (h : letters g w = true) : ∀ a ∈ w, a ≠ 0 ∧ -g ≤ a ∧ a ≤ g := by
  intro a ha
  have := List.all_eq_true.1 h a ha
  simpa using this

/-- One more letter behind a reduced word. -/
def redStep (out : List Int) (x : Int) : List Int :=
  if 0 < out.length ∧ rd out (((out.length - 1 : Nat) : Int)) = wrap64 (-x) then out.take (out.length - 1) else out ++ [x]
def redOf (l : List Int) : List Int := l.foldl redStep []
theorem redStep_length (out : List Int) (x : Int) : (redStep out x).length ≤ out.length + 1 := by
  unfold redStep
  split
  · simp; omega
  · simp
theorem foldl_length : ∀ (l out : List Int), (l.foldl redStep out).length ≤ out.length + l.length
  | [], out => by simp
  | x :: r, out => by
    have h1 := foldl_length r (redStep out x)
    have h2 := redStep_length out x
    simp only [List.foldl_cons, List.length_cons]
    omega
theorem redOf_length (l : List Int) : (redOf l).length ≤ l.length := by
  have := foldl_length l []
  simpa [redOf] using this

/-- No letter of l cancels the one before it, out being what stands before. -/
def chainB : List Int → List Int → Bool
  | _, [] => true
  | out, x :: r => !(decide (0 < out.length) && decide (rd out ((out.length - 1 : Nat) : Int) = wrap64 (-x))) && chainB (out ++ [x]) r
theorem chain_iff : ∀ (l out : List Int), ((l.foldl redStep out).length = out.length + l.length) ↔ chainB out l = true
  | [], out => by simp [chainB]
  | x :: r, out => by
    simp only [List.foldl_cons, List.length_cons, chainB]
    by_cases h : 0 < out.length ∧ rd out ((out.length - 1 : Nat) : Int) = wrap64 (-x)
    · have e : redStep out x = out.take (out.length - 1) := if_pos h
      have hb : (decide (0 < out.length) && decide (rd out ((out.length - 1 : Nat) : Int) = wrap64 (-x))) = true := by
        rw [decide_eq_true h.1, decide_eq_true h.2]
        rfl
      rw [hb, e]
      have := foldl_length r (out.take (out.length - 1))
      rw [List.length_take] at this
      simp
      omega
    · have e : redStep out x = out ++ [x] := if_neg h
      have hb : (decide (0 < out.length) && decide (rd out ((out.length - 1 : Nat) : Int) = wrap64 (-x))) = false := by
        by_cases h0 : 0 < out.length
        · rw [decide_eq_false fun h1 => h ⟨h0, h1⟩, Bool.and_false]
        · rw [decide_eq_false h0]
          rfl
      rw [hb, e]
      have ih := chain_iff r (out ++ [x])
      simp only [List.length_append, List.length_singleton] at ih
      simp only [Bool.not_false, Bool.true_and]
      rw [← ih]
      omega
/-- A reduced word with letters up to g. -/
def redB (g : Int) (x : List Int) : Bool := letters g x && decide (x.length ≤ 120) && chainB [] x

def presB (g : Int) (l : List (List Int)) : Bool := decide (0 ≤ g) && decide (g ≤ 24) && decide (l.length ≤ 48) && l.all (redB g)

theorem rels_in {g : Nat} {R : List (List Int)} (h : presB (g : Int) R = true) : R.length ≤ 48 ∧ ∀ w ∈ R, ∀ a ∈ w, a ≠ 0 ∧ -(g : Int) ≤ a ∧ a ≤ g := by
  unfold presB at h
  rw [Bool.and_eq_true, Bool.and_eq_true, Bool.and_eq_true] at h
  refine ⟨of_decide_eq_true h.1.2, fun w hw a ha => ?_⟩
  have h1 := List.all_eq_true.1 h.2 w hw
  unfold redB at h1
  rw [Bool.and_eq_true, Bool.and_eq_true] at h1
  exact letters_mem h1.1.1 a ha

theorem wf64 {x : Int} (h : (Lit.int .i64 x).wf = true) : -9223372036854775808 ≤ x ∧ x ≤ 9223372036854775807 := by
  simpa [Lit.wf, IntKind.min, IntKind.max, IntKind.signed, IntKind.bits] using h
theorem bad_iff (g x : Int) (hg : 0 ≤ g) (hg1 : g ≤ 4611686018427387904) (h : (Lit.int .i64 x).wf = true) : isWord_bad g x = !(decide (x ≠ 0) && (decide (-g ≤ x) && decide (x ≤ g))) := by
  have hx := wf64 h
  have e : (!(decide (x ≠ 0) && (decide (-g ≤ x) && decide (x ≤ g)))) = decide (x = 0 ∨ ¬ (-g ≤ x ∧ x ≤ g)) := by
    by_cases h0 : x = 0 <;> by_cases h1 : -g ≤ x <;> by_cases h2 : x ≤ g <;> simp [h0, h1, h2]
  rw [e]
  unfold isWord_bad abs64
  rw [w64 (-g) (by omega) (by omega)]
  have e2 : (x == 0 || (decide (g < if x < 0 then wrap64 (-x) else x) || decide (x < -g))) = decide (x = 0 ∨ (g < (if x < 0 then wrap64 (-x) else x) ∨ x < -g)) := by
    show (decide (x = 0) || _) = _
    simp [Bool.decide_or]
  rw [e2]
  apply decide_eq_decide.mpr
  by_cases hn : x < 0
  · rw [if_pos hn]
    by_cases hm : x = -9223372036854775808
    · subst hm
      have : wrap64 (-(-9223372036854775808)) = -9223372036854775808 := by unfold wrap64; omega
      rw [this]
      omega
    · rw [w64 (-x) (by omega) (by omega)]
      omega
  · rw [if_neg hn]
    omega
theorem any_bad (g : Int) (hg : 0 ≤ g) (hg1 : g ≤ 4611686018427387904) (l : List Int) (h : ∀ x ∈ l, (Lit.int .i64 x).wf = true) : (!(l.any (isWord_bad g))) = letters g l := by
  unfold letters
  induction l with
  | nil => rfl
  | cons x r ih =>
    rw [List.any_cons, List.all_cons, Bool.not_or, ih fun y hy => h y (List.mem_cons_of_mem _ hy), bad_iff g x hg hg1 (h x List.mem_cons_self)]
    simp
theorem implisWord_eq (g : Int) (hg : 0 ≤ g) (hg1 : g ≤ 4611686018427387904) (l : List Int) (h : ∀ x ∈ l, (Lit.int .i64 x).wf = true) : impl_isWord.f l g = some (letters g l && decide (l.length ≤ 120)) := by
  unfold impl_isWord.f
  rw [any_bad g hg hg1 l h, Bool.and_comm]

theorem implReduced_l0 (l : List Int) (hl : l.length ≤ 1099511627776) : ∀ (d i k : Nat) (out : List Int), i + d = l.length → out.length ≤ i → d < k →
    impl_reduced.l0 k out l (l.length : Int) (i : Int) = some ((l.drop i).foldl redStep out) := by
  intro d
  induction d with
  | zero =>
    intro i k out hd ho hk
    obtain ⟨k, rfl⟩ := succ_k hk
    simp only [impl_reduced.l0]
    rw [if_neg (by omega), List.drop_of_length_le (by omega)]
    rfl
  | succ d ih =>
    intro i k out hd ho hk
    obtain ⟨k, rfl⟩ := succ_k hk
    have hs := redStep_length out (rd l (i : Int))
    simp only [impl_reduced.l0]
    rw [if_pos (by omega), if_pos (by omega), if_pos (by omega), drop_rd l i (by omega), List.foldl_cons, w64 ((i : Int) + 1) (by omega) (by omega), cast_succ]
    by_cases h0 : 0 < out.length
    · have e1 : wrap64 ((out.length : Int) - 1) = ((out.length - 1 : Nat) : Int) := by rw [w64 _ (by omega) (by omega)]; omega
      rw [if_pos (by omega), e1, if_pos (by omega), if_pos (by omega)]
      by_cases h1 : rd out (((out.length - 1 : Nat) : Int)) = wrap64 (-(rd l (i : Int)))
      · have e2 : redStep out (rd l (i : Int)) = out.take (out.length - 1) := if_pos ⟨h0, h1⟩
        rw [if_pos h1, if_pos (by omega), Int.toNat_natCast, e2, ih (i + 1) k _ (by omega) (by simp; omega) (by omega)]
      · have e2 : redStep out (rd l (i : Int)) = out ++ [rd l (i : Int)] := if_neg fun h => h1 h.2
        rw [if_neg h1, if_pos (by omega), e2, ih (i + 1) k _ (by omega) (by simp; omega) (by omega)]
    · have e2 : redStep out (rd l (i : Int)) = out ++ [rd l (i : Int)] := if_neg fun h => h0 h.1
      rw [if_neg (by omega), if_pos (by omega), e2, ih (i + 1) k _ (by omega) (by simp; omega) (by omega)]
theorem implReduced_eq (l : List Int) (k : Nat) (hl : l.length ≤ 1099511627776) (hk : l.length < k) : impl_reduced.f k l = some (redOf l) := by
  have := implReduced_l0 l hl l.length 0 k [] (by omega) (by simp) hk
  unfold impl_reduced.f redOf
  simpa using this

theorem implisReduced_eq (g : Int) (hg : 0 ≤ g) (hg1 : g ≤ 4611686018427387904) (x : List Int) (k : Nat) (h : ∀ y ∈ x, (Lit.int .i64 y).wf = true) (hx : x.length ≤ 1099511627776) (hk : x.length < k) :
    impl_isReduced.f k x g = some (redB g x) := by
  unfold impl_isReduced.f redB
  rw [implisWord_eq g hg hg1 x h]
  simp only [Option.bind_some]
  by_cases hw : (letters g x && decide (x.length ≤ 120)) = true
  · rw [if_pos hw, hw, implReduced_eq x k hx hk]
    simp only [Option.bind_some, Bool.true_and]
    have := chain_iff x []
    simp only [List.length_nil, Nat.zero_add] at this
    congr 1
    rw [Bool.eq_iff_iff, ← this]
    simp [redOf]
    omega
  · rw [if_neg hw]
    have : (letters g x && decide (x.length ≤ 120)) = false := by simpa using hw
    rw [this]
    rfl

theorem anyO_all (g : Int) (hg : 0 ≤ g) (hg1 : g ≤ 24) (n k : Nat) (hn : n ≤ 1048576) (hk : n < k) : ∀ (l : List (List Int)), (∀ x ∈ l, x.length ≤ n) → (∀ x ∈ l, ∀ y ∈ x, (Lit.int .i64 y).wf = true) → anyO (impl_isPresentation.q k g) l = some (!(l.all (redB g)))
  | [], _, _ => rfl
  | x :: t, hr, hw => by
    simp only [anyO, impl_isPresentation.q]
    have hx := hr x List.mem_cons_self
    rw [implisReduced_eq g hg (by omega) x k (hw x List.mem_cons_self) (by omega) (by omega)]
    simp only [Option.bind_some]
    rw [anyO_all g hg hg1 n k hn hk t (fun y hy => hr y (List.mem_cons_of_mem _ hy)) (fun y hy => hw y (List.mem_cons_of_mem _ hy))]
    by_cases h : redB g x = true
    · simp [h]
    · simp [h]
theorem implisPres_eq (g : Int) (l : List (List Int)) (n k : Nat) (hn : n ≤ 1048576) (hr : ∀ x ∈ l, x.length ≤ n) (hw : ∀ x ∈ l, ∀ y ∈ x, (Lit.int .i64 y).wf = true) (hk : n < k) :
    impl_isPresentation.f k g l = some (presB g l) := by
  unfold impl_isPresentation.f presB
  by_cases h1 : 0 ≤ g ∧ g ≤ 24
  · rw [if_pos h1]
    by_cases h3 : l.length ≤ 48
    · rw [if_pos h3, anyO_all g h1.1 h1.2 n k hn hk l hr hw]
      simp [h1.1, h1.2, h3]
    · rw [if_neg h3]
      simp [h3]
  · rw [if_neg h1]
    by_cases h0 : 0 ≤ g <;> by_cases h4 : g ≤ 24 <;> simp [h0, h4]
    exact absurd ⟨h0, h4⟩ h1

/-- The test of a permutation, entry by entry. -/
def goP (n len : Nat) : List Int → List Int → Bool
  | _, [] => decide (len = n)
  | q, x :: t => if 0 ≤ x ∧ x ≤ (n : Int) - 1 then (if x ∈ q then false else goP n len (q ++ [x]) t) else false
theorem goP_true (n len : Nat) : ∀ (t q : List Int), goP n len q t = true → q.Nodup → InN n q → (q ++ t).Nodup ∧ InN n (q ++ t) ∧ len = n
  | [], q, h, h1, h2 => by
    rw [List.append_nil]
    exact ⟨h1, h2, of_decide_eq_true h⟩
  | x :: t, q, h, h1, h2 => by
    unfold goP at h
    by_cases c : 0 ≤ x ∧ x ≤ (n : Int) - 1
    · rw [if_pos c] at h
      by_cases e : x ∈ q
      · rw [if_pos e] at h
        exact absurd h (by simp)
      · rw [if_neg e] at h
        have := goP_true n len t (q ++ [x]) h (List.nodup_append.2 ⟨h1, by simp, fun a ha b hb e2 => by
          rw [List.mem_singleton] at hb
          exact e (hb ▸ e2 ▸ ha)⟩) (fun y hy => by
          rw [List.mem_append, List.mem_singleton] at hy
          rcases hy with hy | rfl
          · exact h2 y hy
          · omega)
        rwa [List.append_assoc] at this
    · rw [if_neg c] at h
      exact absurd h (by simp)
theorem permN_of {n : Nat} {g : List Int} (h : goP n g.length [] g = true) : PermN n g := by
  obtain ⟨h1, h2, h3⟩ := goP_true n g.length g [] h (by simp) (fun x hx => absurd hx (by simp))
  exact ⟨h3, h1, h2⟩

theorem actW_fix {G : List (List Int)} {i : Int} (hG : ∀ p ∈ G, rd p i = i ∧ invI p i = i) : ∀ (w : List Int), (∀ a ∈ w, LetterIn G a) → actW G w i = i
  | [], _ => rfl
  | a :: w, hw => by
    have e1 : actL G a i = i := by
      obtain ⟨j, hj, rfl | rfl⟩ := (hw a List.mem_cons_self).cases
      · rw [actL_pos]
        exact (hG _ (rdL1_mem G j hj)).1
      · rw [actL_neg]
        exact (hG _ (rdL1_mem G j hj)).2
    show actW G w (actL G a i) = i
    rw [e1]
    exact actW_fix hG w fun b hb => hw b (List.mem_cons_of_mem _ hb)
/-- Is this a representation? -/
def isR (n : Nat) (R : List (List Int)) (G : List (List Int)) : Bool := R.all fun w => trivB G w n 0
theorem isR_id {n g : Nat} (p : List Int) (hp : ∀ x : Nat, x < n → rd p (x : Int) = x ∧ invI p (x : Int) = x) (R : List (List Int)) (hR : ∀ w ∈ R, ∀ a ∈ w, a ≠ 0 ∧ -(g : Int) ≤ a ∧ a ≤ g) : isR n R (List.replicate g p) = true := by
  unfold isR
  rw [List.all_eq_true]
  intro w hw
  have hw2 : ∀ a ∈ w, LetterIn (List.replicate g p) a := fun a ha => by
    unfold LetterIn
    rw [List.length_replicate]
    exact hR w hw a ha
  have e : ∀ d x : Nat, x + d = n → trivB (List.replicate g p) w d x = true := by
    intro d
    induction d with
    | zero => exact fun _ _ => rfl
    | succ d ih =>
      intro x hx
      rw [trivB, ih (x + 1) (by omega), Bool.and_true, decide_eq_true_iff]
      exact actW_fix (fun q hq => by rw [(List.mem_replicate.1 hq).2]; exact hp x (by omega)) w hw2
  exact e n 0 (by omega)

def permTab (n : Nat) : Bool := ((permsF n n [] []).all fun l => goP n l.length [] l) && decide ((permsF n n [] []).length ≤ 24) && ((permsF n n [] []).any fun p => (List.range n).all fun x => decide (rd p (x : Int) = x ∧ invI p (x : Int) = x))
theorem permTab_ok : ((List.range 4).all fun m => permTab (m + 1)) = true := by decide +kernel
theorem permTab_at {n : Nat} (h1 : 1 ≤ n) (h4 : n ≤ 4) : permTab n = true := by
  have := List.all_eq_true.1 permTab_ok (n - 1) (List.mem_range.2 (by omega))
  rwa [show n - 1 + 1 = n by omega] at this
theorem perm_all {n : Nat} (h1 : 1 ≤ n) (h4 : n ≤ 4) : ∀ l ∈ permsF n n [] [], PermN n l := by
  have h := permTab_at h1 h4
  unfold permTab at h
  rw [Bool.and_eq_true, Bool.and_eq_true] at h
  exact fun l hl => permN_of (List.all_eq_true.1 h.1.1 l hl)
theorem perm_id {n : Nat} (h1 : 1 ≤ n) (h4 : n ≤ 4) : ∃ p ∈ permsF n n [] [], ∀ x : Nat, x < n → rd p (x : Int) = x ∧ invI p (x : Int) = x := by
  have h := permTab_at h1 h4
  unfold permTab at h
  rw [Bool.and_eq_true, Bool.and_eq_true] at h
  obtain ⟨p, hp, hq⟩ := List.any_eq_true.1 h.2
  exact ⟨p, hp, fun x hx => of_decide_eq_true (List.all_eq_true.1 hq x (List.mem_range.2 hx))⟩
def codeTab0 (g n : Nat) : Bool := match impl_searchCode.l0 100 (n : Int) 1 (g : Int) 0 with
  | some c => decide (c = 3) || (decide (c = 0) && decide ((permsF n n [] []).length ^ g ≤ 200000))
  | none => false
theorem codeTab0_ok : ((List.range 25).all fun g => (List.range 4).all fun m => codeTab0 g (m + 1)) = true := by decide +kernel
theorem codeTab0_at {g n : Nat} (hg : g ≤ 24) (h1 : 1 ≤ n) (h4 : n ≤ 4) : ∃ c, impl_searchCode.l0 100 (n : Int) 1 (g : Int) 0 = some c ∧ (c = 0 → (permsF n n [] []).length ^ g ≤ 200000) := by
  have h := List.all_eq_true.1 (List.all_eq_true.1 codeTab0_ok g (List.mem_range.2 (by omega))) (n - 1) (List.mem_range.2 (by omega))
  rw [show n - 1 + 1 = n by omega] at h
  unfold codeTab0 at h
  cases hx : impl_searchCode.l0 100 (n : Int) 1 (g : Int) 0 with
  | none => rw [hx] at h; cases h
  | some c =>
    rw [hx] at h
    refine ⟨c, rfl, fun h0 => ?_⟩
    subst h0
    simpa using h
theorem code_impl (a0 a1 : Int) (R : List (List Int)) (hRl : ∀ w ∈ R, w.length ≤ 1048576) (hRw : ∀ w ∈ R, ∀ y ∈ w, (Lit.int .i64 y).wf = true) :
    ∃ c, Evt (fun K => impl_searchCode.f K a0 R a1) c ∧ (c = 0 → presB a0 R = true ∧ ∃ g n : Nat, a0 = g ∧ a1 = n ∧ g ≤ 24 ∧ 1 ≤ n ∧ n ≤ 4 ∧ (permsF n n [] []).length ^ g ≤ 200000) := by
  have p2 : Evt (fun K => impl_isPresentation.f K a0 R) (presB a0 R) := ⟨1048577, fun K hK => implisPres_eq a0 R 1048576 K (Nat.le_refl _) hRl hRw (by omega)⟩
  have i2 : impl_inRange.f a1 1 4 = some (decide (1 ≤ a1 ∧ a1 ≤ 4)) := by
    unfold impl_inRange.f
    by_cases c : 1 ≤ a1
    · rw [if_pos c, Option.some.injEq, decide_eq_decide]
      omega
    · rw [if_neg c, decide_eq_false (by omega)]
  by_cases c1 : presB a0 R = true
  · rw [c1] at p2
    by_cases c2 : 1 ≤ a1 ∧ a1 ≤ 4
    · rw [decide_eq_true c2] at i2
      have hp := c1
      unfold presB at hp
      rw [Bool.and_eq_true, Bool.and_eq_true, Bool.and_eq_true] at hp
      have hp1 := of_decide_eq_true hp.1.1.1
      have hp2 := of_decide_eq_true hp.1.1.2
      obtain ⟨g, rfl⟩ : ∃ g : Nat, a0 = g := ⟨a0.toNat, by omega⟩
      obtain ⟨n, rfl⟩ : ∃ n : Nat, a1 = n := ⟨a1.toNat, by omega⟩
      obtain ⟨c, h1, h3⟩ := codeTab0_at (g := g) (n := n) (by omega) (by omega) (by omega)
      refine ⟨c, ?_, fun h0 => ⟨c1, g, n, rfl, rfl, by omega, by omega, by omega, h3 h0⟩⟩
      refine Evt.bind p2 (h := fun K t => if t = true then ((impl_inRange.f (n : Int) 1 4).bind fun t252 => (if t252 = true then (impl_searchCode.l0 K (n : Int) 1 (g : Int) 0) else (some 2))) else (some 1)) (Evt.same (g := fun K => impl_searchCode.l0 K (n : Int) 1 (g : Int) 0) ⟨100, fun K hK => at_rounds (g := fun K => impl_searchCode.l0 K (n : Int) 1 (g : Int) 0) (fun k => impl_searchCode.mono_l k _ _ _ _) hK h1⟩ fun K => ?_) fun _ => rfl
      rw [if_pos rfl, i2, Option.bind_some, if_pos rfl]
    · rw [decide_eq_false c2] at i2
      refine ⟨2, ?_, fun h => absurd h (by decide)⟩
      refine Evt.bind p2 (h := fun K t => if t = true then ((impl_inRange.f a1 1 4).bind fun t252 => (if t252 = true then (impl_searchCode.l0 K a1 1 a0 0) else (some 2))) else (some 1)) (Evt.const fun K => ?_) fun _ => rfl
      rw [if_pos rfl, i2, Option.bind_some, if_neg (by simp)]
  · rw [Bool.not_eq_true] at c1
    rw [c1] at p2
    refine ⟨1, ?_, fun h => absurd h (by decide)⟩
    exact Evt.bind p2 (h := fun K t => if t = true then ((impl_inRange.f a1 1 4).bind fun t252 => (if t252 = true then (impl_searchCode.l0 K a1 1 a0 0) else (some 2))) else (some 1)) (Evt.const fun K => if_neg (by simp)) fun _ => rfl

theorem copy_l0 (G : List (List Int)) (hl : G.length ≤ 1000) (hr : ∀ p ∈ G, p.length ≤ 1000) : ∀ (d i : Nat), i + d = G.length → Evt (fun K => impl_copyLists.l0 K (G.take i) G (G.length : Int) (i : Int)) G
  | 0, i, hd => by
    rw [List.take_of_length_le (by omega)]
    exact Evt.now fun K => by rw [impl_copyLists.l0, if_neg (by omega)]
  | d + 1, i, hd => by
    have hi : i < G.length := by omega
    have f1 : (i : Int) < (G.length : Int) := Int.ofNat_lt.2 hi
    have ei : wrap64 ((i : Int) + 1) = ((i + 1 : Nat) : Int) := w64n (i + 1) (by omega)
    have e2 : (rd_L1 G (i : Int)).length < 17592186044416 := Nat.lt_of_le_of_lt (hr _ (rdL1_mem G i hi)) (by decide)
    have e3 : (G.take i).length < 5864062014805 := by rw [List.length_take]; clear ei; omega
    have ih := copy_l0 G hl hr d (i + 1) (by clear ei; omega)
    rw [List.take_succ_eq_append_getElem hi, ← rdL1_nat G i hi] at ih
    exact Evt.step ih fun K => by rw [impl_copyLists.l0, if_pos f1, if_pos (Int.natCast_nonneg i), if_pos f1, slices_Clone_int64_int64.f, if_pos e2, Option.bind_some, if_pos e3, ei]
theorem copy_ev (G : List (List Int)) (hl : G.length ≤ 1000) (hr : ∀ p ∈ G, p.length ≤ 1000) : Evt (fun K => impl_copyLists.f K G) G := by
  have h := copy_l0 G hl hr G.length 0 (Nat.zero_add _)
  rw [List.take_zero] at h
  exact h
/-- RepresentationAt's visitor. -/
def vpAt (G : List (List Int)) (s : Int × List (List Int) × Bool) : Bool × (Int × List (List Int) × Bool) :=
  if s.1 = 0 then (false, (wrap64 (s.1 - 1), G, true)) else (!s.2.2 && decide (wrap64 (s.1 - 1) ≥ 0), (wrap64 (s.1 - 1), s.2))
theorem vpAt_zero (G : List (List Int)) (o : List (List Int)) : vpAt G ((0 : Nat), o, false) = (false, (wrap64 ((0 : Int) - 1), G, true)) := by
  unfold vpAt
  dsimp only
  rw [if_pos (show ((0 : Nat) : Int) = 0 from rfl)]
  rfl
theorem vpAt_succ (G : List (List Int)) (o : List (List Int)) (q : Nat) (hq : q ≤ 1000000) : vpAt G (((q + 1 : Nat) : Int), o, false) = (true, ((q : Nat) : Int), o, false) := by
  have e : wrap64 (((q + 1 : Nat) : Int) - 1) = (q : Int) := by
    rw [show ((q + 1 : Nat) : Int) - 1 = (q : Int) by omega]
    exact w64n q (by omega)
  unfold vpAt
  simp only
  rw [if_neg (by clear e; omega), e, decide_eq_true (show (q : Int) ≥ 0 from Int.natCast_nonneg q)]
  rfl
theorem visP_at : ∀ (L : List (List (List Int))) (q : Nat) (o : List (List Int)), q ≤ 1000000 → ∃ b s, visP vpAt L ((q : Nat), o, false) = (b, s) ∧ (q < L.length → s.2 = (L.getD q [], true)) ∧ (L.length ≤ q → s.2 = (o, false))
  | [], q, o, _ => ⟨true, ((q : Nat), o, false), rfl, fun h => by simp at h, fun _ => rfl⟩
  | G :: L, 0, o, _ => by
    refine ⟨false, (wrap64 ((0 : Int) - 1), G, true), ?_, fun _ => rfl, fun h => by simp at h⟩
    rw [visP, vpAt_zero, if_neg (by simp)]
  | G :: L, q + 1, o, hq => by
    obtain ⟨b, s, h1, h2, h3⟩ := visP_at L q o (by omega)
    refine ⟨b, s, ?_, fun h => ?_, fun h => ?_⟩
    · rw [visP, vpAt_succ G o q (by omega), if_pos rfl, h1]
    · rw [List.length_cons] at h
      rw [h2 (by omega)]
      rfl
    · rw [List.length_cons] at h
      exact h3 (by omega)
section
variable {g n : Nat} (hg : g ≤ 24) (h1 : 1 ≤ n) (h4 : n ≤ 4) {R : List (List Int)} (hp : presB (g : Int) R = true) (hRl : ∀ w ∈ R, w.length ≤ 1048576) (hc : Evt (fun K => impl_searchCode.f K (g : Int) R (n : Int)) 0) (hN : (permsF n n [] []).length ^ g ≤ 200000)
include hg h1 h4 hp hRl hc hN
theorem count_ev4 : Evt (fun K => impl_RepresentationCount.f K (g : Int) R (n : Int)) ((((tup (permsF n n [] []) g).filter (isR n R)).length : Int), 0) := by
  have hrel := rels_in hp
  have hi := runEv h1 h4 hg R hrel.1 hrel.2 hRl (perm_all h1 h4) (fun _ => repCount.vis) (fun _ s => (true, wrap64 (s + 1))) (fun _ _ _ _ => Evt.const fun _ => rfl) 0
  have hl : ((tup (permsF n n [] []) g).filter (isR n R)).length ≤ 200000 := Nat.le_trans (List.length_filter_le _ _) (by rw [tup_len]; exact hN)
  have hv := visP_count (fun _ s => (true, wrap64 (s + 1))) (fun _ => true) ((tup (permsF n n [] []) g).filter (isR n R)) 0 (by omega) (fun _ _ _ _ => by rw [if_pos rfl])
  have hft : ∀ l : List (List (List Int)), l.filter (fun _ => true) = l := fun l => List.filter_eq_self.2 fun _ _ => rfl
  rw [show ((0 : Nat) : Int) = 0 from rfl, hft, Nat.zero_add] at hv
  have hi2 : Evt (fun K => repsRun K (g : Int) R (n : Int) repCount.vis 0) (true, (((tup (permsF n n [] []) g).filter (isR n R)).length : Int)) := by
    rw [show (true, (((tup (permsF n n [] []) g).filter (isR n R)).length : Int)) = visP (fun _ s => (true, wrap64 (s + 1))) ((tup (permsF n n [] []) g).filter (isR n R)) 0 from hv.symm]
    exact hi
  refine Evt.bind hc (h := fun K c => if c = 0 then (repsRun K (g : Int) R (n : Int) repCount.vis 0).bind fun r => some (r.2, 0) else some (0, c)) ?_ fun _ => rfl
  exact Evt.bind hi2 (h := fun _ r => some (r.2, 0)) (Evt.const fun _ => rfl) fun K => if_pos rfl
theorem at_ev4 (q : Nat) (hq : q ≤ 1000000) : Evt (fun K => impl_RepresentationAt.f K (g : Int) R (n : Int) (q : Int)) (if q < ((tup (permsF n n [] []) g).filter (isR n R)).length then (((tup (permsF n n [] []) g).filter (isR n R)).getD q [], 0) else ([], 4)) := by
  have hrel := rels_in hp
  have hi := runEv h1 h4 hg R hrel.1 hrel.2 hRl (perm_all h1 h4) (fun K => repAt.vis K) vpAt (fun G hGl hG s => by
    have hcp := copy_ev G (by omega) (fun p hp => by rw [(hG p hp).1]; omega)
    unfold repAt.vis vpAt
    by_cases c : s.1 = 0
    · rw [if_pos c]
      exact Evt.bind hcp (h := fun _ o => some (false, (wrap64 (s.1 - 1), o, true))) (Evt.const fun _ => rfl) fun K => if_pos c
    · rw [if_neg c]
      exact Evt.const fun K => if_neg c) ((q : Int), [], false)
  obtain ⟨b, s, e1, e2, e3⟩ := visP_at ((tup (permsF n n [] []) g).filter (isR n R)) q [] hq
  have hi2 : Evt (fun K => repsRun K (g : Int) R (n : Int) (repAt.vis K) ((q : Int), [], false)) (b, s) := by
    rw [← e1]
    exact hi
  refine Evt.bind hc (h := fun K c => if c = 0 then (repsRun K (g : Int) R (n : Int) (repAt.vis K) ((q : Int), [], false)).bind fun r => if r.2.2.2 = true then some (r.2.2.1, 0) else some ([], 4) else some ([], c)) ?_ fun _ => rfl
  refine Evt.bind hi2 (h := fun _ r => if r.2.2.2 = true then some (r.2.2.1, 0) else some ([], 4)) (Evt.const fun _ => ?_) fun K => if_pos rfl
  by_cases c : q < ((tup (permsF n n [] []) g).filter (isR n R)).length
  · have := e2 c
    simp only
    rw [this, if_pos c, if_pos rfl]
  · have := e3 (by omega)
    simp only
    rw [this, if_neg c, if_neg (by simp)]
end

theorem dbyte_of (x : Int) (h : (Lit.int .u8 x).wf = true) : 0 ≤ x ∧ x ≤ 255 := by
  simpa [Lit.wf, IntKind.min, IntKind.max, IntKind.signed, IntKind.bits] using h
theorem dbyte_at (b : List Int) (hb : ∀ x ∈ b, (Lit.int .u8 x).wf = true) (i : Nat) (hi : i < b.length) : 0 ≤ rd b i ∧ rd b i ≤ 255 := by
  refine dbyte_of _ (hb _ ?_)
  rw [rd_nat b i hi]
  exact List.getElem_mem hi
theorem from_step (c x : Int) (h0 : 0 ≤ c) (h1 : c < 2147483647) (x0 : 0 ≤ x) (x1 : x ≤ 255) : 0 ≤ Int.tmod (wrap64 (wrap64 (c * 37) + wrap64 x)) 2147483647 ∧ Int.tmod (wrap64 (wrap64 (c * 37) + wrap64 x)) 2147483647 < 2147483647 := by
  rw [w64 (c * 37) (by omega) (by omega), w64 x (by omega) (by omega), w64 (c * 37 + x) (by omega) (by omega)]
  exact ⟨Int.tmod_nonneg _ (by omega), Int.tmod_lt_of_pos _ (by omega)⟩
theorem from_l0 (b : List Int) (hb : ∀ x ∈ b, (Lit.int .u8 x).wf = true) (hl : b.length ≤ 4096) : ∀ (d i k : Nat) (c : Int), i + d = b.length → d < k → 0 ≤ c → c < 2147483647 → ∃ c', spec_l01From.l0 k b (i : Int) b 0 c = some (b, 0, c') ∧ 0 ≤ c' ∧ c' < 2147483647 := by
  intro d
  induction d with
  | zero =>
    intro i k c hi hk h0 h1
    obtain ⟨k, rfl⟩ := succ_k hk
    simp only [spec_l01From.l0]
    rw [if_neg (by omega)]
    exact ⟨c, rfl, h0, h1⟩
  | succ d ih =>
    intro i k c hi hk h0 h1
    obtain ⟨k, rfl⟩ := succ_k hk
    simp only [spec_l01From.l0]
    rw [if_pos (by omega)]
    by_cases c4 : (i : Int) < 64
    · obtain ⟨x0, x1⟩ := dbyte_at b hb i (by omega)
      obtain ⟨s0, s1⟩ := from_step c _ h0 h1 x0 x1
      rw [if_pos c4, if_pos (by omega), w64 ((i : Int) + 1) (by omega) (by omega), cast_succ]
      exact ih (i + 1) k _ (by omega) (by omega) s0 s1
    · rw [if_neg c4]
      exact ⟨c, rfl, h0, h1⟩
theorem from_ok (b : List Int) (hb : ∀ x ∈ b, (Lit.int .u8 x).wf = true) (hl : b.length ≤ 4096) (k : Nat) (hk : b.length < k) : ∃ c, spec_l01From.f k b = some (b, 0, c) ∧ 0 ≤ c ∧ c < 2147483647 :=
  from_l0 b hb hl b.length 0 k 97531 (by omega) hk (by omega) (by omega)
theorem next_seed (c : Int) (h0 : 0 ≤ c) (h1 : c < 2147483647) : 0 ≤ Int.tmod (wrap64 (wrap64 (c * 48271) + 11)) 2147483647 ∧ Int.tmod (wrap64 (wrap64 (c * 48271) + 11)) 2147483647 < 2147483647 := by
  rw [w64 (c * 48271) (by omega) (by omega), w64 (c * 48271 + 11) (by omega) (by omega)]
  exact ⟨Int.tmod_nonneg _ (by omega), Int.tmod_lt_of_pos _ (by omega)⟩
theorem next_ok (b : List Int) (hb : ∀ x ∈ b, (Lit.int .u8 x).wf = true) (hl : b.length ≤ 4096) (i c a : Int) (hi : 0 ≤ i) (h0 : 0 ≤ c) (h1 : c < 2147483647) :
    ∃ r i' c', spec_l01Next.f b i c a = some (r, i', c') ∧ 0 ≤ r ∧ (r < a ∨ r = 0) ∧ 0 ≤ i' ∧ 0 ≤ c' ∧ c' < 2147483647 := by
  unfold spec_l01Next.f
  obtain ⟨s0, s1⟩ := next_seed c h0 h1
  generalize Int.tmod (wrap64 (wrap64 (c * 48271) + 11)) 2147483647 = s at s0 s1 ⊢
  by_cases a1 : a ≤ 1
  · rw [if_pos a1]
    exact ⟨0, i, c, rfl, by omega, Or.inr rfl, hi, h0, h1⟩
  · rw [if_neg a1]
    have an : ¬ a = 0 := by omega
    have q0 : 0 ≤ Int.tdiv s 11 := Int.tdiv_nonneg s0 (by omega)
    have q1 : Int.tdiv s 11 ≤ 2147483647 := by rw [Int.tdiv_eq_ediv_of_nonneg s0]; omega
    generalize Int.tdiv s 11 = q at q0 q1 ⊢
    by_cases c1 : i < (b.length : Int)
    · obtain ⟨j, rfl⟩ : ∃ j : Nat, i = j := ⟨i.toNat, by omega⟩
      obtain ⟨x0, x1⟩ := dbyte_at b hb j (by omega)
      have b1 : -9223372036854775808 ≤ (j : Int) + 1 ∧ (j : Int) + 1 ≤ 9223372036854775807 := by omega
      have b2 : -9223372036854775808 ≤ (j : Int) + 1 - 1 ∧ (j : Int) + 1 - 1 ≤ 9223372036854775807 := by omega
      have e2 : (j : Int) + 1 - 1 = (j : Int) := by omega
      have b3 : 0 ≤ (j : Int) + 1 := by omega
      rw [w64 ((j : Int) + 1) b1.1 b1.2, w64 ((j : Int) + 1 - 1) b2.1 b2.2, e2]
      generalize rd b (j : Int) = x at x0 x1 ⊢
      have t0 := Int.tmod_nonneg a x0
      have t1 := Int.tmod_lt_of_pos x (show 0 < a by omega)
      have t2 := Int.tmod_nonneg a (show 0 ≤ q + x by omega)
      have t3 := Int.tmod_lt_of_pos (q + x) (show 0 < a by omega)
      have b4 : -9223372036854775808 ≤ x ∧ x ≤ 9223372036854775807 := by omega
      have b5 : -9223372036854775808 ≤ q ∧ q ≤ 9223372036854775807 := by omega
      have b6 : -9223372036854775808 ≤ q + x ∧ q + x ≤ 9223372036854775807 := by omega
      rw [w64 x b4.1 b4.2, w64 q b5.1 b5.2, w64 (q + x) b6.1 b6.2, if_pos c1, if_pos hi]
      by_cases c2 : a ≤ 256
      · rw [if_pos c2]
        by_cases c3 : ((j : Int) + 1).tmod 2 = 0
        · rw [if_pos c3, if_pos hi, if_pos c1, if_neg an]
          exact ⟨_, _, _, rfl, t0, Or.inl t1, b3, s0, s1⟩
        · rw [if_neg c3, if_neg an]
          exact ⟨_, _, _, rfl, t2, Or.inl t3, b3, s0, s1⟩
      · rw [if_neg c2, if_neg an]
        exact ⟨_, _, _, rfl, t2, Or.inl t3, b3, s0, s1⟩
    · have b5 : -9223372036854775808 ≤ q ∧ q ≤ 9223372036854775807 := by omega
      rw [if_neg c1, if_neg an, w64 q b5.1 b5.2]
      exact ⟨_, _, _, rfl, Int.tmod_nonneg a q0, Or.inl (Int.tmod_lt_of_pos q (by omega)), hi, s0, s1⟩

theorem specReduce_l0 (l : List Int) (hl : l.length ≤ 1099511627776) : ∀ (d i k : Nat) (out : List Int), i + d = l.length → out.length ≤ i → d < k →
    spec_l04Reduce.l0 k l out (i : Int) = some ((l.drop i).foldl redStep out) := by
  intro d
  induction d with
  | zero =>
    intro i k out hd ho hk
    obtain ⟨k, rfl⟩ := succ_k hk
    simp only [spec_l04Reduce.l0]
    rw [if_neg (by omega), List.drop_of_length_le (by omega)]
    rfl
  | succ d ih =>
    intro i k out hd ho hk
    obtain ⟨k, rfl⟩ := succ_k hk
    have hs := redStep_length out (rd l (i : Int))
    simp only [spec_l04Reduce.l0]
    rw [if_pos (by omega), drop_rd l i (by omega), List.foldl_cons, w64 ((i : Int) + 1) (by omega) (by omega), cast_succ]
    by_cases h0 : 0 < out.length
    · have e1 : wrap64 ((out.length : Int) - 1) = ((out.length - 1 : Nat) : Int) := by rw [w64 _ (by omega) (by omega)]; omega
      rw [if_pos (by omega), e1, if_pos (by omega), if_pos (by omega), if_pos (by omega)]
      by_cases h1 : rd out (((out.length - 1 : Nat) : Int)) = wrap64 (-(rd l (i : Int)))
      · have e2 : redStep out (rd l (i : Int)) = out.take (out.length - 1) := if_pos ⟨h0, h1⟩
        rw [if_pos h1, if_pos (by omega), Int.toNat_natCast, e2, ih (i + 1) k _ (by omega) (by simp; omega) (by omega)]
      · have e2 : redStep out (rd l (i : Int)) = out ++ [rd l (i : Int)] := if_neg fun h => h1 h.2
        rw [if_neg h1, if_pos (by omega), e2, ih (i + 1) k _ (by omega) (by simp; omega) (by omega)]
    · have e2 : redStep out (rd l (i : Int)) = out ++ [rd l (i : Int)] := if_neg fun h => h0 h.1
      rw [if_neg (by omega), if_pos (by omega), if_pos (by omega), e2, ih (i + 1) k _ (by omega) (by simp; omega) (by omega)]
theorem specReduce_eq (l : List Int) (k : Nat) (hl : l.length ≤ 1099511627776) (hk : l.length < k) : spec_l04Reduce.f k l = some (redOf l) := by
  have := specReduce_l0 l hl l.length 0 k [] (by omega) (by simp) hk
  unfold spec_l04Reduce.f redOf
  simpa using this

theorem wfi_of (x : Int) (h0 : -9223372036854775808 ≤ x) (h1 : x ≤ 9223372036854775807) : (Lit.int .i64 x).wf = true := by
  simpa [Lit.wf, IntKind.min, IntKind.max, IntKind.signed, IntKind.bits] using ⟨h0, h1⟩
theorem evt_some {α β : Type} {o : Option α} {x : α} (e : o = some x) {F : Nat → α → Option β} {r : β} (h : Evt (fun K => F K x) r) : Evt (fun K => o.bind (F K)) r := Evt.same h fun K => by rw [e, Option.bind_some]
theorem foldl_sub : ∀ (l out : List Int) (x : Int), x ∈ l.foldl redStep out → x ∈ out ∨ x ∈ l
  | [], out, x, h => .inl h
  | y :: l, out, x, h => by
    rcases foldl_sub l (redStep out y) x h with h | h
    · unfold redStep at h
      split at h
      · exact .inl (List.mem_of_mem_take h)
      · rcases List.mem_append.1 h with h | h
        · exact .inl h
        · rw [List.mem_singleton] at h
          exact .inr (by rw [h]; exact List.mem_cons_self)
    · exact .inr (List.mem_cons_of_mem _ h)
theorem redOf_sub (l : List Int) (x : Int) (h : x ∈ redOf l) : x ∈ l := (foldl_sub l [] x h).resolve_left (by simp)
theorem evt_two {α : Type} {f g : Nat → Option α} {r : α} (h : Evt g r) (e : ∀ K, f (K + 1 + 1) = g K) : Evt f r := by
  obtain ⟨c, h⟩ := h
  refine ⟨c + 2, fun K hK => ?_⟩
  obtain ⟨m, rfl⟩ : ∃ m, K = m + 1 + 1 := ⟨K - 2, by omega⟩
  rw [e]
  exact h m (by omega)
/-- Where a draw stands. -/
def DS (i c : Int) : Prop := 0 ≤ i ∧ 0 ≤ c ∧ c < 2147483647
section
variable {b : List Int} (hb : ∀ x ∈ b, (Lit.int .u8 x).wf = true) (hl : b.length ≤ 4096)
include hb hl
theorem nextD (a i c : Int) (h : DS i c) : ∃ r i' c', spec_l01Next.f b i c a = some (r, i', c') ∧ 0 ≤ r ∧ (r < a ∨ r = 0) ∧ DS i' c' := by
  obtain ⟨r, i', c', e, r0, r1, h1, h2, h3⟩ := next_ok b hb hl i c a h.1 h.2.1 h.2.2
  exact ⟨r, i', c', e, r0, r1, h1, h2, h3⟩
theorem dWord_l0 (a1 : Int) (ha : a1 ≤ 8) : ∀ (n : Nat) (acc : List Int) (i c : Int), acc.length + n ≤ 1000 → DS i c → (∀ x ∈ acc, (Lit.int .i64 x).wf = true) →
    ∃ w i' c', Evt (fun K => spec_l04DrawWord.l0 K a1 acc (n : Int) b i c) (w, i', c') ∧ w.length ≤ acc.length + n ∧ (∀ x ∈ w, (Lit.int .i64 x).wf = true) ∧ DS i' c'
  | 0, acc, i, c, hn, hd, hw => by
    refine ⟨acc, i, c, Evt.step (g := fun K => spec_l04DrawWord.j1 K a1 acc (0 : Int) false b i c) (Evt.now fun K => by rw [spec_l04DrawWord.j1, if_neg (by simp)]) fun K => by rw [spec_l04DrawWord.l0, if_neg (by simp)]; rfl, by omega, hw, hd⟩
  | n + 1, acc, i, c, hn, hd, hw => by
    by_cases h1 : a1 > 0
    · obtain ⟨r, i1, c1, e1, r0, r1, d1⟩ := nextD hb hl a1 i c hd
      obtain ⟨s, i2, c2, e2, s0, s1, d2⟩ := nextD hb hl 2 i1 c1 d1
      have b1 : -9223372036854775808 ≤ 1 + r ∧ 1 + r ≤ 9223372036854775807 := by omega
      have b2 : -9223372036854775808 ≤ -(1 + r) ∧ -(1 + r) ≤ 9223372036854775807 := by omega
      have hx : ∀ y : Int, y = 1 + r ∨ y = -(1 + r) → ∀ x ∈ acc ++ [y], (Lit.int .i64 x).wf = true := fun y hy x hx => by
        rcases List.mem_append.1 hx with hx | hx
        · exact hw x hx
        · rw [List.mem_singleton.1 hx]
          exact wfi_of y (by omega) (by omega)
      have hlen : acc.length < 17592186044416 := by omega
      have e5 : ((n + 1 : Nat) : Int) > 0 := by omega
      have e6 : ((n + 1 : Nat) : Int) - 1 = (n : Int) := by omega
      have b3 : -9223372036854775808 ≤ (n : Int) ∧ (n : Int) ≤ 9223372036854775807 := by omega
      have key : ∀ y : Int, (y = 1 + r ∧ s ≠ 0 ∨ y = -(1 + r) ∧ s = 0) → ∀ K, spec_l04DrawWord.l0 (K + 1 + 1) a1 acc ((n + 1 : Nat) : Int) b i c = spec_l04DrawWord.l0 K a1 (acc ++ [y]) (n : Int) b i2 c2 := fun y hy K => by
        rw [spec_l04DrawWord.l0, if_pos e5, decide_eq_true h1, spec_l04DrawWord.j1, if_pos rfl, e1, Option.bind_some, e2, Option.bind_some]
        simp only
        rw [w64 (1 + r) b1.1 b1.2, w64 (-(1 + r)) b2.1 b2.2, e6, w64 (n : Int) b3.1 b3.2]
        rcases hy with ⟨rfl, h0⟩ | ⟨rfl, h0⟩
        · rw [if_neg h0, if_pos hlen]
        · rw [if_pos h0, if_pos hlen]
      by_cases hs : s = 0
      · obtain ⟨w, i3, c3, h3, h4, h5, h6⟩ := dWord_l0 a1 ha n (acc ++ [-(1 + r)]) i2 c2 (by simp; omega) d2 (hx _ (.inr rfl))
        exact ⟨w, i3, c3, evt_two h3 (key _ (.inr ⟨rfl, hs⟩)), by simp at h4; omega, h5, h6⟩
      · obtain ⟨w, i3, c3, h3, h4, h5, h6⟩ := dWord_l0 a1 ha n (acc ++ [1 + r]) i2 c2 (by simp; omega) d2 (hx _ (.inl rfl))
        exact ⟨w, i3, c3, evt_two h3 (key _ (.inl ⟨rfl, hs⟩)), by simp at h4; omega, h5, h6⟩
    · refine ⟨acc, i, c, Evt.step (g := fun K => spec_l04DrawWord.j1 K a1 acc ((n + 1 : Nat) : Int) false b i c) (Evt.now fun K => by rw [spec_l04DrawWord.j1, if_neg (by simp)]) fun K => by rw [spec_l04DrawWord.l0, if_pos (by omega), decide_eq_false h1], by omega, hw, hd⟩
theorem dWord (a1 i c : Int) (ha : a1 ≤ 8) (h : DS i c) : ∃ w i' c', Evt (fun K => spec_l04DrawWord.f K b i c a1 6) (w, i', c') ∧ w.length ≤ 10 ∧ (∀ x ∈ w, (Lit.int .i64 x).wf = true) ∧ DS i' c' := by
  obtain ⟨r, i1, c1, e1, r0, r1, d1⟩ := nextD hb hl (wrap64 (6 + 1)) i c h
  have e7 : wrap64 (6 + 1) = 7 := by decide +kernel
  rw [e7] at e1 r1
  obtain ⟨n, rfl⟩ : ∃ n : Nat, r = n := ⟨r.toNat, by omega⟩
  obtain ⟨w, i2, c2, h2, h3, h4, h5⟩ := dWord_l0 hb hl a1 ha n [] i1 c1 (by simp; omega) d1 (by simp)
  refine ⟨w, i2, c2, ?_, by simp at h3; omega, h4, h5⟩
  unfold spec_l04DrawWord.f
  rw [e7]
  exact evt_some e1 h2
theorem dValid_l0 (g : Int) (hg : g ≤ 8) : ∀ (n : Nat) (R : List (List Int)) (i c : Int), R.length + n ≤ 1000 → DS i c → (∀ w ∈ R, w.length ≤ 10 ∧ ∀ x ∈ w, (Lit.int .i64 x).wf = true) →
    ∃ R' i' c', Evt (fun K => spec_l04DrawValid.l0 K (n : Int) b i c g R) (g, R', i', c') ∧ R'.length ≤ R.length + n ∧ (∀ w ∈ R', w.length ≤ 10 ∧ ∀ x ∈ w, (Lit.int .i64 x).wf = true) ∧ DS i' c'
  | 0, R, i, c, hn, hd, hw => ⟨R, i, c, Evt.now fun K => by rw [spec_l04DrawValid.l0, if_neg (by simp)], by omega, hw, hd⟩
  | n + 1, R, i, c, hn, hd, hw => by
    obtain ⟨w, i1, c1, h1, h2, h3, h4⟩ := dWord hb hl g i c hg hd
    have hr : Evt (fun K => spec_l04Reduce.f K w) (redOf w) := ⟨1000, fun K hK => specReduce_eq w K (by omega) (by omega)⟩
    have hrl := redOf_length w
    obtain ⟨R', i2, c2, k1, k2, k3, k4⟩ := dValid_l0 g hg n (R ++ [redOf w]) i1 c1 (by simp; omega) h4 (fun y hy => by
      rcases List.mem_append.1 hy with hy | hy
      · exact hw y hy
      · rw [List.mem_singleton.1 hy]
        exact ⟨by omega, fun x hx => h3 x (redOf_sub w x hx)⟩)
    have e5 : ((n + 1 : Nat) : Int) > 0 := by omega
    have e6 : wrap64 (((n + 1 : Nat) : Int) - 1) = (n : Int) := by
      rw [show ((n + 1 : Nat) : Int) - 1 = (n : Int) by omega]
      exact w64n n (by omega)
    have e7 : R.length < 5864062014805 := by clear e6; omega
    refine ⟨R', i2, c2, Evt.bind1 h1 (h := fun K bt270 => (spec_l04Reduce.f K bt270.1).bind fun t275 => (if R.length < 5864062014805 then (spec_l04DrawValid.l0 K (wrap64 (((n + 1 : Nat) : Int) - 1)) b bt270.2.1 bt270.2.2 g (R ++ [t275])) else (none))) ?_ fun K => ?_, by simp at k2; clear e6; omega, k3, k4⟩
    · refine Evt.bind hr (h := fun K t275 => (if R.length < 5864062014805 then (spec_l04DrawValid.l0 K (wrap64 (((n + 1 : Nat) : Int) - 1)) b i1 c1 g (R ++ [t275])) else (none))) (Evt.same k1 fun K => ?_) fun _ => rfl
      rw [if_pos e7, e6]
    · rw [spec_l04DrawValid.l0, if_pos e5]
theorem dPres_l0 (g : Int) (hg : g ≤ 8) : ∀ (n : Nat) (R : List (List Int)) (i c : Int), R.length + n ≤ 1000 → DS i c → (∀ w ∈ R, w.length ≤ 10 ∧ ∀ x ∈ w, (Lit.int .i64 x).wf = true) →
    ∃ R' i' c', Evt (fun K => spec_l05DrawPresentation.l0 K (n : Int) b i c g R) (g, R', i', c') ∧ R'.length ≤ R.length + n ∧ (∀ w ∈ R', w.length ≤ 10 ∧ ∀ x ∈ w, (Lit.int .i64 x).wf = true) ∧ DS i' c'
  | 0, R, i, c, hn, hd, hw => ⟨R, i, c, Evt.now fun K => by rw [spec_l05DrawPresentation.l0, if_neg (by simp)], by omega, hw, hd⟩
  | n + 1, R, i, c, hn, hd, hw => by
    obtain ⟨w, i1, c1, h1, h2, h3, h4⟩ := dWord hb hl g i c hg hd
    have hr : Evt (fun K => spec_l04Reduce.f K w) (redOf w) := ⟨1000, fun K hK => specReduce_eq w K (by omega) (by omega)⟩
    have hrl := redOf_length w
    obtain ⟨R', i2, c2, k1, k2, k3, k4⟩ := dPres_l0 g hg n (R ++ [redOf w]) i1 c1 (by simp; omega) h4 (fun y hy => by
      rcases List.mem_append.1 hy with hy | hy
      · exact hw y hy
      · rw [List.mem_singleton.1 hy]
        exact ⟨by omega, fun x hx => h3 x (redOf_sub w x hx)⟩)
    have e5 : ((n + 1 : Nat) : Int) > 0 := by omega
    have e6 : wrap64 (((n + 1 : Nat) : Int) - 1) = (n : Int) := by
      rw [show ((n + 1 : Nat) : Int) - 1 = (n : Int) by omega]
      exact w64n n (by omega)
    have e7 : R.length < 5864062014805 := by clear e6; omega
    refine ⟨R', i2, c2, Evt.bind1 h1 (h := fun K bt270 => (spec_l04Reduce.f K bt270.1).bind fun t275 => (if R.length < 5864062014805 then (spec_l05DrawPresentation.l0 K (wrap64 (((n + 1 : Nat) : Int) - 1)) b bt270.2.1 bt270.2.2 g (R ++ [t275])) else (none))) ?_ fun K => ?_, by simp at k2; clear e6; omega, k3, k4⟩
    · refine Evt.bind hr (h := fun K t275 => (if R.length < 5864062014805 then (spec_l05DrawPresentation.l0 K (wrap64 (((n + 1 : Nat) : Int) - 1)) b i1 c1 g (R ++ [t275])) else (none))) (Evt.same k1 fun K => ?_) fun _ => rfl
      rw [if_pos e7, e6]
    · rw [spec_l05DrawPresentation.l0, if_pos e5]
/-- What a drawn presentation keeps. -/
def DP (R : List (List Int)) : Prop := R.length ≤ 40 ∧ ∀ w ∈ R, w.length ≤ 10 ∧ ∀ x ∈ w, (Lit.int .i64 x).wf = true
theorem dValid (i c : Int) (h : DS i c) : ∃ g R i' c', Evt (fun K => spec_l04DrawValid.f K b i c) (g, R, i', c') ∧ 0 ≤ g ∧ g ≤ 4 ∧ R.length ≤ 20 ∧ DP R ∧ DS i' c' := by
  obtain ⟨g, i1, c1, e1, r0, r1, d1⟩ := nextD hb hl 4 i c h
  obtain ⟨m, i2, c2, e2, s0, s1, d2⟩ := nextD hb hl 4 i1 c1 d1
  obtain ⟨m, rfl⟩ : ∃ n : Nat, m = n := ⟨m.toNat, by omega⟩
  obtain ⟨R, i3, c3, h1, h2, h3, h4⟩ := dValid_l0 hb hl g (by omega) m [] i2 c2 (by simp; omega) d2 (by simp)
  simp at h2
  refine ⟨g, R, i3, c3, ?_, r0, by omega, by omega, ⟨by omega, h3⟩, h4⟩
  unfold spec_l04DrawValid.f
  refine evt_some e1 (evt_some e2 ?_)
  exact h1
theorem dDraw (i c : Int) (h : DS i c) : ∃ g R i' c', Evt (fun K => spec_l04Draw.f K b i c) (g, R, i', c') ∧ DP R ∧ DS i' c' := by
  obtain ⟨g, R, i1, c1, h1, g0, g1, hR, hD, d1⟩ := dValid hb hl i c h
  obtain ⟨r, i2, c2, e2, r0, r1, d2⟩ := nextD hb hl 24 i1 c1 d1
  have hlen : R.length < 5864062014805 := by omega
  have fin : ∀ g' R' i' c', Evt (fun (_ : Nat) => (if r = 0 then ((some (([(-1), 24, 25] : List Int) : List Int)).bind fun y234 => ((spec_l01Next.f b i2 c2 3).bind fun bt237 => (if 0 ≤ bt237.1 then (if bt237.1 < (y234.length : Int) then (some (rd y234 bt237.1, R, bt237.2.1, bt237.2.2)) else (none)) else (none)))) else (if r = 1 then (if R.length < 5864062014805 then (some (g, (R ++ [(([wrap64 (g + 1)] : List Int))]), i2, c2)) else (none)) else (if r = 2 then (if R.length < 5864062014805 then (some (g, (R ++ [(([1, (-1)] : List Int))]), i2, c2)) else (none)) else (some (g, R, i2, c2)))))) (g', R', i', c') → Evt (fun K => spec_l04Draw.f K b i c) (g', R', i', c') := fun g' R' i' c' hh => by
    unfold spec_l04Draw.f
    refine Evt.bind h1 (h := fun K bt224 => (spec_l01Next.f b bt224.2.2.1 bt224.2.2.2 24).bind fun bt231 => (if bt231.1 = 0 then ((some (([(-1), 24, 25] : List Int) : List Int)).bind fun y234 => ((spec_l01Next.f b bt231.2.1 bt231.2.2 3).bind fun bt237 => (if 0 ≤ bt237.1 then (if bt237.1 < (y234.length : Int) then (some (rd y234 bt237.1, bt224.2.1, bt237.2.1, bt237.2.2)) else (none)) else (none)))) else (if bt231.1 = 1 then (if bt224.2.1.length < 5864062014805 then (some (bt224.1, (bt224.2.1 ++ [(([wrap64 (bt224.1 + 1)] : List Int))]), bt231.2.1, bt231.2.2)) else (none)) else (if bt231.1 = 2 then (if bt224.2.1.length < 5864062014805 then (some (bt224.1, (bt224.2.1 ++ [(([1, (-1)] : List Int))]), bt231.2.1, bt231.2.2)) else (none)) else (some (bt224.1, bt224.2.1, bt231.2.1, bt231.2.2)))))) ?_ fun _ => rfl
    exact evt_some e2 hh
  have put : ∀ y : List Int, y.length ≤ 10 → (∀ x ∈ y, (Lit.int .i64 x).wf = true) → DP (R ++ [y]) := fun y y1 y2 => ⟨by simp; omega, fun w hw => by
    rcases List.mem_append.1 hw with hw | hw
    · exact hD.2 w hw
    · rw [List.mem_singleton.1 hw]
      exact ⟨y1, y2⟩⟩
  by_cases h0 : r = 0
  · obtain ⟨u, i3, c3, e3, u0, u1, d3⟩ := nextD hb hl 3 i2 c2 d2
    refine ⟨rd [(-1), 24, 25] u, R, i3, c3, fin _ _ _ _ (Evt.const fun K => ?_), hD, d3⟩
    rw [if_pos h0, Option.bind_some, e3, Option.bind_some]
    exact (if_pos u0).trans (if_pos (by show u < 3; omega))
  · by_cases h1' : r = 1
    · refine ⟨g, R ++ [[wrap64 (g + 1)]], i2, c2, fin _ _ _ _ (Evt.const fun K => ?_), put _ (by simp) (fun x hx => ?_), d2⟩
      · rw [if_neg h0, if_pos h1', if_pos hlen]
      · rw [List.mem_singleton.1 hx, w64 (g + 1) (by omega) (by omega)]
        exact wfi_of _ (by omega) (by omega)
    · by_cases h2' : r = 2
      · refine ⟨g, R ++ [[1, -1]], i2, c2, fin _ _ _ _ (Evt.const fun K => ?_), put _ (by simp) (fun x hx => ?_), d2⟩
        · rw [if_neg h0, if_neg h1', if_pos h2', if_pos hlen]
        · rcases List.mem_cons.1 hx with rfl | hx
          · exact wfi_of _ (by omega) (by omega)
          · rw [List.mem_singleton.1 hx]
            exact wfi_of _ (by omega) (by omega)
      · exact ⟨g, R, i2, c2, fin _ _ _ _ (Evt.const fun K => by rw [if_neg h0, if_neg h1', if_neg h2']), hD, d2⟩
theorem dPresentation (i c : Int) (h : DS i c) : ∃ g R i' c', Evt (fun K => spec_l05DrawPresentation.f K b i c) (g, R, i', c') ∧ DP R ∧ DS i' c' := by
  obtain ⟨r, i1, c1, e1, r0, r1, d1⟩ := nextD hb hl 8 i c h
  by_cases h0 : r = 0
  · obtain ⟨g, R, i2, c2, h1, hD, d2⟩ := dDraw hb hl i1 c1 d1
    refine ⟨g, R, i2, c2, ?_, hD, d2⟩
    unfold spec_l05DrawPresentation.f
    refine evt_some e1 ?_
    exact Evt.bind h1 (h := fun _ bt257 => some (bt257.1, bt257.2.1, bt257.2.2.1, bt257.2.2.2)) (Evt.const fun _ => rfl) fun _ => if_pos h0
  · obtain ⟨g, i2, c2, e2, g0, g1, d2⟩ := nextD hb hl 3 i1 c1 d1
    obtain ⟨m, i3, c3, e3, m0, m1, d3⟩ := nextD hb hl 3 i2 c2 d2
    obtain ⟨m, rfl⟩ : ∃ n : Nat, m = n := ⟨m.toNat, by omega⟩
    have eg : wrap64 (1 + g) = 1 + g := w64 _ (by omega) (by omega)
    obtain ⟨R, i4, c4, h1, h2, h3, h4⟩ := dPres_l0 hb hl (1 + g) (by clear eg; omega) m [] i3 c3 (by clear eg; simp; omega) d3 (by simp)
    simp at h2
    refine ⟨1 + g, R, i4, c4, ?_, ⟨by clear eg; omega, h3⟩, h4⟩
    unfold spec_l05DrawPresentation.f
    refine evt_some e1 (Evt.same (g := fun K => ((spec_l01Next.f b i1 c1 3).bind fun bt263 => ((spec_l01Next.f b bt263.2.1 bt263.2.2 3).bind fun bt267 => (spec_l05DrawPresentation.l0 K bt267.1 b bt267.2.1 bt267.2.2 (wrap64 (1 + bt263.1)) ([] : List (List Int)))))) ?_ fun K => if_neg h0)
    refine evt_some e2 (evt_some e3 (Evt.same h1 fun K => ?_))
    simp only
    rw [eg]
theorem dRepCount : ∃ g R n, Evt (fun K => spec_DrawRepresentationCount.f K b) (g, R, n) ∧ DP R := by
  have h0 : ∃ c, Evt (fun K => spec_l01From.f K b) (b, 0, c) ∧ DS 0 c := by
    obtain ⟨c, e, k1, k2⟩ := from_ok b hb hl 5000 (by omega)
    refine ⟨c, ⟨5000, fun K hK => ?_⟩, by omega, k1, k2⟩
    exact at_rounds (g := fun K => spec_l01From.f K b) (spec_l01From.mono _) hK e
  obtain ⟨c, h0, d0⟩ := h0
  obtain ⟨g, R, i1, c1, h1, hD, d1⟩ := dPresentation hb hl 0 c d0
  obtain ⟨r, i2, c2, e2, r0, r1, d2⟩ := nextD hb hl 12 i1 c1 d1
  have fin : ∀ n, Evt (fun _ => if r = 0 then ((spec_l01Next.f b i2 c2 2).bind fun bt296 => (some (g, R, wrap64 (5 * bt296.1)))) else ((spec_l01Next.f b i2 c2 4).bind fun bt299 => (some (g, R, wrap64 (1 + bt299.1))))) (g, R, n) → ∃ g R n, Evt (fun K => spec_DrawRepresentationCount.f K b) (g, R, n) ∧ DP R := fun n hh => by
    refine ⟨g, R, n, ?_, hD⟩
    unfold spec_DrawRepresentationCount.f
    refine Evt.bind h0 (h := fun K bt282 => (spec_l05DrawPresentation.f K bt282.1 bt282.2.1 bt282.2.2).bind fun bt286 => ((spec_l01Next.f bt282.1 bt286.2.2.1 bt286.2.2.2 12).bind fun bt293 => (if bt293.1 = 0 then ((spec_l01Next.f bt282.1 bt293.2.1 bt293.2.2 2).bind fun bt296 => (some (bt286.1, bt286.2.1, wrap64 (5 * bt296.1)))) else ((spec_l01Next.f bt282.1 bt293.2.1 bt293.2.2 4).bind fun bt299 => (some (bt286.1, bt286.2.1, wrap64 (1 + bt299.1))))))) ?_ fun _ => rfl
    refine Evt.bind h1 (h := fun K bt286 => (spec_l01Next.f b bt286.2.2.1 bt286.2.2.2 12).bind fun bt293 => (if bt293.1 = 0 then ((spec_l01Next.f b bt293.2.1 bt293.2.2 2).bind fun bt296 => (some (bt286.1, bt286.2.1, wrap64 (5 * bt296.1)))) else ((spec_l01Next.f b bt293.2.1 bt293.2.2 4).bind fun bt299 => (some (bt286.1, bt286.2.1, wrap64 (1 + bt299.1)))))) ?_ fun _ => rfl
    exact evt_some e2 hh
  by_cases h3 : r = 0
  · obtain ⟨u, i3, c3, e3, _⟩ := nextD hb hl 2 i2 c2 d2
    exact fin _ (Evt.const fun _ => by rw [if_pos h3, e3, Option.bind_some])
  · obtain ⟨u, i3, c3, e3, _⟩ := nextD hb hl 4 i2 c2 d2
    exact fin _ (Evt.const fun _ => by rw [if_neg h3, e3, Option.bind_some])
end

theorem implIsPerm_l0 (n : Nat) (hn : n ≤ 8) (l : List Int) (hl : l.length ≤ 1048576) : ∀ (d i : Nat) (q : List Int), i + d = l.length → Evt (fun K => impl_isPermutation.l0 K l (n : Int) (mkB n q) l (l.length : Int) (i : Int)) (goP n l.length q (l.drop i))
  | 0, i, q, hd => by
    refine Evt.now fun K => ?_
    rw [impl_isPermutation.l0, if_neg (by omega), List.drop_of_length_le (by omega)]
    unfold impl_size_int64_101.f goP
    rw [Option.bind_some]
    refine congrArg some ?_
    rw [show ((l.length : Int) == (n : Int)) = decide ((l.length : Int) = (n : Int)) from rfl]
    exact decide_eq_decide.2 (by omega)
  | d + 1, i, q, hd => by
    have e1 : wrap64 ((n : Int) - 1) = (n : Int) - 1 := w64 _ (by omega) (by omega)
    have e2 : wrap64 ((i : Int) + 1) = ((i + 1 : Nat) : Int) := w64n (i + 1) (by omega)
    rw [drop_rd l i (by omega)]
    obtain ⟨x, hx⟩ : ∃ x, x = rd l (i : Int) := ⟨_, rfl⟩
    have hf : ∀ K, impl_isPermutation.l0 (K + 1) l (n : Int) (mkB n q) l (l.length : Int) (i : Int) = (if 0 ≤ x ∧ x ≤ (n : Int) - 1 then (if x ∈ q then some false else impl_isPermutation.l0 K l (n : Int) ((mkB n q).set x.toNat true) l (l.length : Int) ((i + 1 : Nat) : Int)) else some false) := by
      intro K
      rw [impl_isPermutation.l0, if_pos (by omega), if_pos (by omega), if_pos (by omega), ← hx, e1, e2]
      unfold impl_inRange.f
      by_cases c : 0 ≤ x ∧ x ≤ (n : Int) - 1
      · rw [if_pos c]
        have c1 : (0 : Int) ≤ x := c.1
        have c3 : x < ((mkB n q).length : Int) := by rw [mkB_length]; omega
        have c4 := c.2
        rw [rdB n q x c.1 (by omega)]
        simp only [c1, c3, c4, decide_true, Bool.and_self, if_true, Option.bind_some, ge_iff_le, decide_eq_true_eq]
      · rw [if_neg c]
        by_cases c0 : 0 ≤ x
        · have c4 : ¬ x ≤ (n : Int) - 1 := fun h => c ⟨c0, h⟩
          simp [c0, c4]
        · simp [c0]
    rw [← hx]
    unfold goP
    by_cases c : 0 ≤ x ∧ x ≤ (n : Int) - 1
    · rw [if_pos c]
      by_cases e : x ∈ q
      · rw [if_pos e]
        exact Evt.now fun K => by rw [hf, if_pos c, if_pos e]
      · rw [if_neg e]
        have ih := implIsPerm_l0 n hn l hl d (i + 1) (q ++ [x]) (by omega)
        refine Evt.step ih fun K => ?_
        rw [hf, if_pos c, if_neg e, mkB_set n q x c.1]
    · rw [if_neg c]
      exact Evt.now fun K => by rw [hf, if_neg c]
theorem implIsPerm_ev (n : Nat) (hn : n ≤ 8) (l : List Int) (hl : l.length ≤ 1048576) : Evt (fun K => impl_isPermutation.f K l (n : Int)) (goP n l.length [] l) := by
  have h := implIsPerm_l0 n hn l hl l.length 0 [] (by omega)
  rw [List.drop_zero, ← mkB_nil] at h
  refine Evt.same h fun K => ?_
  unfold impl_isPermutation.f
  rw [if_pos (by omega), Int.toNat_natCast, if_pos (by omega)]
  rfl

theorem anyO_perm {n : Nat} (hn : n ≤ 8) : ∀ (G : List (List Int)), (∀ g ∈ G, g.length ≤ 1048576) → Evt (fun K => anyO (impl_arePermutations.q K (n : Int)) G) (!(G.all fun g => goP n g.length [] g))
  | [], _ => Evt.const fun _ => rfl
  | g :: G, hr => by
    have h := implIsPerm_ev n hn g (hr g List.mem_cons_self)
    have hq : Evt (fun K => impl_arePermutations.q K (n : Int) g) (!(goP n g.length [] g)) := Evt.bind h (h := fun _ b => some (!b)) (Evt.const fun _ => rfl) fun _ => rfl
    rw [List.all_cons]
    refine Evt.bind hq (h := fun K b => if b = true then some true else anyO (impl_arePermutations.q K (n : Int)) G) ?_ fun _ => rfl
    by_cases c : goP n g.length [] g = true
    · rw [c, Bool.true_and]
      exact Evt.same (anyO_perm hn G fun x hx => hr x (List.mem_cons_of_mem _ hx)) fun K => if_neg (by simp)
    · rw [Bool.not_eq_true] at c
      rw [c, Bool.false_and]
      exact Evt.const fun K => if_pos rfl
theorem anyO_trivR {n : Nat} (hn : n ≤ 8) {G : List (List Int)} (hG : ∀ g ∈ G, PermN n g) (hl : G.length ≤ 1048576) : ∀ (R : List (List Int)), (∀ w ∈ R, ∀ b ∈ w, LetterIn G b) → (∀ w ∈ R, w.length ≤ 1048576) → Evt (fun K => anyO (impl_IsRepresentation.q K (n : Int) G) R) (!(R.all fun w => trivB G w n 0))
  | [], _, _ => Evt.const fun _ => rfl
  | w :: R, hw, hwl => by
    have h := isTrivial_ev hn hG hl w (hw w List.mem_cons_self) (hwl w List.mem_cons_self)
    have hq : Evt (fun K => impl_IsRepresentation.q K (n : Int) G w) (!(trivB G w n 0)) := Evt.bind h (h := fun _ b => some (!b)) (Evt.const fun _ => rfl) fun _ => rfl
    rw [List.all_cons]
    refine Evt.bind hq (h := fun K b => if b = true then some true else anyO (impl_IsRepresentation.q K (n : Int) G) R) ?_ fun _ => rfl
    by_cases c : trivB G w n 0 = true
    · rw [c, Bool.true_and]
      exact Evt.same (anyO_trivR hn hG hl R (fun x hx => hw x (List.mem_cons_of_mem _ hx)) fun x hx => hwl x (List.mem_cons_of_mem _ hx)) fun K => if_neg (by simp)
    · rw [Bool.not_eq_true] at c
      rw [c, Bool.false_and]
      exact Evt.const fun K => if_pos rfl
theorem tup_rep (A : List (List Int)) (p : List Int) (hp : p ∈ A) : ∀ g, List.replicate g p ∈ tup A g
  | 0 => by simp [tup]
  | g + 1 => by
    rw [List.replicate_succ, tup, List.mem_flatMap]
    exact ⟨p, hp, List.mem_map.2 ⟨_, tup_rep A p hp g, rfl⟩⟩
/-- Whatever the permutations of A are, goP says so. -/
theorem perms_goP {n : Nat} (h1 : 1 ≤ n) (h4 : n ≤ 4) : ∀ l ∈ permsF n n [] [], goP n l.length [] l = true := by
  have h := permTab_at h1 h4
  unfold permTab at h
  rw [Bool.and_eq_true, Bool.and_eq_true] at h
  exact fun l hl => List.all_eq_true.1 h.1.1 l hl
section
variable {g n : Nat} (hg : g ≤ 24) (h1 : 1 ≤ n) (h4 : n ≤ 4) {R : List (List Int)} (hp : presB (g : Int) R = true) (hRl : ∀ w ∈ R, w.length ≤ 1048576) (hRw : ∀ w ∈ R, ∀ y ∈ w, (Lit.int .i64 y).wf = true)
include hg h1 h4 hp hRl hRw
theorem isRep_yes {G : List (List Int)} (hGm : G ∈ (tup (permsF n n [] []) g).filter (isR n R)) : Evt (fun K => impl_IsRepresentation.f K (g : Int) R (n : Int) G) true := by
  obtain ⟨hG1, hG2⟩ := List.mem_filter.1 hGm
  obtain ⟨hGl, hGa⟩ := tup_mem _ g G hG1
  have hGp : ∀ p ∈ G, PermN n p := fun p hpG => perm_all h1 h4 p (hGa p hpG)
  have hrel := rels_in hp
  have p2 : Evt (fun K => impl_isPresentation.f K (g : Int) R) true := ⟨1048577, fun K hK => (implisPres_eq (g : Int) R 1048576 K (Nat.le_refl _) hRl hRw (by omega)).trans (congrArg some hp)⟩
  have hall : (G.all fun l => goP n l.length [] l) = true := List.all_eq_true.2 fun l hl => perms_goP h1 h4 l (hGa l hl)
  have a2 := anyO_perm (by omega : n ≤ 8) G (fun p hpG => by rw [(hGp p hpG).1]; omega)
  rw [hall] at a2
  have d2 : Evt (fun K => impl_arePermutations.f K (n : Int) G) true := by
    refine Evt.bind a2 (h := fun _ b => some (!b)) (Evt.const fun _ => rfl) fun K => ?_
    unfold impl_arePermutations.f
    rw [if_pos (by omega)]
  have hw : ∀ w ∈ R, ∀ b ∈ w, LetterIn G b := fun w hw b hb => by
    unfold LetterIn
    rw [hGl]
    exact hrel.2 w hw b hb
  have t2 := anyO_trivR (by omega : n ≤ 8) hGp (by omega) R hw hRl
  unfold isR at hG2
  rw [hG2] at t2
  refine Evt.bind p2 (h := fun K b1 => if b1 = true then (impl_arePermutations.f K (n : Int) G).bind fun b2 => if b2 = true then (if (G.length : Int) = (g : Int) then (anyO (impl_IsRepresentation.q K (n : Int) G) R).bind fun b => some (!b) else some false) else some false else some false) ?_ fun _ => rfl
  refine Evt.bind d2 (h := fun K b2 => if b2 = true then (if (G.length : Int) = (g : Int) then (anyO (impl_IsRepresentation.q K (n : Int) G) R).bind fun b => some (!b) else some false) else some false) ?_ fun K => if_pos rfl
  exact Evt.bind t2 (h := fun _ b => some (!b)) (Evt.const fun _ => rfl) fun K => by rw [if_pos rfl, if_pos (by rw [hGl])]
theorem some_rep : 0 < ((tup (permsF n n [] []) g).filter (isR n R)).length := by
  obtain ⟨p, hpA, hid⟩ := perm_id h1 h4
  exact List.length_pos_of_mem (List.mem_filter.2 ⟨tup_rep _ p hpA g, isR_id p hid R (rels_in hp).2⟩)
theorem rows_law (hc : Evt (fun K => impl_searchCode.f K (g : Int) R (n : Int)) 0) (hN : (permsF n n [] []).length ^ g ≤ 200000) (r : Nat) (hr : r < ((tup (permsF n n [] []) g).filter (isR n R)).length) :
    Evt (fun K => laws_FnRepresentations.j0 K (n : Int) (r : Int) (((tup (permsF n n [] []) g).filter (isR n R)).getD r []) false (g : Int) R) true := by
  have hlen : ((tup (permsF n n [] []) g).filter (isR n R)).length ≤ 200000 := Nat.le_trans (List.length_filter_le _ _) (by rw [tup_len]; exact hN)
  cases r with
  | zero => exact Evt.now fun K => by rw [laws_FnRepresentations.j0, if_neg (by simp), if_pos (show ((0 : Nat) : Int) = 0 from rfl)]
  | succ q =>
    have hat := at_ev4 hg h1 h4 hp hRl hc hN q (by omega)
    rw [if_pos (by omega)] at hat
    have eq : wrap64 (((q + 1 : Nat) : Int) - 1) = (q : Int) := by
      rw [show ((q + 1 : Nat) : Int) - 1 = (q : Int) by omega]
      exact w64n q (by omega)
    have hq0 : ¬ ((q + 1 : Nat) : Int) = 0 := by clear eq; omega
    obtain ⟨L, hL⟩ : ∃ L, L = (tup (permsF n n [] []) g).filter (isR n R) := ⟨_, rfl⟩
    rw [← hL] at hr hat ⊢
    have ga : L.getD (q + 1) [] = L[q + 1] := by rw [List.getD_eq_getElem?_getD, List.getElem?_eq_getElem hr, Option.getD_some]
    have gb : L.getD q [] = L[q] := by rw [List.getD_eq_getElem?_getD, List.getElem?_eq_getElem (by omega), Option.getD_some]
    have hs : L.Pairwise fun b a => cmpT a b = some true := by
      rw [hL]
      exact (tup_sorted (permsSorted h1 h4) g).filter _
    have hcmp := List.pairwise_iff_getElem.1 hs q (q + 1) (by omega) hr (by omega)
    have hm : ∀ x ∈ L, x.length = g ∧ ∀ p ∈ x, p.length = n := fun x hx => by
      rw [hL] at hx
      obtain ⟨k1, k2⟩ := tup_mem _ g x (List.mem_filter.1 hx).1
      exact ⟨k1, fun p hpx => (perm_all h1 h4 p (k2 p hpx)).1⟩
    have ma := hm _ (List.getElem_mem hr)
    have mb := hm _ (List.getElem_mem (show q < L.length by omega))
    have hrows := lawRows_l0 h4 (L[q + 1]) (L[q]) (by rw [ma.1, mb.1]) (by rw [ma.1]; clear eq; omega) ma.2 mb.2 _ 0 (Nat.zero_add _)
    rw [List.drop_zero, List.drop_zero, hcmp] at hrows
    rw [ga]
    rw [gb] at hat
    refine Evt.bind1 hat (h := fun K bt313 => laws_FnRepresentations.l0 K L[q + 1] bt313.1 bt313.2 0) hrows fun K => ?_
    rw [laws_FnRepresentations.j0, if_neg (by simp), if_neg hq0, eq]
end
theorem FnRepresentations : laws_FnRepresentations.Pure := by
  intro b _ _ hb
  by_cases h : (b.length : Int) > 4096
  · refine ⟨0, ?_⟩
    unfold laws_FnRepresentations.f laws_big.f
    rw [decide_eq_true h]
    rfl
  · have hl : b.length ≤ 4096 := by omega
    have hbig : laws_big.f b = some false := by
      unfold laws_big.f
      rw [decide_eq_false h]
    obtain ⟨g, R, n, hd, hR, hRr⟩ := dRepCount hb hl
    obtain ⟨hh, hroll⟩ := roll_ok b 7003 5000 hl (by omega)
    have hroll : Evt (fun K => laws_roll.f K b 7003) (b, 0, hh) := ⟨5000, fun K hK => at_rounds (g := fun K => laws_roll.f K b 7003) (laws_roll.mono _ _) hK hroll⟩
    have hRl : ∀ w ∈ R, w.length ≤ 1048576 := fun w hw => Nat.le_trans (hRr w hw).1 (by decide)
    have hRw : ∀ w ∈ R, ∀ y ∈ w, (Lit.int .i64 y).wf = true := fun w hw => (hRr w hw).2
    obtain ⟨c, hc, hc0⟩ := code_impl g n R hRl hRw
    obtain ⟨k1, hroll⟩ := hroll
    obtain ⟨k2, hd⟩ := hd
    by_cases c0 : c = 0
    · subst c0
      obtain ⟨hp, g, n, rfl, rfl, hg, n1, n4, hN⟩ := hc0 rfl
      obtain ⟨L, hL⟩ : ∃ L, L = (tup (permsF n n [] []) g).filter (isR n R) := ⟨_, rfl⟩
      have hlen : L.length ≤ 200000 := by
        rw [hL]
        exact Nat.le_trans (List.length_filter_le _ _) (by rw [tup_len]; exact hN)
      have hpos : 0 < L.length := by
        rw [hL]
        exact some_rep hg n1 n4 hp hRl hRw
      obtain ⟨r, i', h', hb1, hr1, _⟩ := below_ok b 0 hh (L.length : Int) hb hl (by omega) (by omega) (by omega)
      have hr : r < L.length := by omega
      have q1 := count_ev4 hg n1 n4 hp hRl hc hN
      have q2 := at_ev4 hg n1 n4 hp hRl hc hN r (by omega)
      have q3 := at_ev4 hg n1 n4 hp hRl hc hN L.length (by omega)
      rw [← hL] at q1 q2 q3
      rw [if_pos hr] at q2
      rw [if_neg (Nat.lt_irrefl _)] at q3
      have q4 := isRep_yes hg n1 n4 hp hRl hRw (G := L.getD r []) (by
        rw [← hL, List.getD_eq_getElem?_getD, List.getElem?_eq_getElem hr]
        exact List.getElem_mem hr)
      have q5 := rows_law hg n1 n4 hp hRl hRw hc hN r (by rw [← hL]; exact hr)
      rw [← hL] at q5
      obtain ⟨k3, q1⟩ := q1
      obtain ⟨k4, q2⟩ := q2
      obtain ⟨k5, q3⟩ := q3
      obtain ⟨k6, q4⟩ := q4
      obtain ⟨k7, q5⟩ := q5
      obtain ⟨K, hK⟩ : ∃ K, K = k1 + k2 + k3 + k4 + k5 + k6 + k7 := ⟨_, rfl⟩
      have e1 := hroll K (by omega)
      have e2 := hd K (by omega)
      have e3 := q1 K (by omega)
      have e4 := q2 K (by omega)
      have e5 := q3 K (by omega)
      have e6 := q4 K (by omega)
      have e7 := q5 K (by omega)
      simp only at e1 e2 e3 e4 e5 e6 e7
      refine ⟨K, ?_⟩
      unfold laws_FnRepresentations.f
      rw [hbig, Option.bind_some, if_neg (by simp), e1, Option.bind_some, e2, Option.bind_some]
      simp only
      rw [e3, Option.bind_some]
      simp only
      rw [if_pos (by trivial), if_neg (by omega), hb1, Option.bind_some]
      simp only
      rw [e4, Option.bind_some, e5, Option.bind_some]
      simp only
      rw [if_pos (by trivial), if_pos (by trivial), e6, Option.bind_some]
      exact e7
    · have q1 : Evt (fun K => impl_RepresentationCount.f K g R n) (0, c) := Evt.bind hc (h := fun K c => if c = 0 then (repsRun K g R n repCount.vis 0).bind fun r => some (r.2, 0) else some (0, c)) (Evt.const fun K => if_neg c0) fun _ => rfl
      have q2 : Evt (fun K => impl_RepresentationAt.f K g R n 0) ([], c) := Evt.bind hc (h := fun K c => if c = 0 then (repsRun K g R n (repAt.vis K) (0, [], false)).bind fun r => if r.2.2.2 = true then some (r.2.2.1, 0) else some ([], 4) else some ([], c)) (Evt.const fun K => if_neg c0) fun _ => rfl
      obtain ⟨k3, q1⟩ := q1
      obtain ⟨k4, q2⟩ := q2
      obtain ⟨K, hK⟩ : ∃ K, K = k1 + k2 + k3 + k4 := ⟨_, rfl⟩
      have e1 := hroll K (by omega)
      have e2 := hd K (by omega)
      have e3 := q1 K (by omega)
      have e4 := q2 K (by omega)
      simp only at e1 e2 e3 e4
      refine ⟨K, ?_⟩
      unfold laws_FnRepresentations.f
      rw [hbig, Option.bind_some, if_neg (by simp), e1, Option.bind_some, e2, Option.bind_some]
      simp only
      rw [e3, Option.bind_some]
      simp only
      rw [if_neg c0, e4, Option.bind_some]
      simp

end Go.Proofs.Ytinpfomadogadaa.Pure
