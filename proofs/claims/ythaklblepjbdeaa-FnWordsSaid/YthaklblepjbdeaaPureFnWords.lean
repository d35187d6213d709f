/- Reduced forms are reduced, a word times its inverse reduces to the empty word, and conjugates have cyclically reduced forms of the same length. No condition: for every input that the statement lets in. -/
import Derived.Test.YthaklblepjbdeaaPFnWordsx4
namespace Go.Proofs.Ythaklblepjbdeaa.Pure
open Go.RowKit Go.Proofs.Ythaklblepjbdeaa.PFnWords Go.Proofs.YthaklblepjbdeaaW.PrintWords Go.Proofs.YthaklblepjbdeaaW.PrintLast

set_option linter.unusedSimpArgs false
set_option linter.unusedVariables false
theorem w64 (x : Int) (h0 : -9223372036854775808 ≤ x) (h1 : x ≤ 9223372036854775807) : wrap64 x = x := by
  unfold wrap64
  omega
theorem w64n (n : Nat) (h : n ≤ 9223372036854775807) : wrap64 (n : Int) = (n : Int) := w64 _ (by omega) (by omega)
theorem rd_nat (l : List Int) (i : Nat) (h : i < l.length) : rd l (i : Int) = l[i] := by
  simp [rd, List.getD, List.getElem?_eq_getElem h]
theorem succ_k {k n : Nat} (h : n < k) : ∃ m, k = m + 1 := ⟨k - 1, by omega⟩
theorem cast_succ (i : Nat) : ((i : Int) + 1) = ((i + 1 : Nat) : Int) := by omega
theorem drop_rd (l : List Int) (k : Nat) (h : k < l.length) : l.drop k = rd l (k : Int) :: l.drop (k + 1) := by
  rw [List.drop_eq_getElem_cons h, rd_nat l k h]


/-- One more letter behind a reduced word. -/
def redStep (out : List Int) (x : Int) : List Int :=
  if 0 < out.length ∧ rd out (((out.length - 1 : Nat) : Int)) = wrap64 (-x) then out.take (out.length - 1) else out ++ [x]
def redOf (l : List Int) : List Int := l.foldl redStep []
theorem redStep_length (out : List Int) (x : Int) : (redStep out x).length ≤ out.length + 1 := by
  unfold redStep
  split
  · simp; omega
  · simp
theorem foldl_length : ∀ (l out : List Int), (l.foldl redStep out).length ≤ out.length + l.length
  | [], out => by simp
  | x :: r, out => by
    have h1 := foldl_length r (redStep out x)
    have h2 := redStep_length out x
    simp only [List.foldl_cons, List.length_cons]
    omega
theorem redOf_length (l : List Int) : (redOf l).length ≤ l.length := by
  have := foldl_length l []
  simpa [redOf] using this


/-- Is a list a word? -/
def letters (g : Int) (l : List Int) : Bool := l.all fun x => decide (x ≠ 0) && (decide (-g ≤ x) && decide (x ≤ g))
def isWordB (l : List Int) : Bool := letters 24 l && decide (l.length ≤ 120)


/-- The stack of a free reduction, its top first. -/
def psh : List Int → Int → List Int
  | [], x => [x]
  | y :: t, x => if y = -x then t else x :: y :: t
def Rd : List Int → Prop
  | [] => True
  | [_] => True
  | y :: z :: t => y ≠ -z ∧ Rd (z :: t)
def Small (l : List Int) : Prop := ∀ x ∈ l, -24 ≤ x ∧ x ≤ 24
theorem Rd.tail {x : Int} {l : List Int} (h : Rd (x :: l)) : Rd l := by
  cases l with
  | nil => trivial
  | cons y t => exact h.2
theorem Rd.right : ∀ {a b : List Int}, Rd (a ++ b) → Rd b
  | [], _, h => h
  | _ :: a, _, h => Rd.right (a := a) (Rd.tail h)
theorem psh_pos {y x : Int} {t : List Int} (h : y = -x) : psh (y :: t) x = t := if_pos h
theorem psh_neg {y x : Int} {t : List Int} (h : y ≠ -x) : psh (y :: t) x = x :: y :: t := if_neg h
theorem Rd_psh {st : List Int} (h : Rd st) (x : Int) : Rd (psh st x) := by
  cases st with
  | nil => trivial
  | cons y t =>
    by_cases c : y = -x
    · rw [psh_pos c]
      exact h.tail
    · rw [psh_neg c]
      exact ⟨fun e => c (by omega), h⟩
theorem psh_cancel {st : List Int} (h : Rd st) (x : Int) : psh (psh st x) (-x) = st := by
  cases st with
  | nil => simp [psh]
  | cons y t =>
    by_cases c : y = -x
    · rw [show psh (y :: t) x = t from psh_pos c]
      cases t with
      | nil => simp [psh, c]
      | cons z t =>
        have := h.1
        rw [show psh (z :: t) (-x) = -x :: z :: t from psh_neg (by omega), c]
    · rw [show psh (y :: t) x = x :: y :: t from psh_neg c]
      exact psh_pos (by omega)
theorem Rd_foldl : ∀ (l : List Int) {st : List Int}, Rd st → Rd (l.foldl psh st)
  | [], _, h => h
  | x :: l, _, h => Rd_foldl l (Rd_psh h x)
theorem foldl_reduced : ∀ (l S : List Int), Rd (l.reverse ++ S) → l.foldl psh S = l.reverse ++ S
  | [], _, _ => rfl
  | x :: l, S, h => by
    rw [List.reverse_cons, List.append_assoc] at h
    have h1 : Rd (x :: S) := Rd.right h
    have hp : psh S x = x :: S := by
      cases S with
      | nil => rfl
      | cons y t => exact psh_neg (fun e => h1.1 (by omega))
    rw [List.foldl_cons, hp, foldl_reduced l (x :: S) (by simpa using h)]
    simp
theorem foldl_inv : ∀ (w S : List Int), Rd S → ((w.map fun x => -x).reverse).foldl psh (w.foldl psh S) = S
  | [], _, _ => rfl
  | x :: w, S, h => by
    rw [List.map_cons, List.reverse_cons]
    simp only [List.foldl_append, List.foldl_cons, List.foldl_nil]
    rw [foldl_inv w (psh S x) (Rd_psh h x)]
    exact psh_cancel h x
theorem foldl_any (S : List Int) (hS : Rd S) : ∀ (n : Nat) (l : List Int), l.length = n → l.foldl psh S = ((l.foldl psh []).reverse).foldl psh S := by
  intro n
  induction n with
  | zero =>
    intro l hl
    rw [List.length_eq_zero_iff.1 hl]
    rfl
  | succ n ih =>
    intro l hl
    obtain ⟨l', x, rfl⟩ : ∃ l' x, l = l' ++ [x] := ⟨l.dropLast, l.getLast (by intro e; rw [e] at hl; simp at hl), (List.dropLast_concat_getLast _).symm⟩
    have h1 := ih l' (by simp at hl; omega)
    rw [List.foldl_append, List.foldl_append, h1]
    have hT : Rd (l'.foldl psh []) := Rd_foldl l' (show Rd [] from trivial)
    generalize l'.foldl psh [] = T at hT ⊢
    show psh (T.reverse.foldl psh S) x = ((psh T x).reverse).foldl psh S
    cases T with
    | nil => simp [psh]
    | cons y t =>
      by_cases c : y = -x
      · rw [show psh (y :: t) x = t from psh_pos c, List.reverse_cons, List.foldl_append, c]
        have := psh_cancel (Rd_foldl t.reverse hS) (-x)
        rw [Int.neg_neg] at this
        exact this
      · rw [show psh (y :: t) x = x :: y :: t from if_neg c, List.reverse_cons (a := x), List.foldl_append]
        rfl
theorem wneg (x : Int) (h : -24 ≤ x ∧ x ≤ 24) : wrap64 (-x) = -x := w64 _ (by omega) (by omega)
theorem redStep_rev (st : List Int) (x : Int) (hx : -24 ≤ x ∧ x ≤ 24) : redStep st.reverse x = (psh st x).reverse := by
  unfold redStep
  rw [wneg x hx]
  cases st with
  | nil => simp [psh]
  | cons y t =>
    have hl : (y :: t).reverse.length = t.length + 1 := by simp
    have hr : rd (y :: t).reverse ((((y :: t).reverse.length - 1 : Nat)) : Int) = y := by
      rw [hl]
      simp [rd, List.getD]
    rw [hr, hl]
    by_cases c : y = -x
    · rw [if_pos ⟨by omega, c⟩, show psh (y :: t) x = t from psh_pos c]
      simp
    · rw [if_neg fun h => c h.2, show psh (y :: t) x = x :: y :: t from psh_neg c]
      simp
theorem foldl_rev : ∀ (l st : List Int), Small l → l.foldl redStep st.reverse = (l.foldl psh st).reverse
  | [], _, _ => rfl
  | x :: l, st, h => by
    rw [List.foldl_cons, List.foldl_cons, redStep_rev st x (h x (by simp)), foldl_rev l _ fun y hy => h y (by simp [hy])]
theorem redOf_rev (l : List Int) (h : Small l) : redOf l = (l.foldl psh []).reverse := foldl_rev l [] h
theorem psh_mem (st : List Int) (x z : Int) (h : z ∈ psh st x) : z ∈ st ∨ z = x := by
  cases st with
  | nil => exact Or.inr (by simpa [psh] using h)
  | cons y t =>
    by_cases c : y = -x
    · rw [psh_pos c] at h
      exact Or.inl (List.mem_cons.2 (Or.inr h))
    · rw [psh_neg c] at h
      rcases List.mem_cons.1 h with h | h
      · exact Or.inr h
      · exact Or.inl h
theorem foldl_mem : ∀ (l st : List Int) (z : Int), z ∈ l.foldl psh st → z ∈ st ∨ z ∈ l
  | [], _, _, h => Or.inl h
  | x :: l, st, z, h => by
    rcases foldl_mem l (psh st x) z h with h | h
    · rcases psh_mem st x z h with h | h
      · exact Or.inl h
      · exact Or.inr (by simp [h])
    · exact Or.inr (by simp [h])
theorem redOf_mem (l : List Int) (h : Small l) (z : Int) (hz : z ∈ redOf l) : z ∈ l := by
  rw [redOf_rev l h] at hz
  rcases foldl_mem l [] z (List.mem_reverse.1 hz) with h | h
  · simp at h
  · exact h
theorem redOf_Rd (l : List Int) (h : Small l) : Rd (redOf l).reverse := by
  rw [redOf_rev l h, List.reverse_reverse]
  exact Rd_foldl l (show Rd [] from trivial)
theorem redOf_again (r : List Int) (h : Small r) (hr : Rd r.reverse) : redOf r = r := by
  rw [redOf_rev r h, foldl_reduced r [] (by simpa using hr)]
  simp
theorem rd_cons (y : Int) (l : List Int) (i : Nat) : rd (y :: l) ((i + 1 : Nat) : Int) = rd l (i : Int) := by simp only [rd, Int.toNat_natCast]; rfl
theorem Rd_at : ∀ (l : List Int) (i : Nat), Rd l → i + 1 < l.length → rd l (i : Int) ≠ -(rd l ((i + 1 : Nat) : Int))
  | [], _, _, h => by simp at h
  | [_], _, _, h => by simp at h
  | y :: z :: t, 0, h, _ => h.1
  | y :: z :: t, i + 1, h, hi => by
    have := Rd_at (z :: t) i h.2 (by simp at hi ⊢; omega)
    rw [← rd_cons y (z :: t) i, ← rd_cons y (z :: t) (i + 1)] at this
    exact this
theorem rd_reverse (l : List Int) (i : Nat) (h : i < l.length) : rd l.reverse (i : Int) = rd l ((l.length - 1 - i : Nat) : Int) := by
  simp [rd, List.getD, List.getElem?_reverse h]
theorem Rd_fwd (l : List Int) (h : Rd l.reverse) (i : Nat) (hi : i + 1 < l.length) : rd l ((i + 1 : Nat) : Int) ≠ -(rd l (i : Int)) := by
  have h1 := Rd_at l.reverse (l.length - 2 - i) h (by simp; omega)
  rw [rd_reverse l _ (by omega), rd_reverse l _ (by omega), show l.length - 1 - (l.length - 2 - i) = i + 1 by omega, show l.length - 1 - (l.length - 2 - i + 1) = i by omega] at h1
  exact h1

theorem cycOf_fuel : ∀ (n m : Nat) (l : List Int), l.length ≤ n → l.length ≤ m → cycOf n l = cycOf m l := by
  intro n
  induction n with
  | zero =>
    intro m l hn hm
    rw [List.length_eq_zero_iff.1 (by omega : l.length = 0)]
    rw [cycOf_stop m [] (by simp)]
    rfl
  | succ n ih =>
    intro m l hn hm
    cases m with
    | zero =>
      rw [List.length_eq_zero_iff.1 (by omega : l.length = 0)]
      rw [cycOf_stop (n + 1) [] (by simp)]
      rfl
    | succ m =>
      simp only [cycOf]
      by_cases c : 1 < l.length ∧ rd l 0 = wrap64 (-(rd l ((l.length : Int) - 1)))
      · rw [if_pos c, if_pos c]
        exact ih m _ (by simp; omega) (by simp; omega)
      · rw [if_neg c, if_neg c]
theorem rd_last (P : List Int) (y : Int) : rd (P ++ [y]) (((P ++ [y]).length : Int) - 1) = y := by
  have e : (((P ++ [y]).length : Int) - 1) = ((P.length : Nat) : Int) := by simp
  rw [e]
  simp [rd, List.getD]
def cyc (l : List Int) : List Int := cycOf l.length l
theorem cyc_stop (l : List Int) (h : ¬ (1 < l.length ∧ rd l 0 = wrap64 (-(rd l ((l.length : Int) - 1))))) : cyc l = l := cycOf_stop _ l h
theorem cyc_strip (x : Int) (P : List Int) (y : Int) (hy : -24 ≤ y ∧ y ≤ 24) (h : x = -y) : cyc (x :: (P ++ [y])) = cyc P := by
  unfold cyc
  have hl : (x :: (P ++ [y])).length = P.length + 2 := by simp
  have e1 : rd (x :: (P ++ [y])) 0 = x := rfl
  have e2 : rd (x :: (P ++ [y])) (((x :: (P ++ [y])).length : Int) - 1) = y := rd_last (x :: P) y
  obtain ⟨m, hm, hc⟩ := cycOf_go (x :: (P ++ [y])).length (x :: (P ++ [y])) (Nat.le_refl _) ⟨by rw [hl]; omega, by rw [e1, e2, wneg y hy]; exact h⟩
  rw [hc]
  have e3 : ((x :: (P ++ [y])).take ((x :: (P ++ [y])).length - 1)).drop 1 = P := by
    rw [hl, show P.length + 2 - 1 = P.length + 1 by omega, List.take_succ_cons]
    simp
  rw [e3]
  exact cycOf_fuel m P.length P (by omega) (Nat.le_refl _)
theorem cyc_keep (x : Int) (P : List Int) (y : Int) (hy : -24 ≤ y ∧ y ≤ 24) (h : x ≠ -y) : cyc (x :: (P ++ [y])) = x :: (P ++ [y]) := by
  refine cyc_stop _ fun hc => h ?_
  have e2 : rd (x :: (P ++ [y])) (((x :: (P ++ [y])).length : Int) - 1) = y := rd_last (x :: P) y
  have := hc.2
  rw [e2, wneg y hy] at this
  exact this
theorem cyc_one (x : Int) : cyc [x] = [x] := cyc_stop _ (by simp)
theorem cyc_nil : cyc [] = [] := rfl
/-- A conjugate by the first letter has a cyclically reduced form of the same length. -/
theorem conj_length (r : List Int) (hs : Small r) (hr : Rd r.reverse) : (cyc (psh (r.foldl psh [1]) (-1)).reverse).length = (cyc r).length := by
  cases r with
  | nil => rfl
  | cons x s =>
    have hx := hs x (by simp)
    have hRs : Rd s.reverse := by
      rw [List.reverse_cons] at hr
      exact (show ∀ (a b : List Int), Rd (a ++ b) → Rd a from fun a b => by
        induction a with
        | nil => intro _; trivial
        | cons u a ih =>
          intro h
          cases a with
          | nil => trivial
          | cons v a => exact ⟨h.1, ih h.2⟩) _ _ hr
    by_cases cx : x = -1
    · subst cx
      have e0 : (-1 :: s).foldl psh [1] = s.reverse := by
        rw [List.foldl_cons, show psh [1] (-1) = [] from psh_pos (by omega), foldl_reduced s [] (by simpa using hRs)]
        simp
      rw [e0]
      rcases List.eq_nil_or_concat s with rfl | ⟨t, y, rfl⟩
      · rfl
      · rw [List.concat_eq_append] at *
        have hy := hs y (by simp)
        rw [List.reverse_append, List.reverse_singleton, List.singleton_append]
        by_cases cy : y = 1
        · subst cy
          rw [show psh (1 :: t.reverse) (-1) = t.reverse from psh_pos (by omega), List.reverse_reverse, cyc_strip (-1) t 1 (by omega) (by omega)]
        · rw [show psh (y :: t.reverse) (-1) = -1 :: y :: t.reverse from psh_neg (by omega), cyc_keep (-1) t y hy (by omega)]
          have e1 : (-1 :: y :: t.reverse).reverse = t ++ [y] ++ [-1] := by simp
          rw [e1]
          have hadj := Rd_fwd _ hr 0 (by simp)
          cases t with
          | nil =>
            have e2 : rd [-1, y] ((0 + 1 : Nat) : Int) = y := rfl
            have e3 : rd [-1, y] ((0 : Nat) : Int) = -1 := rfl
            simp only [List.nil_append] at hadj ⊢
            rw [e2, e3] at hadj
            rw [show ([y] ++ [-1] : List Int) = y :: ([] ++ [-1]) from rfl, cyc_keep y [] (-1) (by omega) hadj]
            rfl
          | cons u t =>
            have e2 : rd (-1 :: (u :: t ++ [y])) ((0 + 1 : Nat) : Int) = u := rfl
            have e3 : rd (-1 :: (u :: t ++ [y])) ((0 : Nat) : Int) = -1 := rfl
            rw [e2, e3] at hadj
            rw [show (u :: t ++ [y] ++ [-1] : List Int) = u :: ((t ++ [y]) ++ [-1]) from by simp, cyc_keep u (t ++ [y]) (-1) (by omega) hadj]
            simp
    · have hR1 : Rd ((x :: s).reverse ++ [1]) := by
        have : ∀ (a : List Int) (z u : Int), Rd (a ++ [z]) → z ≠ -u → Rd (a ++ [z] ++ [u]) := by
          intro a z u
          induction a with
          | nil => exact fun _ h => ⟨h, trivial⟩
          | cons v a ih =>
            intro h hz
            cases a with
            | nil => exact ⟨h.1, hz, trivial⟩
            | cons v2 a => exact ⟨h.1, ih h.2 hz⟩
        rw [List.reverse_cons] at hr ⊢
        exact this _ x 1 hr (by omega)
      rw [foldl_reduced (x :: s) [1] hR1]
      rcases List.eq_nil_or_concat s with rfl | ⟨t, y, rfl⟩
      · show (cyc (psh [x, 1] (-1)).reverse).length = (cyc [x]).length
        by_cases c1 : x = 1
        · rw [show psh [x, 1] (-1) = [1] from psh_pos (by omega), cyc_one]
          rfl
        · rw [show psh [x, 1] (-1) = [-1, x, 1] from psh_neg (by omega)]
          show (cyc (1 :: ([x] ++ [-1]))).length = _
          rw [cyc_strip 1 [x] (-1) (by omega) (by omega)]
      · rw [List.concat_eq_append] at *
        have hy := hs y (by simp)
        have e1 : (x :: (t ++ [y])).reverse ++ [1] = y :: (t.reverse ++ [x] ++ [1]) := by simp
        rw [e1]
        by_cases cy : y = 1
        · subst cy
          rw [show psh (1 :: (t.reverse ++ [x] ++ [1])) (-1) = t.reverse ++ [x] ++ [1] from psh_pos (by omega), cyc_keep x t 1 (by omega) cx]
          have e2 : (t.reverse ++ [x] ++ [1]).reverse = 1 :: (x :: t) := by simp
          rw [e2]
          rcases List.eq_nil_or_concat t with rfl | ⟨q, z, rfl⟩
          · have hadj := Rd_fwd _ hr 0 (by simp)
            have e3 : rd (x :: ([] ++ [1])) ((0 + 1 : Nat) : Int) = 1 := rfl
            have e4 : rd (x :: ([] ++ [1])) ((0 : Nat) : Int) = x := rfl
            rw [e3, e4] at hadj
            rw [show ([1, x] : List Int) = 1 :: ([] ++ [x]) from rfl, cyc_keep 1 [] x hx hadj]
            rfl
          · rw [List.concat_eq_append] at *
            have hz := hs z (by simp)
            have hadj := Rd_fwd _ hr (q.length + 1) (by simp)
            have e3 : rd (x :: (q ++ [z] ++ [1])) ((q.length + 1 + 1 : Nat) : Int) = 1 := by
              rw [rd_cons]
              simp only [rd, Int.toNat_natCast]
              simp [List.getD]
            have e4 : rd (x :: (q ++ [z] ++ [1])) ((q.length + 1 : Nat) : Int) = z := by
              rw [rd_cons]
              simp only [rd, Int.toNat_natCast]
              simp [List.getD]
            rw [e3, e4] at hadj
            rw [show (1 :: x :: (q ++ [z]) : List Int) = 1 :: ((x :: q) ++ [z]) from rfl, cyc_keep 1 (x :: q) z hz hadj]
            simp
        · rw [show psh (y :: (t.reverse ++ [x] ++ [1])) (-1) = -1 :: y :: (t.reverse ++ [x] ++ [1]) from psh_neg (by omega)]
          have e2 : (-1 :: y :: (t.reverse ++ [x] ++ [1])).reverse = 1 :: ((x :: (t ++ [y])) ++ [-1]) := by simp
          rw [e2, cyc_strip 1 (x :: (t ++ [y])) (-1) (by omega) (by omega)]

theorem dbyte_of (x : Int) (h : (Lit.int .u8 x).wf = true) : 0 ≤ x ∧ x ≤ 255 := by
  simpa [Lit.wf, IntKind.min, IntKind.max, IntKind.signed, IntKind.bits] using h
theorem dbyte_at (b : List Int) (hb : ∀ x ∈ b, (Lit.int .u8 x).wf = true) (i : Nat) (hi : i < b.length) : 0 ≤ rd b i ∧ rd b i ≤ 255 := by
  refine dbyte_of _ (hb _ ?_)
  rw [rd_nat b i hi]
  exact List.getElem_mem hi
theorem from_step (c x : Int) (h0 : 0 ≤ c) (h1 : c < 2147483647) (x0 : 0 ≤ x) (x1 : x ≤ 255) : 0 ≤ Int.tmod (wrap64 (wrap64 (c * 37) + wrap64 x)) 2147483647 ∧ Int.tmod (wrap64 (wrap64 (c * 37) + wrap64 x)) 2147483647 < 2147483647 := by
  rw [w64 (c * 37) (by omega) (by omega), w64 x (by omega) (by omega), w64 (c * 37 + x) (by omega) (by omega)]
  exact ⟨Int.tmod_nonneg _ (by omega), Int.tmod_lt_of_pos _ (by omega)⟩
theorem from_l0 (b : List Int) (hb : ∀ x ∈ b, (Lit.int .u8 x).wf = true) (hl : b.length ≤ 4096) : ∀ (d i k : Nat) (c : Int), i + d = b.length → d < k → 0 ≤ c → c < 2147483647 → ∃ c', spec_l01From.l0 k b (i : Int) b 0 c = some (b, 0, c') ∧ 0 ≤ c' ∧ c' < 2147483647 := by
  intro d
  induction d with
  | zero =>
    intro i k c hi hk h0 h1
    obtain ⟨k, rfl⟩ := succ_k hk
    simp only [spec_l01From.l0]
    rw [if_neg (by omega)]
    exact ⟨c, rfl, h0, h1⟩
  | succ d ih =>
    intro i k c hi hk h0 h1
    obtain ⟨k, rfl⟩ := succ_k hk
    simp only [spec_l01From.l0]
    rw [if_pos (by omega)]
    by_cases c4 : (i : Int) < 64
    · obtain ⟨x0, x1⟩ := dbyte_at b hb i (by omega)
      obtain ⟨s0, s1⟩ := from_step c _ h0 h1 x0 x1
      rw [if_pos c4, if_pos (by omega), w64 ((i : Int) + 1) (by omega) (by omega), cast_succ]
      exact ih (i + 1) k _ (by omega) (by omega) s0 s1
    · rw [if_neg c4]
      exact ⟨c, rfl, h0, h1⟩
theorem from_ok (b : List Int) (hb : ∀ x ∈ b, (Lit.int .u8 x).wf = true) (hl : b.length ≤ 4096) (k : Nat) (hk : b.length < k) : ∃ c, spec_l01From.f k b = some (b, 0, c) ∧ 0 ≤ c ∧ c < 2147483647 :=
  from_l0 b hb hl b.length 0 k 97531 (by omega) hk (by omega) (by omega)
theorem next_seed (c : Int) (h0 : 0 ≤ c) (h1 : c < 2147483647) : 0 ≤ Int.tmod (wrap64 (wrap64 (c * 48271) + 11)) 2147483647 ∧ Int.tmod (wrap64 (wrap64 (c * 48271) + 11)) 2147483647 < 2147483647 := by
  rw [w64 (c * 48271) (by omega) (by omega), w64 (c * 48271 + 11) (by omega) (by omega)]
  exact ⟨Int.tmod_nonneg _ (by omega), Int.tmod_lt_of_pos _ (by omega)⟩
theorem next_ok (b : List Int) (hb : ∀ x ∈ b, (Lit.int .u8 x).wf = true) (hl : b.length ≤ 4096) (i c a : Int) (hi : 0 ≤ i) (h0 : 0 ≤ c) (h1 : c < 2147483647) :
    ∃ r i' c', spec_l01Next.f b i c a = some (r, i', c') ∧ 0 ≤ r ∧ (r < a ∨ r = 0) ∧ 0 ≤ i' ∧ 0 ≤ c' ∧ c' < 2147483647 := by
  unfold spec_l01Next.f
  obtain ⟨s0, s1⟩ := next_seed c h0 h1
  generalize Int.tmod (wrap64 (wrap64 (c * 48271) + 11)) 2147483647 = s at s0 s1 ⊢
  by_cases a1 : a ≤ 1
  · rw [if_pos a1]
    exact ⟨0, i, c, rfl, by omega, Or.inr rfl, hi, h0, h1⟩
  · rw [if_neg a1]
    have an : ¬ a = 0 := by omega
    have q0 : 0 ≤ Int.tdiv s 11 := Int.tdiv_nonneg s0 (by omega)
    have q1 : Int.tdiv s 11 ≤ 2147483647 := by rw [Int.tdiv_eq_ediv_of_nonneg s0]; omega
    generalize Int.tdiv s 11 = q at q0 q1 ⊢
    by_cases c1 : i < (b.length : Int)
    · obtain ⟨j, rfl⟩ : ∃ j : Nat, i = j := ⟨i.toNat, by omega⟩
      obtain ⟨x0, x1⟩ := dbyte_at b hb j (by omega)
      have b1 : -9223372036854775808 ≤ (j : Int) + 1 ∧ (j : Int) + 1 ≤ 9223372036854775807 := by omega
      have b2 : -9223372036854775808 ≤ (j : Int) + 1 - 1 ∧ (j : Int) + 1 - 1 ≤ 9223372036854775807 := by omega
      have e2 : (j : Int) + 1 - 1 = (j : Int) := by omega
      have b3 : 0 ≤ (j : Int) + 1 := by omega
      rw [w64 ((j : Int) + 1) b1.1 b1.2, w64 ((j : Int) + 1 - 1) b2.1 b2.2, e2]
      generalize rd b (j : Int) = x at x0 x1 ⊢
      have t0 := Int.tmod_nonneg a x0
      have t1 := Int.tmod_lt_of_pos x (show 0 < a by omega)
      have t2 := Int.tmod_nonneg a (show 0 ≤ q + x by omega)
      have t3 := Int.tmod_lt_of_pos (q + x) (show 0 < a by omega)
      have b4 : -9223372036854775808 ≤ x ∧ x ≤ 9223372036854775807 := by omega
      have b5 : -9223372036854775808 ≤ q ∧ q ≤ 9223372036854775807 := by omega
      have b6 : -9223372036854775808 ≤ q + x ∧ q + x ≤ 9223372036854775807 := by omega
      rw [w64 x b4.1 b4.2, w64 q b5.1 b5.2, w64 (q + x) b6.1 b6.2, if_pos c1, if_pos hi]
      by_cases c2 : a ≤ 256
      · rw [if_pos c2]
        by_cases c3 : ((j : Int) + 1).tmod 2 = 0
        · rw [if_pos c3, if_pos hi, if_pos c1, if_neg an]
          exact ⟨_, _, _, rfl, t0, Or.inl t1, b3, s0, s1⟩
        · rw [if_neg c3, if_neg an]
          exact ⟨_, _, _, rfl, t2, Or.inl t3, b3, s0, s1⟩
      · rw [if_neg c2, if_neg an]
        exact ⟨_, _, _, rfl, t2, Or.inl t3, b3, s0, s1⟩
    · have b5 : -9223372036854775808 ≤ q ∧ q ≤ 9223372036854775807 := by omega
      rw [if_neg c1, if_neg an, w64 q b5.1 b5.2]
      exact ⟨_, _, _, rfl, Int.tmod_nonneg a q0, Or.inl (Int.tmod_lt_of_pos q (by omega)), hi, s0, s1⟩

theorem specIsWord_l0 (l : List Int) (hl : l.length ≤ 4611686018427387904) : ∀ (d i k : Nat), i + d = l.length → d < k →
    spec_IsWord.l0 k l (i : Int) = some (letters 24 (l.drop i) && decide (l.length ≤ 120)) := by
  intro d
  induction d with
  | zero =>
    intro i k hd hk
    obtain ⟨k, rfl⟩ := succ_k hk
    simp only [spec_IsWord.l0]
    rw [if_neg (by omega), List.drop_of_length_le (by omega)]
    simp [letters]
    omega
  | succ d ih =>
    intro i k hd hk
    obtain ⟨k, rfl⟩ := succ_k hk
    simp only [spec_IsWord.l0]
    rw [if_pos (by omega), if_pos (by omega), w64 _ (by omega) (by omega), cast_succ, ih (i + 1) k (by omega) (by omega), drop_rd l i (by omega)]
    unfold spec_l01In.f letters
    generalize rd l (i : Int) = y
    by_cases h0 : y = 0
    · simp [h0]
    · by_cases h1 : -24 ≤ y <;> by_cases h2 : y ≤ 24 <;> simp [h0, h1, h2]
theorem specIsWord_eq (l : List Int) (k : Nat) (hl : l.length ≤ 4611686018427387904) (hk : l.length < k) : spec_IsWord.f k l = some (isWordB l) := by
  have := specIsWord_l0 l hl l.length 0 k (by omega) hk
  unfold spec_IsWord.f isWordB
  simpa using this


theorem wf64 {x : Int} (h : (Lit.int .i64 x).wf = true) : -9223372036854775808 ≤ x ∧ x ≤ 9223372036854775807 := by
  simpa [Lit.wf, IntKind.min, IntKind.max, IntKind.signed, IntKind.bits] using h
theorem bad_iff (g x : Int) (hg : 0 ≤ g) (hg1 : g ≤ 4611686018427387904) (h : (Lit.int .i64 x).wf = true) : isWord_bad g x = !(decide (x ≠ 0) && (decide (-g ≤ x) && decide (x ≤ g))) := by
  have hx := wf64 h
  have e : (!(decide (x ≠ 0) && (decide (-g ≤ x) && decide (x ≤ g)))) = decide (x = 0 ∨ ¬ (-g ≤ x ∧ x ≤ g)) := by
    by_cases h0 : x = 0 <;> by_cases h1 : -g ≤ x <;> by_cases h2 : x ≤ g <;> simp [h0, h1, h2]
  rw [e]
  unfold isWord_bad abs64
  rw [w64 (-g) (by omega) (by omega)]
  have e2 : (x == 0 || (decide (g < if x < 0 then wrap64 (-x) else x) || decide (x < -g))) = decide (x = 0 ∨ (g < (if x < 0 then wrap64 (-x) else x) ∨ x < -g)) := by
    show (decide (x = 0) || _) = _
    simp [Bool.decide_or]
  rw [e2]
  apply decide_eq_decide.mpr
  by_cases hn : x < 0
  · rw [if_pos hn]
    by_cases hm : x = -9223372036854775808
    · subst hm
      have : wrap64 (-(-9223372036854775808)) = -9223372036854775808 := by unfold wrap64; omega
      rw [this]
      omega
    · rw [w64 (-x) (by omega) (by omega)]
      omega
  · rw [if_neg hn]
    omega
theorem any_bad (g : Int) (hg : 0 ≤ g) (hg1 : g ≤ 4611686018427387904) (l : List Int) (h : ∀ x ∈ l, (Lit.int .i64 x).wf = true) : (!(l.any (isWord_bad g))) = letters g l := by
  unfold letters
  induction l with
  | nil => rfl
  | cons x r ih =>
    rw [List.any_cons, List.all_cons, Bool.not_or, ih fun y hy => h y (List.mem_cons_of_mem _ hy), bad_iff g x hg hg1 (h x List.mem_cons_self)]
    simp
theorem implisWord_eq (g : Int) (hg : 0 ≤ g) (hg1 : g ≤ 4611686018427387904) (l : List Int) (h : ∀ x ∈ l, (Lit.int .i64 x).wf = true) : impl_isWord.f l g = some (letters g l && decide (l.length ≤ 120)) := by
  unfold impl_isWord.f
  rw [any_bad g hg hg1 l h, Bool.and_comm]


theorem implIsWord_eq (l : List Int) (h : ∀ x ∈ l, (Lit.int .i64 x).wf = true) : impl_IsWord.f l = some (isWordB l) := by
  unfold impl_IsWord.f
  rw [implisWord_eq 24 (by omega) (by omega) l h]
  rfl


theorem implReduced_l0 (l : List Int) (hl : l.length ≤ 1099511627776) : ∀ (d i k : Nat) (out : List Int), i + d = l.length → out.length ≤ i → d < k →
    impl_reduced.l0 k out l (l.length : Int) (i : Int) = some ((l.drop i).foldl redStep out) := by
  intro d
  induction d with
  | zero =>
    intro i k out hd ho hk
    obtain ⟨k, rfl⟩ := succ_k hk
    simp only [impl_reduced.l0]
    rw [if_neg (by omega), List.drop_of_length_le (by omega)]
    rfl
  | succ d ih =>
    intro i k out hd ho hk
    obtain ⟨k, rfl⟩ := succ_k hk
    have hs := redStep_length out (rd l (i : Int))
    simp only [impl_reduced.l0]
    rw [if_pos (by omega), if_pos (by omega), if_pos (by omega), drop_rd l i (by omega), List.foldl_cons, w64 ((i : Int) + 1) (by omega) (by omega), cast_succ]
    by_cases h0 : 0 < out.length
    · have e1 : wrap64 ((out.length : Int) - 1) = ((out.length - 1 : Nat) : Int) := by rw [w64 _ (by omega) (by omega)]; omega
      rw [if_pos (by omega), e1, if_pos (by omega), if_pos (by omega)]
      by_cases h1 : rd out (((out.length - 1 : Nat) : Int)) = wrap64 (-(rd l (i : Int)))
      · have e2 : redStep out (rd l (i : Int)) = out.take (out.length - 1) := if_pos ⟨h0, h1⟩
        rw [if_pos h1, if_pos (by omega), Int.toNat_natCast, e2, ih (i + 1) k _ (by omega) (by simp; omega) (by omega)]
      · have e2 : redStep out (rd l (i : Int)) = out ++ [rd l (i : Int)] := if_neg fun h => h1 h.2
        rw [if_neg h1, if_pos (by omega), e2, ih (i + 1) k _ (by omega) (by simp; omega) (by omega)]
    · have e2 : redStep out (rd l (i : Int)) = out ++ [rd l (i : Int)] := if_neg fun h => h0 h.1
      rw [if_neg (by omega), if_pos (by omega), e2, ih (i + 1) k _ (by omega) (by simp; omega) (by omega)]
theorem implReduced_eq (l : List Int) (k : Nat) (hl : l.length ≤ 1099511627776) (hk : l.length < k) : impl_reduced.f k l = some (redOf l) := by
  have := implReduced_l0 l hl l.length 0 k [] (by omega) (by simp) hk
  unfold impl_reduced.f redOf
  simpa using this


theorem wf_of (x : Int) (h0 : -9223372036854775808 ≤ x) (h1 : x ≤ 9223372036854775807) : (Lit.int .i64 x).wf = true := by
  simp [Lit.wf, IntKind.min, IntKind.max, IntKind.signed, IntKind.bits]
  omega
theorem word_iff (l : List Int) : isWordB l = true ↔ (∀ x ∈ l, x ≠ 0 ∧ -24 ≤ x ∧ x ≤ 24) ∧ l.length ≤ 120 := by
  simp [isWordB, letters]
theorem word_small {l : List Int} (h : isWordB l = true) : Small l := fun x hx => (((word_iff l).1 h).1 x hx).2
theorem small_wf {l : List Int} (h : Small l) : ∀ x ∈ l, (Lit.int .i64 x).wf = true := fun x hx => wf_of x (by have := h x hx; omega) (by have := h x hx; omega)
theorem invWord_rev (l : List Int) (h : Small l) : invWord l = (l.map fun x => -x).reverse := by
  apply List.ext_getElem
  · simp [invWord, backUpto]
  · intro i h1 h2
    have hi : i < l.length := by simpa [invWord, backUpto] using h1
    have e : (l.length : Int) - 1 - (i : Int) = ((l.length - 1 - i : Nat) : Int) := by omega
    have hm := h (l[l.length - 1 - i]'(by omega)) (List.getElem_mem _)
    simp only [invWord, backUpto, List.getElem_map, List.getElem_range, List.getElem_reverse, List.length_map]
    rw [e, rd_nat l _ (by omega), wneg _ hm]
theorem inv_small {l : List Int} (h : Small l) : Small (l.map fun x => -x).reverse := by
  intro x hx
  obtain ⟨y, hy, rfl⟩ := List.mem_map.1 (List.mem_reverse.1 hx)
  have := h y hy
  omega
theorem inv_word {l : List Int} (h : isWordB l = true) : isWordB (l.map fun x => -x).reverse = true := by
  obtain ⟨h1, h2⟩ := (word_iff l).1 h
  refine (word_iff _).2 ⟨fun x hx => ?_, by simpa using h2⟩
  obtain ⟨y, hy, rfl⟩ := List.mem_map.1 (List.mem_reverse.1 hx)
  have := h1 y hy
  omega
theorem red_word {l : List Int} (h : isWordB l = true) : isWordB (redOf l) = true := by
  obtain ⟨h1, h2⟩ := (word_iff l).1 h
  refine (word_iff _).2 ⟨fun x hx => h1 x (redOf_mem l (word_small h) x hx), ?_⟩
  have := redOf_length l
  omega
theorem implInvert_word (l : List Int) (h : isWordB l = true) : impl_InvertWord.f l = some (l.map fun x => -x).reverse := by
  unfold impl_InvertWord.f impl_inverse.f
  have hl := ((word_iff l).1 h).2
  rw [implIsWord_eq l (small_wf (word_small h)), h, Option.bind_some, if_pos rfl, if_pos (by omega), Option.bind_some, invWord_rev l (word_small h)]
theorem implFree_word (l : List Int) (h : isWordB l = true) (k : Nat) (hk : 121 ≤ k) : impl_FreeReduce.f k l = some (redOf l) := by
  unfold impl_FreeReduce.f
  have hl := ((word_iff l).1 h).2
  rw [implIsWord_eq l (small_wf (word_small h)), h, Option.bind_some, if_pos rfl, implReduced_eq l k (by omega) (by omega)]
  rfl
theorem implCyclic_word (l : List Int) (h : isWordB l = true) (k : Nat) (hk : 121 ≤ k) : impl_CyclicReduce.f k l = some (cyc (redOf l)) := by
  unfold impl_CyclicReduce.f
  have hl := ((word_iff l).1 h).2
  have hr := redOf_length l
  rw [implIsWord_eq l (small_wf (word_small h)), h, Option.bind_some, if_pos rfl, implReduced_eq l k (by omega) (by omega), Option.bind_some, if_pos (by omega)]
  rfl
theorem like_l0 (a l : List Int) (ha : a.length = l.length) (hl : a.length ≤ 1048576) : ∀ (d i k : Nat), i + d = a.length → d < k → laws_likeInts.l0 k a l (i : Int) = some (decide (a.drop i = l.drop i)) := by
  intro d
  induction d with
  | zero =>
    intro i k hi hk
    obtain ⟨k, rfl⟩ := succ_k hk
    simp only [laws_likeInts.l0]
    rw [if_neg (by omega), List.drop_of_length_le (by omega), List.drop_of_length_le (by omega)]
    simp
  | succ d ih =>
    intro i k hi hk
    obtain ⟨k, rfl⟩ := succ_k hk
    simp only [laws_likeInts.l0]
    rw [if_pos (by omega), if_pos (by omega), if_pos (by omega), w64 _ (by omega) (by omega), cast_succ, ih (i + 1) k (by omega) (by omega), drop_rd a i (by omega), drop_rd l i (by omega)]
    by_cases h : rd a (i : Int) = rd l (i : Int)
    · simp [h]
    · simp [h]
theorem like_self (a : List Int) (hl : a.length ≤ 1048576) (k : Nat) (hk : a.length < k) : laws_likeInts.f k a a = some true := by
  unfold laws_likeInts.f
  rw [if_pos rfl]
  have := like_l0 a a rfl hl a.length 0 k (by omega) hk
  simpa using this
theorem draw_word (b : List Int) (hb : ∀ x ∈ b, (Lit.int .u8 x).wf = true) (hl : b.length ≤ 4096) : ∀ (n : Nat) (k : Nat) (acc : List Int) (i c : Int), acc.length + n ≤ 1000 → 2 * n + 2 ≤ k → 0 ≤ i → 0 ≤ c → c < 2147483647 → (∀ x ∈ acc, (Lit.int .i64 x).wf = true) →
    ∃ w i' c', spec_l04DrawWord.l0 k 3 acc (n : Int) b i c = some (w, i', c') ∧ w.length ≤ acc.length + n ∧ (∀ x ∈ w, (Lit.int .i64 x).wf = true) ∧ 0 ≤ i' ∧ 0 ≤ c' ∧ c' < 2147483647 := by
  intro n
  induction n with
  | zero =>
    intro k acc i c ha hk hi h0 h1 hw
    obtain ⟨k, rfl⟩ : ∃ m, k = m + 1 + 1 := ⟨k - 2, by omega⟩
    simp only [spec_l04DrawWord.l0]
    rw [if_neg (by omega)]
    simp only [spec_l04DrawWord.j1]
    rw [if_neg (by simp)]
    exact ⟨acc, i, c, rfl, by omega, hw, hi, h0, h1⟩
  | succ n ih =>
    intro k acc i c ha hk hi h0 h1 hw
    obtain ⟨k, rfl⟩ : ∃ m, k = m + 1 + 1 := ⟨k - 2, by omega⟩
    simp only [spec_l04DrawWord.l0]
    rw [if_pos (by omega), show decide ((3 : Int) > 0) = true from rfl]
    simp only [spec_l04DrawWord.j1]
    rw [if_pos trivial]
    obtain ⟨r, i1, c1, e1, r0, r1, hi1, p1, p2⟩ := next_ok b hb hl i c 3 hi h0 h1
    obtain ⟨s, i2, c2, e2, s0, s1, hi2, p3, p4⟩ := next_ok b hb hl i1 c1 2 hi1 p1 p2
    rw [e1, Option.bind_some, e2, Option.bind_some]
    have hr : wrap64 (1 + r) = 1 + r := w64 _ (by omega) (by omega)
    have hr2 : wrap64 (-(1 + r)) = -(1 + r) := w64 _ (by omega) (by omega)
    rw [hr, hr2, w64 (((n + 1 : Nat) : Int) - 1) (by omega) (by omega), show ((n + 1 : Nat) : Int) - 1 = (n : Int) by omega]
    by_cases hs : s = 0
    · rw [if_pos hs, if_pos (by omega)]
      obtain ⟨w, i3, c3, e3, hl3, hw3, q1, q2, q3⟩ := ih k (acc ++ [-(1 + r)]) i2 c2 (by simp; omega) (by omega) hi2 p3 p4 (fun x hx => by
        rcases List.mem_append.1 hx with hx | hx
        · exact hw x hx
        · rw [List.mem_singleton.1 hx]
          exact wf_of _ (by omega) (by omega))
      exact ⟨w, i3, c3, e3, by simp at hl3; omega, hw3, q1, q2, q3⟩
    · rw [if_neg hs, if_pos (by omega)]
      obtain ⟨w, i3, c3, e3, hl3, hw3, q1, q2, q3⟩ := ih k (acc ++ [1 + r]) i2 c2 (by simp; omega) (by omega) hi2 p3 p4 (fun x hx => by
        rcases List.mem_append.1 hx with hx | hx
        · exact hw x hx
        · rw [List.mem_singleton.1 hx]
          exact wf_of _ (by omega) (by omega))
      exact ⟨w, i3, c3, e3, by simp at hl3; omega, hw3, q1, q2, q3⟩
theorem draw_ones (b : List Int) (i0 c0 : Int) : ∀ (d i k : Nat) (l : List Int), i + d = l.length → l.length ≤ 1000 → d < k → (∀ x ∈ l, (Lit.int .i64 x).wf = true) →
    ∃ w, spec_l04DrawAny.l0 k l (i : Int) b i0 c0 = some (w, i0, c0) ∧ w.length = l.length ∧ ∀ x ∈ w, (Lit.int .i64 x).wf = true := by
  intro d
  induction d with
  | zero =>
    intro i k l hi hl hk hw
    obtain ⟨k, rfl⟩ := succ_k hk
    simp only [spec_l04DrawAny.l0]
    rw [if_neg (by omega)]
    exact ⟨l, rfl, rfl, hw⟩
  | succ d ih =>
    intro i k l hi hl hk hw
    obtain ⟨k, rfl⟩ := succ_k hk
    simp only [spec_l04DrawAny.l0]
    rw [if_pos (by omega), if_pos (by omega), w64 ((i : Int) + 1) (by omega) (by omega), cast_succ]
    obtain ⟨w, e, h1, h2⟩ := ih (i + 1) k (l.set (i : Int).toNat 1) (by simp; omega) (by simpa using hl) (by omega) (fun x hx => by
      rcases List.mem_or_eq_of_mem_set hx with hx | hx
      · exact hw x hx
      · rw [hx]
        exact wf_of 1 (by omega) (by omega))
    exact ⟨w, e, by simpa using h1, h2⟩
theorem draw_ok (b : List Int) (hb : ∀ x ∈ b, (Lit.int .u8 x).wf = true) (hl : b.length ≤ 4096) (k : Nat) (hk : b.length + 200 ≤ k) :
    ∃ w, spec_DrawFreeReduce.f k b = some w ∧ w.length ≤ 200 ∧ ∀ x ∈ w, (Lit.int .i64 x).wf = true := by
  unfold spec_DrawFreeReduce.f
  obtain ⟨c, e0, h0, h1⟩ := from_ok b hb hl k (by omega)
  rw [e0, Option.bind_some]
  unfold spec_l04DrawAny.f spec_l04DrawWord.f
  rw [w64 (8 + 1) (by omega) (by omega)]
  obtain ⟨r, i1, c1, e1, r0, r1, hi1, p1, p2⟩ := next_ok b hb hl 0 c (8 + 1) (by omega) h0 h1
  obtain ⟨n, rfl⟩ : ∃ n : Nat, r = n := ⟨r.toNat, by omega⟩
  obtain ⟨w, i2, c2, e2, hl2, hw2, hi2, p3, p4⟩ := draw_word b hb hl n k [] i1 c1 (by simp; omega) (by omega) hi1 p1 p2 (by simp)
  obtain ⟨s, i3, c3, e3, s0, s1, hi3, p5, p6⟩ := next_ok b hb hl i2 c2 20 hi2 p3 p4
  simp only [e1, e2, e3, Option.bind_some]
  have hwl : w.length ≤ 8 := by simp at hl2; omega
  by_cases hs : s = 0
  · obtain ⟨u, i4, c4, e4, u0, u1, _⟩ := next_ok b hb hl i3 c3 5 hi3 p5 p6
    rw [if_pos hs]
    simp only [e4, Option.bind_some]
    rw [if_pos u0, if_pos (by show u < 5; omega), if_pos (by omega)]
    refine ⟨_, rfl, by simp; omega, fun x hx => ?_⟩
    rcases List.mem_append.1 hx with hx | hx
    · exact hw2 x hx
    · rw [List.mem_singleton.1 hx]
      obtain ⟨m, rfl⟩ : ∃ m : Nat, u = m := ⟨u.toNat, by omega⟩
      have hm : m < 5 := by omega
      exact (by decide +kernel : ∀ m, m < 5 → (Lit.int .i64 (rd [0, 24, 25, (-24), (-25)] ((m : Nat) : Int))).wf = true) m hm
  · rw [if_neg hs]
    by_cases h2 : s = 1
    · obtain ⟨u, i4, c4, e4, u0, u1, _⟩ := next_ok b hb hl i3 c3 3 hi3 p5 p6
      rw [if_pos h2]
      simp only [e4, Option.bind_some]
      rw [w64 (119 + u) (by omega) (by omega), if_pos (by omega), if_pos (by omega)]
      obtain ⟨v, ev, hv1, hv2⟩ := draw_ones b i4 c4 (List.replicate (119 + u).toNat (0 : Int)).length 0 k (List.replicate (119 + u).toNat (0 : Int)) (by omega) (by simp; omega) (by simp; omega) (fun x hx => by
        rw [(List.mem_replicate.1 hx).2]
        exact wf_of 0 (by omega) (by omega))
      rw [show (((0 : Nat) : Int)) = 0 from rfl] at ev
      rw [ev]
      refine ⟨v, rfl, by rw [hv1]; simp; omega, hv2⟩
    · rw [if_neg h2]
      exact ⟨w, rfl, by omega, hw2⟩
theorem law_j2 (w : List Int) (hw : isWordB w = true) (k : Nat) (hk : 125 ≤ k) : laws_FnWords.j2 k w false = some true := by
  obtain ⟨k, rfl⟩ := succ_k (show 0 < k by omega)
  simp only [laws_FnWords.j2]
  have hwl := ((word_iff w).1 hw).2
  rw [if_neg (by simp), Option.bind_some, if_pos (by simp; omega), Option.bind_some, if_pos (by simp; omega), Option.bind_some]
  rw [specIsWord_eq _ k (by simp; omega) (by simp; omega), Option.bind_some]
  by_cases hc : isWordB ([1] ++ w ++ [-1]) = true
  · rw [hc, if_pos rfl, implCyclic_word _ hc k (by omega), Option.bind_some, implCyclic_word w hw k (by omega), Option.bind_some]
    have hs := word_small hw
    have hcs := word_small hc
    have e : redOf ([1] ++ w ++ [-1]) = (psh ((redOf w).foldl psh [1]) (-1)).reverse := by
      rw [redOf_rev _ hcs]
      congr 1
      rw [List.foldl_append, List.foldl_append]
      show psh (w.foldl psh [1]) (-1) = _
      rw [foldl_any [1] trivial w.length w rfl, ← redOf_rev w hs]
    have hlen := conj_length (redOf w) (fun x hx => hs x (redOf_mem w hs x hx)) (redOf_Rd w hs)
    rw [e, hlen]
    simp
  · rw [show isWordB ([1] ++ w ++ [-1]) = false by simpa using hc, if_neg (by simp)]
theorem law_j1 (w : List Int) (hw : isWordB w = true) (k : Nat) (hk : 300 ≤ k) : laws_FnWords.j1 k w false = some true := by
  obtain ⟨k, rfl⟩ := succ_k (show 0 < k by omega)
  simp only [laws_FnWords.j1]
  have hwl := ((word_iff w).1 hw).2
  have hs := word_small hw
  rw [if_neg (by simp), Option.bind_some, if_pos (by simp; omega), Option.bind_some, implInvert_word w hw, Option.bind_some, List.nil_append, if_pos (by simp; omega), Option.bind_some]
  rw [specIsWord_eq _ k (by simp; omega) (by simp; omega), Option.bind_some]
  by_cases hc : isWordB (w ++ (w.map fun x => -x).reverse) = true
  · rw [hc, if_pos rfl, implFree_word _ hc k (by omega), Option.bind_some]
    have e : redOf (w ++ (w.map fun x => -x).reverse) = [] := by
      rw [redOf_rev _ (word_small hc), List.foldl_append, foldl_inv w [] trivial]
      rfl
    rw [e]
    exact law_j2 w hw k (by omega)
  · rw [show isWordB (w ++ (w.map fun x => -x).reverse) = false by simpa using hc, if_neg (by simp)]
    exact law_j2 w hw k (by omega)
theorem law_l0 (w : List Int) (hw : isWordB w = true) : ∀ (d i k : Nat), (redOf w).length ≤ i + d → 1 ≤ i → i ≤ 1000 → d + 400 ≤ k → laws_FnWords.l0 k w (redOf w) (i : Int) = some true := by
  have hs := word_small hw
  have hwl := ((word_iff w).1 hw).2
  have hrw := red_word hw
  have hrl := redOf_length w
  intro d
  induction d with
  | zero =>
    intro i k hi h1 h2 hk
    obtain ⟨k, rfl⟩ := succ_k (show 0 < k by omega)
    simp only [laws_FnWords.l0]
    rw [if_neg (by omega), implFree_word _ hrw k (by omega), Option.bind_some, redOf_again (redOf w) (word_small hrw) (redOf_Rd w hs), like_self (redOf w) (by omega) k (by omega), Option.bind_some, if_pos rfl]
    rw [implInvert_word w hw, Option.bind_some, implInvert_word _ (inv_word hw), Option.bind_some]
    have e : (((w.map fun x => -x).reverse).map fun x => -x).reverse = w := by
      rw [List.map_reverse, List.reverse_reverse, List.map_map]
      simp [Function.comp_def]
    rw [e, like_self w (by omega) k (by omega), Option.bind_some]
    exact law_j1 w hw k (by omega)
  | succ d ih =>
    intro i k hi h1 h2 hk
    by_cases hlt : i < (redOf w).length
    · obtain ⟨k, rfl⟩ := succ_k (show 0 < k by omega)
      simp only [laws_FnWords.l0]
      obtain ⟨j, rfl⟩ : ∃ j, i = j + 1 := ⟨i - 1, by omega⟩
      have e : wrap64 (((j + 1 : Nat) : Int) - 1) = (j : Int) := (w64 _ (by omega) (by omega)).trans (by omega)
      have hmem : -24 ≤ rd (redOf w) (j : Int) ∧ rd (redOf w) (j : Int) ≤ 24 := by
        rw [rd_nat _ j (by omega)]
        exact word_small hrw _ (List.getElem_mem _)
      have hadj := Rd_fwd (redOf w) (redOf_Rd w hs) j hlt
      rw [if_pos (by omega), if_pos (by omega), e, if_pos (by omega), if_pos (by omega), wneg _ hmem, if_neg hadj, w64 (((j + 1 : Nat) : Int) + 1) (by omega) (by omega), cast_succ]
      exact ih (j + 1 + 1) k (by omega) (by omega) (by omega) (by omega)
    · exact at_rounds (g := fun k => laws_FnWords.l0 k w (redOf w) (i : Int)) (fun k => (laws_FnWords.mono_l k).1 _ _ _) (show d + 400 ≤ k by omega) (ih i (d + 400) (by omega) h1 h2 (by omega))
theorem FnWords : laws_FnWords.Pure := by
  intro b _ _ hb
  obtain ⟨K, hK⟩ : ∃ K : Nat, K = b.length + 2000 := ⟨_, rfl⟩
  refine ⟨K, ?_⟩
  unfold laws_FnWords.f laws_big.f
  by_cases h : (b.length : Int) > 4096
  · rw [decide_eq_true h]
    rfl
  · have hl : b.length ≤ 4096 := by omega
    rw [decide_eq_false h, Option.bind_some, if_neg (by simp)]
    obtain ⟨w, e, hwl, hwf⟩ := draw_ok b hb hl K (by omega)
    rw [e, Option.bind_some]
    by_cases hw : isWordB w = true
    · rw [implFree_word w hw K (by omega), Option.bind_some, specIsWord_eq w K (by omega) (by omega), hw, Option.bind_some, if_pos rfl]
      have hrl := redOf_length w
      exact law_l0 w hw 1000 1 K (by omega) (by omega) (by omega) (by omega)
    · have hw' : isWordB w = false := by simpa using hw
      have e1 : impl_FreeReduce.f K w = some [] := by
        unfold impl_FreeReduce.f
        rw [implIsWord_eq w hwf, hw']
        rfl
      have e2 : impl_InvertWord.f w = some [] := by
        unfold impl_InvertWord.f
        rw [implIsWord_eq w hwf, hw']
        rfl
      rw [e1, Option.bind_some, specIsWord_eq w K (by omega) (by omega), hw', Option.bind_some, if_neg (by simp), if_pos (show (([] : List Int).length : Int) = 0 from rfl), e2]
      rfl

end Go.Proofs.Ythaklblepjbdeaa.Pure
