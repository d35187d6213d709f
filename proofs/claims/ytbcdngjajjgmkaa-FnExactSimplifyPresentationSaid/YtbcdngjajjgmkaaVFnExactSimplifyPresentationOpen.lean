/- Lemmas by which an argument's reading (integers, slices of integers, slices of those, structs of these) is opened into the words of the kit's print. No condition. -/
import Derived.Test.YtbcdngjajjgmkaaVFnExactSimplifyPresentationWMore
import Derived.Test.YtbcdngjajjgmkaaVFnExactSimplifyPresentationWNEv
import Derived.WalkKit
import Derived.ProofKit
import Derived.OpenShut
import Derived.Lib.SmallJoins
import Derived.Deep.Matrix
import Derived.Deep.Strs
namespace Go.Proofs.Ytbcdngjajjgmkaa.Open
open Go.RowKit Go.ChangeShapes Go.WideShapes Go.ChangeAt Go.Joins Go.Deep Go.Proofs.YtbcdngjajjgmkaaW.PrintWords
variable {H : Type} {enc : TypeId × Value → H} {P : Program} {w : World} {base : Nat} {held : Bool}

/-- One row of a slice of rows. -/
theorem row_of {A : Option Addr} {L C : Nat} {Z : List Int} (hl : L ≤ C) (hm : C ≤ maxLen) (hz : Z.length = C) (hw : ∀ n ∈ Z, (Lit.int .i64 n).wf = true) (hn : A = none → C = 0)
  (hc : ∀ a', A = some a' → base ≤ a'.block ∧ ∀ c, c < C → w.cell? (a'.add c) = some (.int .i64 (Z.getD c 0))) :
  ∃ l : List Int, L = l.length ∧ Kd.C (Kd.int .i64) w A l.length l ∧ l.length ≤ C ∧ l.length ≤ maxLen ∧ ∀ x ∈ l, (Lit.int .i64 x).wf = true := by
 cases A with
 | none =>
  have h0 := hn rfl
  subst h0
  obtain rfl : L = 0 := by omega
  exact ⟨[], rfl, Kd.C_nil _ _, Nat.le_refl _, Nat.zero_le _, fun x hx => by cases hx⟩
 | some a =>
  obtain ⟨l, e1, h1, h2, h3, h4⟩ := ReadsInt.ofRowC (k := .i64) (w := w) (a := some a) (len := L) (cap := C) (zs := Z) (.inr ⟨a, rfl, hl, hm, hz, fun i hi => (hc a rfl).2 i (by omega), hw⟩)
  exact ⟨l, e1, Kd.C_of_reads (d := (0 : Int)) (h1 := fun _ => rfl) h1, h4, h2, h3⟩

theorem choose_list {α : Type} {n : Nat} {p : Nat → α → Prop} (h : ∀ r, r < n → ∃ x, p r x) : ∃ l : List α, l.length = n ∧ ∀ r x, l[r]? = some x → p r x := by
 induction n with
 | zero => exact ⟨[], rfl, fun r x hx => by simp at hx⟩
 | succ n ih =>
  obtain ⟨l, hl, hp⟩ := ih fun r hr => h r (by omega)
  obtain ⟨x, hx⟩ := h n (by omega)
  refine ⟨l ++ [x], by simp [hl], fun r y hy => ?_⟩
  by_cases hr : r < n
  ·rw [List.getElem?_append_left (by omega)] at hy
   exact hp r y hy
  ·rw [List.getElem?_append_right (by omega)] at hy
   have hr' : r = n := by
    by_cases e : r = n
    ·exact e
    ·rw [List.getElem?_eq_none (by simp; omega)] at hy
     cases hy
   subst hr'
   rw [hl, Nat.sub_self] at hy
   obtain rfl : x = y := by simpa using hy
   exact hx

/-- A slice of slices of numbers. -/
theorem rows {t e q : TypeId} {fuel : Nat} {v : Value} {y : DataW H × List MemPlace} (ht : P.underlying t = some (.slice e)) (he : P.underlying e = some (.slice q)) (hq : P.underlying q = some (.int .i64))
  (ce : P.cellsOf e = 1) (cq : P.cellsOf q = 1) (E : Nat) (h : DataW.trod enc P w base (fun _ => true) held fuel t [v] = some y) :
  ∃ (A : Option Addr) (c : Nat) (l : List (List Int)), v = .slice A l.length c ∧ Kd.C (Kd.slice E (Kd.int .i64)) w A l.length l ∧ l.length ≤ c ∧ l.length ≤ maxLen ∧ ∀ r ∈ l, r.length ≤ maxLen ∧ ∀ x ∈ r, (Lit.int .i64 x).wf = true := by
 rcases open_int_rows ht he hq ce cq h with ⟨hcs, _⟩ | ⟨a, len, cap, A, L, C, Z, hcs, _, hl, hm, _, hr⟩
 ·obtain rfl : v = .slice none 0 0 := by simpa using hcs
  exact ⟨none, 0, [], rfl, Kd.C_nil _ _, Nat.le_refl _, Nat.zero_le _, fun x hx => by cases hx⟩
 ·obtain rfl : v = .slice (some a) len cap := by simpa using hcs
  obtain ⟨l, hlen, hp⟩ := choose_list (n := len) fun r hrl => by
   obtain ⟨_, h1, h2, h3, h4, h5, h6⟩ := hr r (by omega)
   exact row_of (w := w) (base := base) h1 h2 h3 h4 h5 h6
  subst hlen
  refine ⟨some a, cap, l, rfl, ⟨rfl, by unfold maxLen at hm; omega, fun _ => ⟨a, rfl, fun j x hj => ?_⟩⟩, hl, by omega, fun r hx => ?_⟩
  ·obtain ⟨hjl, _⟩ := List.getElem?_eq_some_iff.1 hj
   obtain ⟨hcell, _⟩ := hr j (by omega)
   obtain ⟨e1, h1, h2, h3, h4⟩ := hp j x hj
   refine ⟨[.slice (A j) x.length (C j)], rfl, ⟨A j, C j, rfl, h2, h1⟩, fun i u hu => ?_⟩
   cases i with
   | zero =>
    obtain rfl : Value.slice (A j) x.length (C j) = u := by simpa using hu
    rw [← e1]
    simpa [Kd.slice] using hcell
   | succ i => simp at hu
  ·obtain ⟨j, hj⟩ := List.getElem?_of_mem hx
   obtain ⟨_, _, _, h3, h4⟩ := hp j r hj
   exact ⟨h3, h4⟩

/-- A number. -/
theorem int_ {t : TypeId} {fuel : Nat} {v : Value} {y : DataW H × List MemPlace} (ht : P.underlying t = some (.int .i64)) (h : DataW.trod enc P w base (fun _ => true) held fuel t [v] = some y) :
  ∃ a : Int, v = .int .i64 a ∧ (Lit.int .i64 a).wf = true := by
 obtain ⟨n, e, rfl, hw⟩ := DataW.trod_int ht h
 exact ⟨n, by simpa using e, hw⟩

end Go.Proofs.Ytbcdngjajjgmkaa.Open
