/- Written by this session's program out of the kit's print and this session's contracts. -/
import Derived.Test.YtifbfloifdkacaaVFnProductsPx0
import Derived.Test.YtifbfloifdkacaaVFnProductsPx1
namespace Go.Proofs.Ytifbfloifdkacaa.PFnProducts
open Go.RowKit Go.Proofs.YtifbfloifdkacaaW.PrintWords Go.Proofs.YtifbfloifdkacaaW.PrintLast Go.Proofs.YtifbfloifdkacaaW.PrintMore
attribute [local go_sem] max2_int min2_int max_two min_two max_three min_three max_four min_four   -- for this text's walks alone
set_option linter.unusedVariables false
set_option linter.unusedSimpArgs false

/-! ### impl_determinant: function 29 -/
mutual
def impl_determinant.l0 : Nat → Int → Int → Int → Int → Int → Int → List Int → Option (Int × List Int)
 | 0, _, _, _, _, _, _, _ => none
 | k + 1, x3, x4, x13, x14, x102000, x102001, x102002 => if x14 < x13 then (impl_determinant.l1 k x3 x4 x14 x14 x13 x14 x102000 x102001 x102002) else (some (wrap64 (x3 * x4), x102002))
def impl_determinant.j2 : Nat → Int → Int → Int → Int → Int → Int → Int → Int → List Int → Option (Int × List Int)
 | 0, _, _, _, _, _, _, _, _, _ => none
 | k + 1, x3, x4, x5, x6, x13, x14, x102000, x102001, x102002 => if x6 = x102000 then (some (0, x102002)) else (if x6 = x5 then (impl_determinant.j4 k x3 x4 x5 x13 x14 x102000 x102001 x102002) else (impl_determinant.l2 k (wrap64 (-x3)) x4 x5 x6 x13 x14 x102001 0 x102000 x102001 x102002))
def impl_determinant.j4 : Nat → Int → Int → Int → Int → Int → Int → Int → List Int → Option (Int × List Int)
 | 0, _, _, _, _, _, _, _, _ => none
 | k + 1, x3, x4, x5, x13, x14, x102000, x102001, x102002 => impl_determinant.l3 k x3 x4 x5 (wrap64 (x5 + 1)) x13 x14 x102000 x102001 x102002
def impl_determinant.l3 : Nat → Int → Int → Int → Int → Int → Int → Int → Int → List Int → Option (Int × List Int)
 | 0, _, _, _, _, _, _, _, _, _ => none
 | k + 1, x3, x4, x5, x10, x13, x14, x102000, x102001, x102002 => if x10 < x102000 then (impl_determinant.l4 k x3 x4 x5 x10 (wrap64 (x5 + 1)) x13 x14 x102000 x102001 x102002) else ((impl_Matrix_at.f x102000 x102001 x102002 x5 x5).bind fun t110 => (if 0 ≤ t110 then (if t110 < (x102002.length : Int) then (impl_determinant.l0 k x3 (rd x102002 t110) x13 (wrap64 (x14 + 1)) x102000 x102001 x102002) else (none)) else (none)))
def impl_determinant.l4 : Nat → Int → Int → Int → Int → Int → Int → Int → Int → Int → List Int → Option (Int × List Int)
 | 0, _, _, _, _, _, _, _, _, _, _ => none
 | k + 1, x3, x4, x5, x10, x11, x13, x14, x102000, x102001, x102002 => if x11 < x102001 then ((impl_Matrix_at.f x102000 x102001 x102002 x10 x11).bind fun t112 => ((impl_Matrix_at.f x102000 x102001 x102002 x10 x11).bind fun t113 => (if 0 ≤ t113 then (if t113 < (x102002.length : Int) then ((impl_Matrix_at.f x102000 x102001 x102002 x5 x5).bind fun t115 => (if 0 ≤ t115 then (if t115 < (x102002.length : Int) then ((impl_Matrix_at.f x102000 x102001 x102002 x10 x5).bind fun t117 => (if 0 ≤ t117 then (if t117 < (x102002.length : Int) then ((impl_Matrix_at.f x102000 x102001 x102002 x5 x11).bind fun t119 => (if 0 ≤ t119 then (if t119 < (x102002.length : Int) then (if x4 = 0 then (none) else (if 0 ≤ t112 then (if t112 < (x102002.length : Int) then (impl_determinant.l4 k x3 x4 x5 x10 (wrap64 (x11 + 1)) x13 x14 x102000 x102001 (x102002.set (t112 : Int).toNat (wrap64 (Int.tdiv (wrap64 ((wrap64 ((rd x102002 t113) * (rd x102002 t115))) - (wrap64 ((rd x102002 t117) * (rd x102002 t119))))) x4)))) else (none)) else (none))) else (none)) else (none))) else (none)) else (none))) else (none)) else (none))) else (none)) else (none)))) else (impl_determinant.l3 k x3 x4 x5 (wrap64 (x10 + 1)) x13 x14 x102000 x102001 x102002)
def impl_determinant.l2 : Nat → Int → Int → Int → Int → Int → Int → Int → Int → Int → Int → List Int → Option (Int × List Int)
 | 0, _, _, _, _, _, _, _, _, _, _, _ => none
 | k + 1, x3, x4, x5, x6, x13, x14, x43, x44, x102000, x102001, x102002 => if x44 < x43 then ((impl_Matrix_at.f x102000 x102001 x102002 x5 x44).bind fun t104 => ((impl_Matrix_at.f x102000 x102001 x102002 x6 x44).bind fun t105 => (if 0 ≤ t105 then (if t105 < (x102002.length : Int) then (if 0 ≤ t104 then (if t104 < (x102002.length : Int) then (impl_determinant.l2 k x3 x4 x5 x6 x13 x14 x43 (wrap64 (x44 + 1)) x102000 x102001 ((x102002.set (t104 : Int).toNat (rd x102002 t105)).set (t105 : Int).toNat (rd x102002 t104))) else (none)) else (none)) else (none)) else (none)))) else (impl_determinant.j4 k x3 x4 x5 x13 x14 x102000 x102001 x102002)
def impl_determinant.l1 : Nat → Int → Int → Int → Int → Int → Int → Int → Int → List Int → Option (Int × List Int)
 | 0, _, _, _, _, _, _, _, _, _ => none
 | k + 1, x3, x4, x5, x6, x13, x14, x102000, x102001, x102002 => if x6 < x102000 then ((impl_Matrix_at.f x102000 x102001 x102002 x6 x5).bind fun t102 => (if 0 ≤ t102 then (if t102 < (x102002.length : Int) then (if (rd x102002 t102) = 0 then (impl_determinant.l1 k x3 x4 x5 (wrap64 (x6 + 1)) x13 x14 x102000 x102001 x102002) else (impl_determinant.j2 k x3 x4 x5 x6 x13 x14 x102000 x102001 x102002)) else (none)) else (none))) else (impl_determinant.j2 k x3 x4 x5 x6 x13 x14 x102000 x102001 x102002)
end
def impl_determinant.f (k : Nat) (a0_0 : Int) (a0_1 : Int) (l0_2 : List Int) : Option (Int × List Int) := impl_determinant.l0 k 1 1 a0_0 0 a0_0 a0_1 l0_2
theorem impl_determinant.mono_l : ∀ k, (∀ y0 y1 y2 y3 y4 y5 y6, LeO (impl_determinant.l0 k y0 y1 y2 y3 y4 y5 y6) (impl_determinant.l0 (k + 1) y0 y1 y2 y3 y4 y5 y6)) ∧ (∀ y0 y1 y2 y3 y4 y5 y6 y7 y8, LeO (impl_determinant.j2 k y0 y1 y2 y3 y4 y5 y6 y7 y8) (impl_determinant.j2 (k + 1) y0 y1 y2 y3 y4 y5 y6 y7 y8)) ∧ (∀ y0 y1 y2 y3 y4 y5 y6 y7, LeO (impl_determinant.j4 k y0 y1 y2 y3 y4 y5 y6 y7) (impl_determinant.j4 (k + 1) y0 y1 y2 y3 y4 y5 y6 y7)) ∧ (∀ y0 y1 y2 y3 y4 y5 y6 y7 y8, LeO (impl_determinant.l3 k y0 y1 y2 y3 y4 y5 y6 y7 y8) (impl_determinant.l3 (k + 1) y0 y1 y2 y3 y4 y5 y6 y7 y8)) ∧ (∀ y0 y1 y2 y3 y4 y5 y6 y7 y8 y9, LeO (impl_determinant.l4 k y0 y1 y2 y3 y4 y5 y6 y7 y8 y9) (impl_determinant.l4 (k + 1) y0 y1 y2 y3 y4 y5 y6 y7 y8 y9)) ∧ (∀ y0 y1 y2 y3 y4 y5 y6 y7 y8 y9 y10, LeO (impl_determinant.l2 k y0 y1 y2 y3 y4 y5 y6 y7 y8 y9 y10) (impl_determinant.l2 (k + 1) y0 y1 y2 y3 y4 y5 y6 y7 y8 y9 y10)) ∧ (∀ y0 y1 y2 y3 y4 y5 y6 y7 y8, LeO (impl_determinant.l1 k y0 y1 y2 y3 y4 y5 y6 y7 y8) (impl_determinant.l1 (k + 1) y0 y1 y2 y3 y4 y5 y6 y7 y8))
 | 0 => ⟨fun _ _ _ _ _ _ _ r h => by simp [impl_determinant.l0] at h, fun _ _ _ _ _ _ _ _ _ r h => by simp [impl_determinant.j2] at h, fun _ _ _ _ _ _ _ _ r h => by simp [impl_determinant.j4] at h, fun _ _ _ _ _ _ _ _ _ r h => by simp [impl_determinant.l3] at h, fun _ _ _ _ _ _ _ _ _ _ r h => by simp [impl_determinant.l4] at h, fun _ _ _ _ _ _ _ _ _ _ _ r h => by simp [impl_determinant.l2] at h, fun _ _ _ _ _ _ _ _ _ r h => by simp [impl_determinant.l1] at h⟩
 | k + 1 => by
  obtain ⟨ih0, ih1, ih2, ih3, ih4, ih5, ih6⟩ := impl_determinant.mono_l k
  refine ⟨?_, ?_, ?_, ?_, ?_, ?_, ?_⟩
  ·intro y0 y1 y2 y3 y4 y5 y6
   unfold impl_determinant.l0
   repeat' first
   | (with_reducible exact ih0 _ _ _ _ _ _ _)
   | (with_reducible exact ih1 _ _ _ _ _ _ _ _ _)
   | (with_reducible exact ih2 _ _ _ _ _ _ _ _)
   | (with_reducible exact ih3 _ _ _ _ _ _ _ _ _)
   | (with_reducible exact ih4 _ _ _ _ _ _ _ _ _ _)
   | (with_reducible exact ih5 _ _ _ _ _ _ _ _ _ _ _)
   | (with_reducible exact ih6 _ _ _ _ _ _ _ _ _)
   | (with_reducible exact LeO.refl _)
   | (with_reducible exact LeO.none _)
   | (with_reducible refine LeO.ite ?_ ?_)
   | (with_reducible refine LeO.bind ?_ (fun _ => ?_))
   | exact ih0 _ _ _ _ _ _ _
   | exact ih1 _ _ _ _ _ _ _ _ _
   | exact ih2 _ _ _ _ _ _ _ _
   | exact ih3 _ _ _ _ _ _ _ _ _
   | exact ih4 _ _ _ _ _ _ _ _ _ _
   | exact ih5 _ _ _ _ _ _ _ _ _ _ _
   | exact ih6 _ _ _ _ _ _ _ _ _
   | exact LeO.none _
   | refine LeO.ite ?_ ?_
   | refine LeO.bind ?_ (fun _ => ?_)
  ·intro y0 y1 y2 y3 y4 y5 y6 y7 y8
   unfold impl_determinant.j2
   repeat' first
   | (with_reducible exact ih0 _ _ _ _ _ _ _)
   | (with_reducible exact ih1 _ _ _ _ _ _ _ _ _)
   | (with_reducible exact ih2 _ _ _ _ _ _ _ _)
   | (with_reducible exact ih3 _ _ _ _ _ _ _ _ _)
   | (with_reducible exact ih4 _ _ _ _ _ _ _ _ _ _)
   | (with_reducible exact ih5 _ _ _ _ _ _ _ _ _ _ _)
   | (with_reducible exact ih6 _ _ _ _ _ _ _ _ _)
   | (with_reducible exact LeO.refl _)
   | (with_reducible exact LeO.none _)
   | (with_reducible refine LeO.ite ?_ ?_)
   | (with_reducible refine LeO.bind ?_ (fun _ => ?_))
   | exact ih0 _ _ _ _ _ _ _
   | exact ih1 _ _ _ _ _ _ _ _ _
   | exact ih2 _ _ _ _ _ _ _ _
   | exact ih3 _ _ _ _ _ _ _ _ _
   | exact ih4 _ _ _ _ _ _ _ _ _ _
   | exact ih5 _ _ _ _ _ _ _ _ _ _ _
   | exact ih6 _ _ _ _ _ _ _ _ _
   | exact LeO.none _
   | refine LeO.ite ?_ ?_
   | refine LeO.bind ?_ (fun _ => ?_)
  ·intro y0 y1 y2 y3 y4 y5 y6 y7
   unfold impl_determinant.j4
   repeat' first
   | (with_reducible exact ih0 _ _ _ _ _ _ _)
   | (with_reducible exact ih1 _ _ _ _ _ _ _ _ _)
   | (with_reducible exact ih2 _ _ _ _ _ _ _ _)
   | (with_reducible exact ih3 _ _ _ _ _ _ _ _ _)
   | (with_reducible exact ih4 _ _ _ _ _ _ _ _ _ _)
   | (with_reducible exact ih5 _ _ _ _ _ _ _ _ _ _ _)
   | (with_reducible exact ih6 _ _ _ _ _ _ _ _ _)
   | (with_reducible exact LeO.refl _)
   | (with_reducible exact LeO.none _)
   | (with_reducible refine LeO.ite ?_ ?_)
   | (with_reducible refine LeO.bind ?_ (fun _ => ?_))
   | exact ih0 _ _ _ _ _ _ _
   | exact ih1 _ _ _ _ _ _ _ _ _
   | exact ih2 _ _ _ _ _ _ _ _
   | exact ih3 _ _ _ _ _ _ _ _ _
   | exact ih4 _ _ _ _ _ _ _ _ _ _
   | exact ih5 _ _ _ _ _ _ _ _ _ _ _
   | exact ih6 _ _ _ _ _ _ _ _ _
   | exact LeO.none _
   | refine LeO.ite ?_ ?_
   | refine LeO.bind ?_ (fun _ => ?_)
  ·intro y0 y1 y2 y3 y4 y5 y6 y7 y8
   unfold impl_determinant.l3
   repeat' first
   | (with_reducible exact ih0 _ _ _ _ _ _ _)
   | (with_reducible exact ih1 _ _ _ _ _ _ _ _ _)
   | (with_reducible exact ih2 _ _ _ _ _ _ _ _)
   | (with_reducible exact ih3 _ _ _ _ _ _ _ _ _)
   | (with_reducible exact ih4 _ _ _ _ _ _ _ _ _ _)
   | (with_reducible exact ih5 _ _ _ _ _ _ _ _ _ _ _)
   | (with_reducible exact ih6 _ _ _ _ _ _ _ _ _)
   | (with_reducible exact LeO.refl _)
   | (with_reducible exact LeO.none _)
   | (with_reducible refine LeO.ite ?_ ?_)
   | (with_reducible refine LeO.bind ?_ (fun _ => ?_))
   | exact ih0 _ _ _ _ _ _ _
   | exact ih1 _ _ _ _ _ _ _ _ _
   | exact ih2 _ _ _ _ _ _ _ _
   | exact ih3 _ _ _ _ _ _ _ _ _
   | exact ih4 _ _ _ _ _ _ _ _ _ _
   | exact ih5 _ _ _ _ _ _ _ _ _ _ _
   | exact ih6 _ _ _ _ _ _ _ _ _
   | exact LeO.none _
   | refine LeO.ite ?_ ?_
   | refine LeO.bind ?_ (fun _ => ?_)
  ·intro y0 y1 y2 y3 y4 y5 y6 y7 y8 y9
   unfold impl_determinant.l4
   repeat' first
   | (with_reducible exact ih0 _ _ _ _ _ _ _)
   | (with_reducible exact ih1 _ _ _ _ _ _ _ _ _)
   | (with_reducible exact ih2 _ _ _ _ _ _ _ _)
   | (with_reducible exact ih3 _ _ _ _ _ _ _ _ _)
   | (with_reducible exact ih4 _ _ _ _ _ _ _ _ _ _)
   | (with_reducible exact ih5 _ _ _ _ _ _ _ _ _ _ _)
   | (with_reducible exact ih6 _ _ _ _ _ _ _ _ _)
   | (with_reducible exact LeO.refl _)
   | (with_reducible exact LeO.none _)
   | (with_reducible refine LeO.ite ?_ ?_)
   | (with_reducible refine LeO.bind ?_ (fun _ => ?_))
   | exact ih0 _ _ _ _ _ _ _
   | exact ih1 _ _ _ _ _ _ _ _ _
   | exact ih2 _ _ _ _ _ _ _ _
   | exact ih3 _ _ _ _ _ _ _ _ _
   | exact ih4 _ _ _ _ _ _ _ _ _ _
   | exact ih5 _ _ _ _ _ _ _ _ _ _ _
   | exact ih6 _ _ _ _ _ _ _ _ _
   | exact LeO.none _
   | refine LeO.ite ?_ ?_
   | refine LeO.bind ?_ (fun _ => ?_)
  ·intro y0 y1 y2 y3 y4 y5 y6 y7 y8 y9 y10
   unfold impl_determinant.l2
   repeat' first
   | (with_reducible exact ih0 _ _ _ _ _ _ _)
   | (with_reducible exact ih1 _ _ _ _ _ _ _ _ _)
   | (with_reducible exact ih2 _ _ _ _ _ _ _ _)
   | (with_reducible exact ih3 _ _ _ _ _ _ _ _ _)
   | (with_reducible exact ih4 _ _ _ _ _ _ _ _ _ _)
   | (with_reducible exact ih5 _ _ _ _ _ _ _ _ _ _ _)
   | (with_reducible exact ih6 _ _ _ _ _ _ _ _ _)
   | (with_reducible exact LeO.refl _)
   | (with_reducible exact LeO.none _)
   | (with_reducible refine LeO.ite ?_ ?_)
   | (with_reducible refine LeO.bind ?_ (fun _ => ?_))
   | exact ih0 _ _ _ _ _ _ _
   | exact ih1 _ _ _ _ _ _ _ _ _
   | exact ih2 _ _ _ _ _ _ _ _
   | exact ih3 _ _ _ _ _ _ _ _ _
   | exact ih4 _ _ _ _ _ _ _ _ _ _
   | exact ih5 _ _ _ _ _ _ _ _ _ _ _
   | exact ih6 _ _ _ _ _ _ _ _ _
   | exact LeO.none _
   | refine LeO.ite ?_ ?_
   | refine LeO.bind ?_ (fun _ => ?_)
  ·intro y0 y1 y2 y3 y4 y5 y6 y7 y8
   unfold impl_determinant.l1
   repeat' first
   | (with_reducible exact ih0 _ _ _ _ _ _ _)
   | (with_reducible exact ih1 _ _ _ _ _ _ _ _ _)
   | (with_reducible exact ih2 _ _ _ _ _ _ _ _)
   | (with_reducible exact ih3 _ _ _ _ _ _ _ _ _)
   | (with_reducible exact ih4 _ _ _ _ _ _ _ _ _ _)
   | (with_reducible exact ih5 _ _ _ _ _ _ _ _ _ _ _)
   | (with_reducible exact ih6 _ _ _ _ _ _ _ _ _)
   | (with_reducible exact LeO.refl _)
   | (with_reducible exact LeO.none _)
   | (with_reducible refine LeO.ite ?_ ?_)
   | (with_reducible refine LeO.bind ?_ (fun _ => ?_))
   | exact ih0 _ _ _ _ _ _ _
   | exact ih1 _ _ _ _ _ _ _ _ _
   | exact ih2 _ _ _ _ _ _ _ _
   | exact ih3 _ _ _ _ _ _ _ _ _
   | exact ih4 _ _ _ _ _ _ _ _ _ _
   | exact ih5 _ _ _ _ _ _ _ _ _ _ _
   | exact ih6 _ _ _ _ _ _ _ _ _
   | exact LeO.none _
   | refine LeO.ite ?_ ?_
   | refine LeO.bind ?_ (fun _ => ?_)
theorem impl_determinant.mono : ∀ a0 a1 a2 k, LeO (impl_determinant.f k a0 a1 a2) (impl_determinant.f (k + 1) a0 a1 a2) := by
 intro a0 a1 a2 k
 obtain ⟨ih0, ih1, ih2, ih3, ih4, ih5, ih6⟩ := impl_determinant.mono_l k
 unfold impl_determinant.f
 repeat' first
   | (with_reducible exact ih0 _ _ _ _ _ _ _)
   | (with_reducible exact ih1 _ _ _ _ _ _ _ _ _)
   | (with_reducible exact ih2 _ _ _ _ _ _ _ _)
   | (with_reducible exact ih3 _ _ _ _ _ _ _ _ _)
   | (with_reducible exact ih4 _ _ _ _ _ _ _ _ _ _)
   | (with_reducible exact ih5 _ _ _ _ _ _ _ _ _ _ _)
   | (with_reducible exact ih6 _ _ _ _ _ _ _ _ _)
   | (with_reducible exact LeO.refl _)
   | (with_reducible exact LeO.none _)
   | (with_reducible refine LeO.ite ?_ ?_)
   | (with_reducible refine LeO.bind ?_ (fun _ => ?_))
   | exact ih0 _ _ _ _ _ _ _
   | exact ih1 _ _ _ _ _ _ _ _ _
   | exact ih2 _ _ _ _ _ _ _ _
   | exact ih3 _ _ _ _ _ _ _ _ _
   | exact ih4 _ _ _ _ _ _ _ _ _ _
   | exact ih5 _ _ _ _ _ _ _ _ _ _ _
   | exact ih6 _ _ _ _ _ _ _ _ _
   | exact LeO.none _
   | refine LeO.ite ?_ ?_
   | refine LeO.bind ?_ (fun _ => ?_)
def impl_determinant.T15 : Bool × List (List Nat × List Nat) := (true, [([], []), ([], []), ([], []), ([0, 1, 2], [0, 1, 2]), ([], []), ([], []), ([], []), ([4, 5, 6, 3], [4, 5, 6]), ([3, 7, 0, 1, 2, 3], [3]), ([7, 8, 0, 1, 2, 3, 4, 5, 6, 7, 8], [7])])
def impl_determinant.B15 : List Nat := [0, 0, 0, 7, 0, 0, 0, 127, 255, 511]
theorem impl_determinant.tab15 : rtab .any (opsOf Try.f29 15) = impl_determinant.T15 := by kernel_rfl
theorem impl_determinant.bits15 : waitsOk impl_determinant.T15.2 impl_determinant.B15 = true := by kernel_rfl
def impl_determinant.T16 : Bool × List (List Nat × List Nat) := (true, [([], []), ([], []), ([], []), ([2], [2]), ([3], [3]), ([], []), ([5], [5]), ([6], [6]), ([0, 0, 2, 3, 4, 7], [0]), ([8, 4, 0, 2, 3, 4, 7], [4, 8]), ([1, 0, 1, 2, 3, 4, 5, 6, 7, 8, 9], [1]), ([10, 7, 9, 0, 1, 2, 3, 4, 5, 6, 7, 8, 9], [7, 10])])
def impl_determinant.B16 : List Nat := [0, 0, 0, 4, 12, 0, 32, 96, 253, 509, 1023, 2047]
theorem impl_determinant.tab16 : rtab .any (opsOf Try.f29 16) = impl_determinant.T16 := by kernel_rfl
theorem impl_determinant.bits16 : waitsOk impl_determinant.T16.2 impl_determinant.B16 = true := by kernel_rfl
def impl_determinant.T24 : Bool × List (List Nat × List Nat) := (true, [([], []), ([], []), ([], []), ([0, 1, 2], [0, 1, 2]), ([], []), ([], []), ([], []), ([4, 5, 6, 3], [4, 5, 6]), ([7], [7]), ([8], [8]), ([], []), ([], []), ([], []), ([10, 11, 12, 7], [10, 11, 12]), ([13], [13]), ([14], [14]), ([9, 15], [9, 15]), ([], []), ([], []), ([], []), ([17, 18, 19, 13], [17, 18, 19]), ([20], [20]), ([21], [21]), ([], []), ([], []), ([], []), ([23, 24, 25, 20], [23, 24, 25]), ([26], [26]), ([27], [27]), ([22, 28], [22, 28]), ([16, 29], [16, 29]), ([], []), ([30, 31], [30, 31]), ([3, 0, 1, 2, 3, 4, 5, 6, 7, 8, 9, 10, 11, 12, 13, 14, 15, 16, 17, 18, 19, 20, 21, 22, 23, 24, 25, 26, 27, 28, 29, 30, 31, 32], [3]), ([33, 32, 26, 0, 1, 2, 3, 4, 5, 6, 7, 8, 9, 10, 11, 12, 13, 14, 15, 16, 17, 18, 19, 20, 21, 22, 23, 24, 25, 26, 27, 28, 29, 30, 31, 32], [32, 33])])
def impl_determinant.B24 : List Nat := [0, 0, 0, 7, 0, 0, 0, 127, 255, 511, 0, 0, 0, 7423, 15615, 31999, 65535, 0, 0, 0, 933119, 1981695, 4078847, 0, 0, 0, 60701951, 127810815, 262028543, 536755455, 1073741823, 0, 4294967295, 8589934591, 17179869183]
theorem impl_determinant.tab24 : rtab .any (opsOf Try.f29 24) = impl_determinant.T24 := by kernel_rfl
theorem impl_determinant.bits24 : waitsOk impl_determinant.T24.2 impl_determinant.B24 = true := by kernel_rfl
set_option maxHeartbeats 8000000 in
set_option maxRecDepth 100000 in
theorem impl_determinant.calls (k : Nat) (a0_0 : Int) (a0_1 : Int) (P0_2_ : Nat → Prop) (u9000_ : Value) (l0_2 : List Int) (r1 : Int) (r2 : List Int) (w0 w : World) (hB : Below w0.heap.size w0 w) (ho0_2 : Kd.R (Kd.int .i64) 2 w w0.heap.size P0_2_ u9000_ l0_2) (h : impl_determinant.f k a0_0 a0_1 l0_2 = some (r1, r2)) :
  Calls Try.prog 29 #[.agg #[.int .i64 a0_0, .int .i64 a0_1, u9000_]] w fun e w' => e = .returned (.int .i64 r1) ∧ Kd.R (Kd.int .i64) 2 w' w0.heap.size (fun k_ => (P0_2_ k_ ∨ w.heap.size ≤ k_)) u9000_ r2 ∧ Below w0.heap.size w0 w' ∧ Kept w w' (fun k_ => P0_2_ k_) := by
 have hu28 := Try.underlying28
 have HO0_2 := am_ (show Kd.R (Kd.int .i64) 2 w w0.heap.size (fun k_ => (P0_2_ k_ ∨ w.heap.size ≤ k_)) u9000_ l0_2 from Kd.R_mono ho0_2 (fun k_ hk => (.inl hk)))
 have HK := am_ (Kept.refl w (fun k_ => P0_2_ k_))
 have HW0 := am_ hB.size
 have HB := am_ hB
 clear hB
 have H : (impl_determinant.l0 k 1 1 a0_0 0 a0_0 a0_1 l0_2) = some (r1, r2) := h
 clear h
 have H' := am_ H
 clear H
 obtain ⟨Ao2, co2, eo2⟩ := Kd.R_slice HO0_2.out
 subst eo2
 go_enter Try.func29, Try.ntmps29
 go_wp2_with (first | ((with_reducible refine gate_dst (N := 1) rfl ?_); refine box_event ?hg (N := 1) ?hd (cs := #[.int .i64 a0_0, .int .i64 a0_1, .slice Ao2 l0_2.length co2]) (t := 28) ?hr ?_; (case hd => rfl); (case hg => rfl); (case hr => first | (go_simp; done) | (go_simp; rfl)); intro gb101 hg w3 hbox hb; have n0_ := am_ (Kd.R_below (rk_ HO0_2.out) hb); have n1_ := am_ (Kept.below (S := (fun k_ => P0_2_ k_)) (by repeat (first | (with_reducible first | exact HK.out | apply Kept.alloc | apply Kept.drewN | apply Kept.drew) | exact HK.out)) hb); have n2_ := am_ (below_step (bb_ HB.out) hb); have n3_ := am_ (hbox); have n4_ := am_ ((by rw [hg]; exact (by first | exact HK.out.1 | exact (show Kept w _ (fun k_ => P0_2_ k_) from by repeat (first | (with_reducible first | exact HK.out | apply Kept.alloc | apply Kept.drewN | apply Kept.drew) | exact HK.out)).1) : w.heap.size ≤ gb101)); have n5_ := am_ ((by rw [hg]; exact (below_size (bb_ HB.out)) : w0.heap.size ≤ gb101)); clear HO0_2 HK HB; revert n0_ n1_ n2_ n3_ n4_ n5_; intro HO0_2 HK HB BK101 GW101 GE101; clear hb hbox hg; have hcz4_0 : w3.cell? ⟨gb101, 0, none⟩ = some (.int .i64 a0_0) := bc_ BK101 0; have hcz4_1 : w3.cell? ⟨gb101, 1, none⟩ = some (.int .i64 a0_1) := bc_ BK101 1; have hcz4_2 : w3.cell? ⟨gb101, 2, none⟩ = some (.slice Ao2 l0_2.length co2) := bc_ BK101 2; have hfz4_0 := blk_frozen BK101.out 0; have hfz4_1 := blk_frozen BK101.out 1; have hfz4_2 := blk_frozen BK101.out 2))
 go_loopg [3, 4, 14] k (fun kq v3 v4 v14 w' => ∃ (x3_1 : Int) (x4_1 : Int) (x14_1 : Int) (x102002_1 : List Int), v3 = .int .i64 x3_1 ∧ v4 = .int .i64 x4_1 ∧ v14 = .int .i64 x14_1 ∧ Aside0 (impl_determinant.l0 kq x3_1 x4_1 a0_0 x14_1 a0_0 a0_1 x102002_1 = some (r1, r2)) ∧ Aside0 (kq ≤ k) ∧ Aside0 (Kd.R (Kd.int .i64) 2 w' w0.heap.size (fun k_ => (P0_2_ k_ ∨ w.heap.size ≤ k_)) (.slice Ao2 l0_2.length co2) x102002_1) ∧ Aside0 (w'.heap[gb101]? = some (.cells #[.int .i64 a0_0, .int .i64 a0_1, (.slice Ao2 l0_2.length co2)] 28 (0, 0))) ∧ Aside0 (Kept w w' (fun k_ => P0_2_ k_)) ∧ Aside0 (Below w0.heap.size w0 w'))
 case atStart => exact ⟨(1), (1), (0), (l0_2), (by first | rfl | (simp; done) | (simp [*]; done)), (by first | rfl | (simp; done) | (simp [*]; done)), (by first | rfl | (simp; done) | (simp [*]; done)), H', ⟨Nat.le_refl _⟩, ⟨rk_ HO0_2.out⟩, ⟨bk_ BK101.out⟩, ⟨by repeat (first | (with_reducible first | exact HK.out | apply Kept.alloc | apply Kept.drewN | apply Kept.drew | refine Kept.setCell ?_ (.inr GW101.out) _) | exact HK.out)⟩, ⟨bb_ HB.out⟩⟩
 case round =>
  clear H'
  try clear c2
  try clear p2
  try clear hcz4_0
  try clear hcz4_1
  try clear hcz4_2
  try clear hfz4_0
  try clear hfz4_1
  try clear hfz4_2
  obtain ⟨x3_1, x4_1, x14_1, x102002_1, rfl, rfl, rfl, HA, HK1, HO_102002, BK101, HK, HB⟩ := hrel
  have hl102002_1 := (Kd.R_reads' HO_102002.out).1
  rw [hl102002_1] at HO_102002
  (try simp only [hl102002_1])
  (try simp only [hl102002_1] at BK101)
  cases gk with
  | zero => exact absurd HA.out (by simp [impl_determinant.l0])
  | succ k1 =>
   have H := HA.out
   clear HA
   simp only [impl_determinant.l0] at H
   by_cases c5 : x14_1 < a0_0
   ·rw [if_pos c5] at H
    have c5b0 : decide (x14_1 < a0_0) = true := decide_eq_true c5
    clear c5
    have HC6 := am_ H
    clear H
    go_upto_block 2 with (fail)
    go_cut [6] (fun v6 wc => ∃ (kq : Nat) (x6_5 : Int), v6 = .int .i64 x6_5 ∧ Aside0 (impl_determinant.j2 kq x3_1 x4_1 x14_1 x6_5 a0_0 x14_1 a0_0 a0_1 x102002_1 = some (r1, r2)) ∧ Aside0 (kq ≤ k1) ∧ Aside0 (Kd.R (Kd.int .i64) 2 wc w0.heap.size (fun k_ => (P0_2_ k_ ∨ w.heap.size ≤ k_)) (.slice Ao2 x102002_1.length co2) x102002_1) ∧ Aside0 (wc.heap[gb101]? = some (.cells #[.int .i64 a0_0, .int .i64 a0_1, (.slice Ao2 x102002_1.length co2)] 28 (0, 0))) ∧ Aside0 (Kept w wc (fun k_ => P0_2_ k_)) ∧ Aside0 (Below w0.heap.size w0 wc))
    case first =>
     have H := HC6.out
     clear HC6
     have H' := am_ H
     clear H
     go_wp2
     go_loopg [6] k1 (fun kq v6 w' => ∃ (x6_2 : Int), v6 = .int .i64 x6_2 ∧ Aside0 (impl_determinant.l1 kq x3_1 x4_1 x14_1 x6_2 a0_0 x14_1 a0_0 a0_1 x102002_1 = some (r1, r2)) ∧ Aside0 (kq ≤ k1) ∧ Aside0 (Kd.R (Kd.int .i64) 2 w' w0.heap.size (fun k_ => (P0_2_ k_ ∨ w.heap.size ≤ k_)) (.slice Ao2 x102002_1.length co2) x102002_1) ∧ Aside0 (w'.heap[gb101]? = some (.cells #[.int .i64 a0_0, .int .i64 a0_1, (.slice Ao2 x102002_1.length co2)] 28 (0, 0))) ∧ Aside0 (Kept w w' (fun k_ => P0_2_ k_)) ∧ Aside0 (Below w0.heap.size w0 w'))
     case atStart => exact ⟨(x14_1), (by first | rfl | (simp; done) | (simp [*]; done)), H', ⟨Nat.le_refl _⟩, ⟨by (try simp only [hl102002_1]); (with_reducible repeat (first | apply Kd.R_alloc | apply Kd.R_drewN | apply Kd.R_drew)); exact HO_102002.out⟩, ⟨by (try simp only [hl102002_1]); (with_reducible repeat (first | refine blk_drewN ?_ _ | refine blk_drew ?_ | refine blk_alloc ?_ _)); exact BK101.out⟩, ⟨by repeat (first | (with_reducible first | exact HK.out | apply Kept.alloc | apply Kept.drewN | apply Kept.drew | refine Kept.setCell ?_ (.inr GW101.out) _) | exact HK.out)⟩, ⟨bb_ HB.out⟩⟩
     case round =>
      clear H'
      try clear c2
      try clear p2
      try clear c5
      try clear c5b0
      try clear hcz4_0
      try clear hcz4_1
      try clear hcz4_2
      try clear hfz4_0
      try clear hfz4_1
      try clear hfz4_2
      try clear p2
      obtain ⟨x6_2, rfl, HA, HK2, HO_102002, BK101, HK, HB⟩ := hrel
      cases gk with
      | zero => exact absurd HA.out (by simp [impl_determinant.l1])
      | succ k2 =>
       have H := HA.out
       clear HA
       simp only [impl_determinant.l1] at H
       by_cases c7 : x6_2 < a0_0
       ·rw [if_pos c7] at H
        have c7b0 : decide (x6_2 < a0_0) = true := decide_eq_true c7
        clear c7
        (first | rw [c7b0] | (simp only [i64_w, i32_w]; rw [c7b0]) | skip)
        replace H := Option.bind_eq_some_iff.mp H
        obtain ⟨t102, A80, H⟩ := H
        replace H : (if 0 ≤ t102 then (if t102 < (x102002_1.length : Int) then (if (rd x102002_1 t102) = 0 then (impl_determinant.l1 k2 x3_1 x4_1 x14_1 (wrap64 (x6_2 + 1)) a0_0 x14_1 a0_0 a0_1 x102002_1) else (impl_determinant.j2 k2 x3_1 x4_1 x14_1 x6_2 a0_0 x14_1 a0_0 a0_1 x102002_1)) else (none)) else (none)) = some (r1, r2) := H
        have A8 := am_ A80
        clear A80
        by_cases c9 : 0 ≤ t102
        ·rw [if_pos c9] at H
         have c9b0 : decide (0 ≤ t102) = true := decide_eq_true c9
         clear c9
         by_cases c10 : t102 < (x102002_1.length : Int)
         ·rw [if_pos c10] at H
          have c10b0 : decide (t102 < (x102002_1.length : Int)) = true := decide_eq_true c10
          clear c10
          by_cases c11 : (rd x102002_1 t102) = 0
          ·rw [if_pos c11] at H
           have c11b0 : ((rd x102002_1 t102) == 0) = true := beq_iff_eq.mpr c11
           have c11b1 : ((rd x102002_1 t102) != 0) = false := bne_eq_false_iff_eq.mpr c11
           clear c11
           have H' := am_ H
           clear H
           have hcz12_0 : wr.cell? ⟨gb101, 0, none⟩ = some (.int .i64 a0_0) := bc_ BK101 0
           have hcz12_1 : wr.cell? ⟨gb101, 1, none⟩ = some (.int .i64 a0_1) := bc_ BK101 1
           have hcz12_2 : wr.cell? ⟨gb101, 2, none⟩ = some (.slice Ao2 x102002_1.length co2) := bc_ BK101 2
           have hfz12_0 := blk_frozen BK101.out 0
           have hfz12_1 := blk_frozen BK101.out 1
           have hfz12_2 := blk_frozen BK101.out 2
           go_wp2_with (first | (go_at_call 38; (with_reducible refine (impl_Matrix_at.calls a0_0 a0_1 _ _ x102002_1 x6_2 x14_1 t102 _ ?side1 ?side2 A8.out).mono ?_); (case side1 => repeat (first | exact (Kd.R_reads' HO_102002.out).2.2 | (with_reducible refine Kd.C_alloc ?_ _) | (with_reducible refine Kd.C_drewN ?_ _) | (with_reducible refine Kd.C_drew ?_))); (case side2 => exact (Kd.R_reads' HO_102002.out).2.1); rintro e w13 ⟨rfl, hb⟩; have n0_ := am_ (Kd.R_below (rk_ HO_102002.out) hb); have n1_ := am_ (bw_ BK101 hb); have n2_ := am_ (Kept.below (S := (fun k_ => P0_2_ k_)) (by repeat (first | (with_reducible first | exact HK.out | apply Kept.alloc | apply Kept.drewN | apply Kept.drew | refine Kept.setCell ?_ (.inr GW101.out) _) | exact HK.out)) hb); have n3_ := am_ (below_step (bb_ HB.out) hb); clear HO_102002 BK101 HK HB; revert n0_ n1_ n2_ n3_; intro HO_102002 BK101 HK HB; (try clear hb); (try clear hb2); (try clear hk); (try clear hi); have p103 : 0 ≤ (t102 : Int) := of_decide_eq_true (by first | (with_reducible assumption) | assumption); have q103 : t102 < (x102002_1.length : Int) := of_decide_eq_true (by first | (with_reducible assumption) | assumption); obtain ⟨ad103, e103, hx103_0⟩ := Kd.at_int (Kd.R_reads' HO_102002.out).2.2 t102 p103 q103; cases e103; replace p103 := eq_true p103; replace q103 := eq_true q103))
           go_roundg k2
           case measure => have := HK1.out; have := HK2.out; omega
           case rel => exact ⟨(wrap64 (x6_2 + 1)), (by first | rfl | (simp; done) | (simp [*]; done)), H', ⟨by have := HK1.out; have := HK2.out; omega⟩, ⟨by (try simp only [hl102002_1]); (with_reducible repeat (first | apply Kd.R_alloc | apply Kd.R_drewN | apply Kd.R_drew)); exact HO_102002.out⟩, ⟨by (try simp only [hl102002_1]); (with_reducible repeat (first | refine blk_drewN ?_ _ | refine blk_drew ?_ | refine blk_alloc ?_ _)); exact BK101.out⟩, ⟨by repeat (first | (with_reducible first | exact HK.out | apply Kept.alloc | apply Kept.drewN | apply Kept.drew | refine Kept.setCell ?_ (.inr GW101.out) _) | exact HK.out)⟩, ⟨bb_ HB.out⟩⟩
          ·rw [if_neg c11] at H
           have c11b0 : ((rd x102002_1 t102) == 0) = false := beq_eq_false_iff_ne.mpr c11
           have c11b1 : ((rd x102002_1 t102) != 0) = true := bne_iff_ne.mpr c11
           have H' := am_ H
           clear H
           have hcz14_0 : wr.cell? ⟨gb101, 0, none⟩ = some (.int .i64 a0_0) := bc_ BK101 0
           have hcz14_1 : wr.cell? ⟨gb101, 1, none⟩ = some (.int .i64 a0_1) := bc_ BK101 1
           have hcz14_2 : wr.cell? ⟨gb101, 2, none⟩ = some (.slice Ao2 x102002_1.length co2) := bc_ BK101 2
           have hfz14_0 := blk_frozen BK101.out 0
           have hfz14_1 := blk_frozen BK101.out 1
           have hfz14_2 := blk_frozen BK101.out 2
           go_wp2_with (first | (go_at_call 38; (with_reducible refine (impl_Matrix_at.calls a0_0 a0_1 _ _ x102002_1 x6_2 x14_1 t102 _ ?side1 ?side2 A8.out).mono ?_); (case side1 => repeat (first | exact (Kd.R_reads' HO_102002.out).2.2 | (with_reducible refine Kd.C_alloc ?_ _) | (with_reducible refine Kd.C_drewN ?_ _) | (with_reducible refine Kd.C_drew ?_))); (case side2 => exact (Kd.R_reads' HO_102002.out).2.1); rintro e w15 ⟨rfl, hb⟩; have n0_ := am_ (Kd.R_below (rk_ HO_102002.out) hb); have n1_ := am_ (bw_ BK101 hb); have n2_ := am_ (Kept.below (S := (fun k_ => P0_2_ k_)) (by repeat (first | (with_reducible first | exact HK.out | apply Kept.alloc | apply Kept.drewN | apply Kept.drew | refine Kept.setCell ?_ (.inr GW101.out) _) | exact HK.out)) hb); have n3_ := am_ (below_step (bb_ HB.out) hb); clear HO_102002 BK101 HK HB; revert n0_ n1_ n2_ n3_; intro HO_102002 BK101 HK HB; (try clear hb); (try clear hb2); (try clear hk); (try clear hi); have p103 : 0 ≤ (t102 : Int) := of_decide_eq_true (by first | (with_reducible assumption) | assumption); have q103 : t102 < (x102002_1.length : Int) := of_decide_eq_true (by first | (with_reducible assumption) | assumption); obtain ⟨ad103, e103, hx103_0⟩ := Kd.at_int (Kd.R_reads' HO_102002.out).2.2 t102 p103 q103; cases e103; replace p103 := eq_true p103; replace q103 := eq_true q103))
           go_meet
           case rel => exact ⟨_, (x6_2), (by first | rfl | (simp; done) | (simp [*]; done)), H', ⟨by have := HK1.out; have := HK2.out; first | omega | exact Nat.le_refl _⟩, ⟨by (try simp only [hl102002_1]); (with_reducible repeat (first | apply Kd.R_alloc | apply Kd.R_drewN | apply Kd.R_drew)); exact HO_102002.out⟩, ⟨by (try simp only [hl102002_1]); (with_reducible repeat (first | refine blk_drewN ?_ _ | refine blk_drew ?_ | refine blk_alloc ?_ _)); exact BK101.out⟩, ⟨by repeat (first | (with_reducible first | exact HK.out | apply Kept.alloc | apply Kept.drewN | apply Kept.drew | refine Kept.setCell ?_ (.inr GW101.out) _) | exact HK.out)⟩, ⟨bb_ HB.out⟩⟩
         ·rw [if_neg c10] at H
          exact absurd H (by simp)
        ·rw [if_neg c9] at H
         exact absurd H (by simp)
       ·rw [if_neg c7] at H
        have c7b0 : decide (x6_2 < a0_0) = false := decide_eq_false c7
        clear c7
        (first | rw [c7b0] | (simp only [i64_w, i32_w]; rw [c7b0]) | skip)
        have H' := am_ H
        clear H
        have hcz16_0 : wr.cell? ⟨gb101, 0, none⟩ = some (.int .i64 a0_0) := bc_ BK101 0
        have hcz16_1 : wr.cell? ⟨gb101, 1, none⟩ = some (.int .i64 a0_1) := bc_ BK101 1
        have hcz16_2 : wr.cell? ⟨gb101, 2, none⟩ = some (.slice Ao2 x102002_1.length co2) := bc_ BK101 2
        have hfz16_0 := blk_frozen BK101.out 0
        have hfz16_1 := blk_frozen BK101.out 1
        have hfz16_2 := blk_frozen BK101.out 2
        go_wp2
        go_meet
        case rel => exact ⟨_, (x6_2), (by first | rfl | (simp; done) | (simp [*]; done)), H', ⟨by have := HK1.out; have := HK2.out; first | omega | exact Nat.le_refl _⟩, ⟨by (try simp only [hl102002_1]); (with_reducible repeat (first | apply Kd.R_alloc | apply Kd.R_drewN | apply Kd.R_drew)); exact HO_102002.out⟩, ⟨by (try simp only [hl102002_1]); (with_reducible repeat (first | refine blk_drewN ?_ _ | refine blk_drew ?_ | refine blk_alloc ?_ _)); exact BK101.out⟩, ⟨by repeat (first | (with_reducible first | exact HK.out | apply Kept.alloc | apply Kept.drewN | apply Kept.drew | refine Kept.setCell ?_ (.inr GW101.out) _) | exact HK.out)⟩, ⟨bb_ HB.out⟩⟩
    case rest =>
     clear HC6
     try clear c1
     try clear p1
     try clear q1
     try clear hx1
     try clear c2
     try clear p2
     try clear c5
     try clear c5b0
     try clear p6
     try clear c7
     try clear c7b0
     try clear c9
     try clear c9b0
     try clear c10
     try clear c10b0
     try clear p10
     try clear q10
     try clear hx10
     try clear c11
     try clear c11b0
     try clear c11b1
     try clear hcz12_0
     try clear hcz12_1
     try clear hcz12_2
     try clear hcz14_0
     try clear hcz14_1
     try clear hcz14_2
     try clear hcz16_0
     try clear hcz16_1
     try clear hcz16_2
     try clear hcz4_0
     try clear hcz4_1
     try clear hcz4_2
     try clear hfz12_0
     try clear hfz12_1
     try clear hfz12_2
     try clear hfz14_0
     try clear hfz14_1
     try clear hfz14_2
     try clear hfz16_0
     try clear hfz16_1
     try clear hfz16_2
     try clear hfz4_0
     try clear hfz4_1
     try clear hfz4_2
     try clear hx103_0
     try clear p103
     try clear p2
     try clear q103
     obtain ⟨kq, x6_5, rfl, HA, HJ5, HO_102002, BK101, HK, HB⟩ := hcut
     cases kq with
     | zero => exact absurd HA.out (by simp [impl_determinant.j2])
     | succ kj5 =>
      have H := HA.out
      clear HA
      simp only [impl_determinant.j2] at H
      by_cases c17 : x6_5 = a0_0
      ·rw [if_pos c17] at H
       have c17b0 : (x6_5 == a0_0) = true := beq_iff_eq.mpr c17
       have c17b1 : (x6_5 != a0_0) = false := bne_eq_false_iff_eq.mpr c17
       clear c17
       simp only [Option.some.injEq, Prod.mk.injEq] at H
       obtain ⟨rfl, rfl⟩ := H
       have hcz18_0 : wc.cell? ⟨gb101, 0, none⟩ = some (.int .i64 a0_0) := bc_ BK101 0
       have hcz18_1 : wc.cell? ⟨gb101, 1, none⟩ = some (.int .i64 a0_1) := bc_ BK101 1
       have hcz18_2 : wc.cell? ⟨gb101, 2, none⟩ = some (.slice Ao2 x102002_1.length co2) := bc_ BK101 2
       have hfz18_0 := blk_frozen BK101.out 0
       have hfz18_1 := blk_frozen BK101.out 1
       have hfz18_2 := blk_frozen BK101.out 2
       go_wp2
       go_ret
       exact ⟨by first | rfl | (simp [errW_none, errW_some] <;> rfl) | (simp [*, errW_none, errW_some] <;> rfl), (by first | exact (rk_ HO_102002.out) | (simp only [hl102002_1]; exact (rk_ HO_102002.out))), bb_ HB.out, by repeat (first | (with_reducible first | exact HK.out | apply Kept.alloc | apply Kept.drewN | apply Kept.drew | refine Kept.setCell ?_ (.inr GW101.out) _) | exact HK.out)⟩
      ·rw [if_neg c17] at H
       have c17b0 : (x6_5 == a0_0) = false := beq_eq_false_iff_ne.mpr c17
       have c17b1 : (x6_5 != a0_0) = true := bne_iff_ne.mpr c17
       have HC19 := am_ H
       clear H
       have hcz20_0 : wc.cell? ⟨gb101, 0, none⟩ = some (.int .i64 a0_0) := bc_ BK101 0
       have hcz20_1 : wc.cell? ⟨gb101, 1, none⟩ = some (.int .i64 a0_1) := bc_ BK101 1
       have hcz20_2 : wc.cell? ⟨gb101, 2, none⟩ = some (.slice Ao2 x102002_1.length co2) := bc_ BK101 2
       have hfz20_0 := blk_frozen BK101.out 0
       have hfz20_1 := blk_frozen BK101.out 1
       have hfz20_2 := blk_frozen BK101.out 2
       go_upto_if 39 with (fail)
       go_cut [3] (fun v3 wc => ∃ (kq : Nat) (x3_18 : Int) (x102002_18 : List Int), v3 = .int .i64 x3_18 ∧ Aside0 (impl_determinant.j4 kq x3_18 x4_1 x14_1 a0_0 x14_1 a0_0 a0_1 x102002_18 = some (r1, r2)) ∧ Aside0 (kq ≤ kj5) ∧ Aside0 (Kd.R (Kd.int .i64) 2 wc w0.heap.size (fun k_ => (P0_2_ k_ ∨ w.heap.size ≤ k_)) (.slice Ao2 x102002_1.length co2) x102002_18) ∧ Aside0 (wc.heap[gb101]? = some (.cells #[.int .i64 a0_0, .int .i64 a0_1, (.slice Ao2 x102002_1.length co2)] 28 (0, 0))) ∧ Aside0 (Kept w wc (fun k_ => P0_2_ k_)) ∧ Aside0 (Below w0.heap.size w0 wc))
       case first =>
        have H := HC19.out
        clear HC19
        by_cases c21 : x6_5 = x14_1
        ·rw [if_pos c21] at H
         have c21b0 : (x6_5 == x14_1) = true := beq_iff_eq.mpr c21
         have c21b1 : (x6_5 != x14_1) = false := bne_eq_false_iff_eq.mpr c21
         clear c21
         (first | rw [c21b0] | (simp only [i64_w, i32_w]; rw [c21b0]) | skip)
         have H' := am_ H
         clear H
         go_wp2
         go_meet
         case rel => exact ⟨_, (x3_1), (x102002_1), (by first | rfl | (simp; done) | (simp [*]; done)), H', ⟨by have := HK1.out; have := HJ5.out; first | omega | exact Nat.le_refl _⟩, ⟨by (try simp only [hl102002_1]); (with_reducible repeat (first | apply Kd.R_alloc | apply Kd.R_drewN | apply Kd.R_drew)); exact HO_102002.out⟩, ⟨by (try simp only [hl102002_1]); (with_reducible repeat (first | refine blk_drewN ?_ _ | refine blk_drew ?_ | refine blk_alloc ?_ _)); exact BK101.out⟩, ⟨by repeat (first | (with_reducible first | exact HK.out | apply Kept.alloc | apply Kept.drewN | apply Kept.drew | refine Kept.setCell ?_ (.inr GW101.out) _) | exact HK.out)⟩, ⟨bb_ HB.out⟩⟩
        ·rw [if_neg c21] at H
         have c21b0 : (x6_5 == x14_1) = false := beq_eq_false_iff_ne.mpr c21
         have c21b1 : (x6_5 != x14_1) = true := bne_iff_ne.mpr c21
         (first | rw [c21b0] | (simp only [i64_w, i32_w]; rw [c21b0]) | skip)
         (try rw [c21b1])
         have H' := am_ H
         clear H
         have hcz22_0 : wc.cell? ⟨gb101, 0, none⟩ = some (.int .i64 a0_0) := bc_ BK101 0
         have hcz22_1 : wc.cell? ⟨gb101, 1, none⟩ = some (.int .i64 a0_1) := bc_ BK101 1
         have hcz22_2 : wc.cell? ⟨gb101, 2, none⟩ = some (.slice Ao2 x102002_1.length co2) := bc_ BK101 2
         have hfz22_0 := blk_frozen BK101.out 0
         have hfz22_1 := blk_frozen BK101.out 1
         have hfz22_2 := blk_frozen BK101.out 2
         go_wp2
         go_loopg [44] kj5 (fun kq v44 w' => ∃ (x44_3 : Int) (x102002_3 : List Int), v44 = .int .i64 x44_3 ∧ Aside0 (impl_determinant.l2 kq (wrap64 (-x3_1)) x4_1 x14_1 x6_5 a0_0 x14_1 a0_1 x44_3 a0_0 a0_1 x102002_3 = some (r1, r2)) ∧ Aside0 (kq ≤ kj5) ∧ Aside0 (Kd.R (Kd.int .i64) 2 w' w0.heap.size (fun k_ => (P0_2_ k_ ∨ w.heap.size ≤ k_)) (.slice Ao2 x102002_1.length co2) x102002_3) ∧ Aside0 (w'.heap[gb101]? = some (.cells #[.int .i64 a0_0, .int .i64 a0_1, (.slice Ao2 x102002_1.length co2)] 28 (0, 0))) ∧ Aside0 (Kept w w' (fun k_ => P0_2_ k_)) ∧ Aside0 (Below w0.heap.size w0 w'))
         case atStart => exact ⟨(0), (x102002_1), (by first | rfl | (simp; done) | (simp [*]; done)), H', ⟨Nat.le_refl _⟩, ⟨by (try simp only [hl102002_1]); (with_reducible repeat (first | apply Kd.R_alloc | apply Kd.R_drewN | apply Kd.R_drew)); exact HO_102002.out⟩, ⟨by (try simp only [hl102002_1]); (with_reducible repeat (first | refine blk_drewN ?_ _ | refine blk_drew ?_ | refine blk_alloc ?_ _)); exact BK101.out⟩, ⟨by repeat (first | (with_reducible first | exact HK.out | apply Kept.alloc | apply Kept.drewN | apply Kept.drew | refine Kept.setCell ?_ (.inr GW101.out) _) | exact HK.out)⟩, ⟨bb_ HB.out⟩⟩
         case round =>
          clear H'
          try clear c1
          try clear p1
          try clear q1
          try clear hx1
          try clear c2
          try clear p2
          try clear c5
          try clear c5b0
          try clear p6
          try clear c7
          try clear c7b0
          try clear c9
          try clear c9b0
          try clear c10
          try clear c10b0
          try clear p10
          try clear q10
          try clear hx10
          try clear c11
          try clear c11b0
          try clear c11b1
          try clear c17
          try clear c17b0
          try clear c17b1
          try clear c21
          try clear c21b0
          try clear c21b1
          try clear hcz12_0
          try clear hcz12_1
          try clear hcz12_2
          try clear hcz14_0
          try clear hcz14_1
          try clear hcz14_2
          try clear hcz16_0
          try clear hcz16_1
          try clear hcz16_2
          try clear hcz18_0
          try clear hcz18_1
          try clear hcz18_2
          try clear hcz20_0
          try clear hcz20_1
          try clear hcz20_2
          try clear hcz22_0
          try clear hcz22_1
          try clear hcz22_2
          try clear hcz4_0
          try clear hcz4_1
          try clear hcz4_2
          try clear hfz12_0
          try clear hfz12_1
          try clear hfz12_2
          try clear hfz14_0
          try clear hfz14_1
          try clear hfz14_2
          try clear hfz16_0
          try clear hfz16_1
          try clear hfz16_2
          try clear hfz18_0
          try clear hfz18_1
          try clear hfz18_2
          try clear hfz20_0
          try clear hfz20_1
          try clear hfz20_2
          try clear hfz22_0
          try clear hfz22_1
          try clear hfz22_2
          try clear hfz4_0
          try clear hfz4_1
          try clear hfz4_2
          try clear hx103_0
          try clear p1
          try clear p10
          try clear p103
          try clear p2
          try clear p6
          try clear q1
          try clear q10
          try clear q103
          obtain ⟨x44_3, x102002_3, rfl, HA, HK3, HO_102002, BK101, HK, HB⟩ := hrel
          have hl102002_3 := (Kd.R_reads' HO_102002.out).1
          rw [hl102002_3] at HO_102002
          (try simp only [hl102002_3])
          (try simp only [hl102002_3] at BK101)
          cases gk with
          | zero => exact absurd HA.out (by simp [impl_determinant.l2])
          | succ k3 =>
           have H := HA.out
           clear HA
           simp only [impl_determinant.l2] at H
           by_cases c23 : x44_3 < a0_1
           ·rw [if_pos c23] at H
            have c23b0 : decide (x44_3 < a0_1) = true := decide_eq_true c23
            clear c23
            replace H := Option.bind_eq_some_iff.mp H
            obtain ⟨t104, A240, H⟩ := H
            replace H : ((impl_Matrix_at.f a0_0 a0_1 x102002_3 x6_5 x44_3).bind fun t105 => (if 0 ≤ t105 then (if t105 < (x102002_3.length : Int) then (if 0 ≤ t104 then (if t104 < (x102002_3.length : Int) then (impl_determinant.l2 k3 (wrap64 (-x3_1)) x4_1 x14_1 x6_5 a0_0 x14_1 a0_1 (wrap64 (x44_3 + 1)) a0_0 a0_1 ((x102002_3.set (t104 : Int).toNat (rd x102002_3 t105)).set (t105 : Int).toNat (rd x102002_3 t104))) else (none)) else (none)) else (none)) else (none))) = some (r1, r2) := H
            have A24 := am_ A240
            clear A240
            replace H := Option.bind_eq_some_iff.mp H
            obtain ⟨t105, A250, H⟩ := H
            replace H : (if 0 ≤ t105 then (if t105 < (x102002_3.length : Int) then (if 0 ≤ t104 then (if t104 < (x102002_3.length : Int) then (impl_determinant.l2 k3 (wrap64 (-x3_1)) x4_1 x14_1 x6_5 a0_0 x14_1 a0_1 (wrap64 (x44_3 + 1)) a0_0 a0_1 ((x102002_3.set (t104 : Int).toNat (rd x102002_3 t105)).set (t105 : Int).toNat (rd x102002_3 t104))) else (none)) else (none)) else (none)) else (none)) = some (r1, r2) := H
            have A25 := am_ A250
            clear A250
            by_cases c26 : 0 ≤ t105
            ·rw [if_pos c26] at H
             have c26b0 : decide (0 ≤ t105) = true := decide_eq_true c26
             clear c26
             by_cases c27 : t105 < (x102002_3.length : Int)
             ·rw [if_pos c27] at H
              have c27b0 : decide (t105 < (x102002_3.length : Int)) = true := decide_eq_true c27
              clear c27
              by_cases c28 : 0 ≤ t104
              ·rw [if_pos c28] at H
               have c28b0 : decide (0 ≤ t104) = true := decide_eq_true c28
               clear c28
               by_cases c29 : t104 < (x102002_3.length : Int)
               ·rw [if_pos c29] at H
                have c29b0 : decide (t104 < (x102002_3.length : Int)) = true := decide_eq_true c29
                clear c29
                obtain ⟨y108, hy108⟩ : ∃ y_ : List Int, y_ = (x102002_3.set (t104 : Int).toNat (rd x102002_3 t105)) := ⟨_, rfl⟩
                replace H : (impl_determinant.l2 k3 (wrap64 (-x3_1)) x4_1 x14_1 x6_5 a0_0 x14_1 a0_1 (wrap64 (x44_3 + 1)) a0_0 a0_1 (y108.set (t105 : Int).toNat (rd x102002_3 t104))) = some (r1, r2) := by first | (rw [hy108]; with_reducible exact H) | (have H2_ := (Option.bind_some _ _).symm.trans H; rw [hy108]; with_reducible exact H2_) | (have H2_ := (Option.bind_some _ _).symm.trans H; with_reducible exact H2_) | with_reducible exact H | (rw [hy108]; exact H) | exact H
                have Ny108 := am_ hy108
                clear hy108
                obtain ⟨y109, hy109⟩ : ∃ y_ : List Int, y_ = (y108.set (t105 : Int).toNat (rd x102002_3 t104)) := ⟨_, rfl⟩
                replace H : (impl_determinant.l2 k3 (wrap64 (-x3_1)) x4_1 x14_1 x6_5 a0_0 x14_1 a0_1 (wrap64 (x44_3 + 1)) a0_0 a0_1 y109) = some (r1, r2) := by first | (rw [hy109]; with_reducible exact H) | (have H2_ := (Option.bind_some _ _).symm.trans H; rw [hy109]; with_reducible exact H2_) | (have H2_ := (Option.bind_some _ _).symm.trans H; with_reducible exact H2_) | with_reducible exact H | (rw [hy109]; exact H) | exact H
                have Ny109 := am_ hy109
                clear hy109
                have H' := am_ H
                clear H
                try go_wp2
                have n0_ := am_ (Kd.R_drew HO_102002.out)
                have n1_ := am_ (blk_drew BK101.out)
                have n2_ := am_ (Kept.drew HK.out)
                have n3_ := am_ (below_drew1 HB.out)
                clear HO_102002 BK101 HK HB; revert n0_ n1_ n2_ n3_; intro HO_102002 BK101 HK HB
                refine start_ (n := 10) (S := fun w' => w'.cell? ⟨gb101, 0, none⟩ = some (.int .i64 a0_0) ∧ w'.cell? ⟨gb101, 1, none⟩ = some (.int .i64 a0_1) ∧ w'.cell? ⟨gb101, 2, none⟩ = some (.slice Ao2 x102002_3.length co2)) (ds := []) #[false, false, false, false, false, false, false, false, false, false] (by kernel_rfl) rfl rfl ⟨bc_ BK101 0, bc_ BK101 1, bc_ BK101 2⟩ (fun hHeld => ?_); refine with_tabW impl_determinant.tab15 impl_determinant.bits15 (fun HT_ HW_ => ?_)
                generalize wr.drew = w32 at HO_102002 BK101 HK HB hHeld ⊢
                refine pure_ (i := 1) (N := some 48) (v := ?_) (a' := ?_) #[false, true, false, false, false, false, false, false, false, false] rfl rfl (any_of HT_.out (by kernel_rfl)) (fun _ _ _ h => h) (Or.inl ⟨by rfl, ?_⟩) ?_ ?_
                rotate_left
                ·intro w'
                 go_simp
                 with_reducible rfl
                rotate_left
                ·simp only [Act.put, List.setIfInBounds_toArray, List.set_cons_zero, List.set_cons_succ, i64_w, i32_w]
                 rfl
                refine pure_ (i := 2) (N := some 49) (v := ?_) (a' := ?_) #[false, true, true, false, false, false, false, false, false, false] rfl rfl (any_of HT_.out (by kernel_rfl)) (fun _ _ _ h => h) (Or.inl ⟨by rfl, ?_⟩) ?_ ?_
                rotate_left
                ·intro w'
                 go_simp
                 with_reducible rfl
                rotate_left
                ·simp only [Act.put, List.setIfInBounds_toArray, List.set_cons_zero, List.set_cons_succ, i64_w, i32_w]
                 rfl
                refine pure_ (i := 5) (N := some 52) (v := ?_) (a' := ?_) #[false, true, true, false, false, true, false, false, false, false] rfl rfl (any_of HT_.out (by kernel_rfl)) (fun _ _ _ h => h) (Or.inl ⟨by rfl, ?_⟩) ?_ ?_
                rotate_left
                ·intro w'
                 go_simp
                 with_reducible rfl
                rotate_left
                ·simp only [Act.put, List.setIfInBounds_toArray, List.set_cons_zero, List.set_cons_succ, i64_w, i32_w]
                 rfl
                refine pure_ (i := 6) (N := some 53) (v := ?_) (a' := ?_) #[false, true, true, false, false, true, true, false, false, false] rfl rfl (any_of HT_.out (by kernel_rfl)) (fun _ _ _ h => h) (Or.inl ⟨by rfl, ?_⟩) ?_ ?_
                rotate_left
                ·intro w'
                 go_simp
                 with_reducible rfl
                rotate_left
                ·simp only [Act.put, List.setIfInBounds_toArray, List.set_cons_zero, List.set_cons_succ, i64_w, i32_w]
                 rfl
                refine take_ (i := 0) (N := some 47) (v := ?_) (a' := ?_) #[true, true, true, false, false, true, true, false, false, false] rfl rfl (take_ofW HT_.out HW_.out (by kernel_rfl)) (fun _ _ _ h => h) (Or.inl ⟨by rfl, ?_⟩) hHeld ?_ ?_
                rotate_left
                ·rintro w' ⟨s0, s1, s2⟩
                 go_simp
                 with_reducible rfl
                rotate_left
                ·simp only [Act.put, List.setIfInBounds_toArray, List.set_cons_zero, List.set_cons_succ, i64_w, i32_w]
                 rfl
                refine take_ (i := 4) (N := some 51) (v := ?_) (a' := ?_) #[true, true, true, false, true, true, true, false, false, false] rfl rfl (take_ofW HT_.out HW_.out (by kernel_rfl)) (fun _ _ _ h => h) (Or.inl ⟨by rfl, ?_⟩) hHeld ?_ ?_
                rotate_left
                ·rintro w' ⟨s0, s1, s2⟩
                 go_simp
                 with_reducible rfl
                rotate_left
                ·simp only [Act.put, List.setIfInBounds_toArray, List.set_cons_zero, List.set_cons_succ, i64_w, i32_w]
                 rfl
                refine one_ (i := 3) (N := some 50) #[true, true, true, true, true, true, true, false, false, false] rfl rfl (one_of HT_.out (by kernel_rfl)) (by decide) (fun K hK => ?_)
                refine goes_ Try.func38 (by kernel_rfl) rfl #[.agg #[.int .i64 a0_0, .int .i64 a0_1, .slice Ao2 x102002_3.length co2], .int .i64 x14_1, .int .i64 x44_3] (by rfl) rfl rfl lm_ ?_
                with_reducible refine (impl_Matrix_at.calls a0_0 a0_1 _ _ x102002_3 x14_1 x44_3 t104 _ ?side1 ?side2 A24.out).mono ?_
                (case side1 => repeat (first | exact (Kd.R_reads' HO_102002.out).2.2 | (with_reducible refine Kd.C_alloc ?_ _) | (with_reducible refine Kd.C_drewN ?_ _) | (with_reducible refine Kd.C_drew ?_)))
                (case side2 => exact (Kd.R_reads' HO_102002.out).2.1)
                rintro e w33 ⟨rfl, hb⟩
                refine ⟨_, rfl, ?_⟩
                have n0_ := am_ (Kd.R_below (rk_ HO_102002.out) hb)
                have n1_ := am_ (bw_ BK101 hb)
                have n2_ := am_ (Kept.below (S := (fun k_ => P0_2_ k_)) (by repeat (first | (with_reducible first | exact HK.out | apply Kept.alloc | apply Kept.drewN | apply Kept.drew | refine Kept.setCell ?_ (.inr GW101.out) _) | exact HK.out)) hb)
                have n3_ := am_ (below_step (bb_ HB.out) hb)
                clear HO_102002 BK101 HK HB; revert n0_ n1_ n2_ n3_; intro HO_102002 BK101 HK HB
                (try clear hb)
                (try clear hb2)
                (try clear hk)
                (try clear hi)
                refine hK.out _ _ ⟨bc_ BK101 0, bc_ BK101 1, bc_ BK101 2⟩ (fun hHeld => ?_)
                clear hK K
                refine norm_ (a' := ?_) ?_ ?_
                rotate_left
                ·show Act.put _ (some 50) _ = _
                 simp only [Act.put, List.setIfInBounds_toArray, List.set_cons_zero, List.set_cons_succ, i64_w, i32_w]
                 rfl
                refine one_ (i := 7) (N := some 54) #[true, true, true, true, true, true, true, true, false, false] rfl rfl (one_of HT_.out (by kernel_rfl)) (by decide) (fun K hK => ?_)
                refine goes_ Try.func38 (by kernel_rfl) rfl #[.agg #[.int .i64 a0_0, .int .i64 a0_1, .slice Ao2 x102002_3.length co2], .int .i64 x6_5, .int .i64 x44_3] (by rfl) rfl rfl lm_ ?_
                with_reducible refine (impl_Matrix_at.calls a0_0 a0_1 _ _ x102002_3 x6_5 x44_3 t105 _ ?side1 ?side2 A25.out).mono ?_
                (case side1 => repeat (first | exact (Kd.R_reads' HO_102002.out).2.2 | (with_reducible refine Kd.C_alloc ?_ _) | (with_reducible refine Kd.C_drewN ?_ _) | (with_reducible refine Kd.C_drew ?_)))
                (case side2 => exact (Kd.R_reads' HO_102002.out).2.1)
                rintro e w34 ⟨rfl, hb⟩
                refine ⟨_, rfl, ?_⟩
                have n0_ := am_ (Kd.R_below (rk_ HO_102002.out) hb)
                have n1_ := am_ (bw_ BK101 hb)
                have n2_ := am_ (Kept.below (S := (fun k_ => P0_2_ k_)) (by repeat (first | (with_reducible first | exact HK.out | apply Kept.alloc | apply Kept.drewN | apply Kept.drew | refine Kept.setCell ?_ (.inr GW101.out) _) | exact HK.out)) hb)
                have n3_ := am_ (below_step (bb_ HB.out) hb)
                clear HO_102002 BK101 HK HB; revert n0_ n1_ n2_ n3_; intro HO_102002 BK101 HK HB
                (try clear hb)
                (try clear hb2)
                (try clear hk)
                (try clear hi)
                refine hK.out _ _ ⟨bc_ BK101 0, bc_ BK101 1, bc_ BK101 2⟩ (fun hHeld => ?_)
                clear hK K
                refine norm_ (a' := ?_) ?_ ?_
                rotate_left
                ·show Act.put _ (some 54) _ = _
                 simp only [Act.put, List.setIfInBounds_toArray, List.set_cons_zero, List.set_cons_succ, i64_w, i32_w]
                 rfl
                refine pure_ (i := 8) (N := some 8) (v := ?_) (a' := ?_) #[true, true, true, true, true, true, true, true, true, false] rfl rfl (any_of HT_.out (by kernel_rfl)) (fun _ _ _ h => h) (Or.inl ⟨by rfl, ?_⟩) ?_ ?_
                rotate_left
                ·intro w'
                 go_simp
                 with_reducible rfl
                rotate_left
                ·simp only [Act.put, List.setIfInBounds_toArray, List.set_cons_zero, List.set_cons_succ, i64_w, i32_w]
                 rfl
                refine pure_ (i := 9) (N := some 9) (v := ?_) (a' := ?_) #[true, true, true, true, true, true, true, true, true, true] rfl rfl (any_of HT_.out (by kernel_rfl)) (fun _ _ _ h => h) (Or.inl ⟨by rfl, ?_⟩) ?_ ?_
                rotate_left
                ·intro w'
                 go_simp
                 with_reducible rfl
                rotate_left
                ·simp only [Act.put, List.setIfInBounds_toArray, List.set_cons_zero, List.set_cons_succ, i64_w, i32_w]
                 rfl
                refine done_ (done_of HT_.out (by kernel_rfl)) ?_
                try go_wp2
                have n0_ := am_ (Kd.R_drew HO_102002.out)
                have n1_ := am_ (blk_drew BK101.out)
                have n2_ := am_ (Kept.drew HK.out)
                have n3_ := am_ (below_drew1 HB.out)
                clear HO_102002 BK101 HK HB; revert n0_ n1_ n2_ n3_; intro HO_102002 BK101 HK HB
                have p106 : 0 ≤ (t105 : Int) := of_decide_eq_true (by first | (with_reducible assumption) | assumption)
                have q106 : t105 < (x102002_3.length : Int) := of_decide_eq_true (by first | (with_reducible assumption) | assumption)
                obtain ⟨ad106, e106, hx106_0⟩ := Kd.at_int (Kd.R_reads' HO_102002.out).2.2 t105 p106 q106
                cases e106
                replace p106 := eq_true p106
                replace q106 := eq_true q106
                have p107 : 0 ≤ (t104 : Int) := of_decide_eq_true (by first | (with_reducible assumption) | assumption)
                have q107 : t104 < (x102002_3.length : Int) := of_decide_eq_true (by first | (with_reducible assumption) | assumption)
                obtain ⟨ad107, e107, hx107_0⟩ := Kd.at_int (Kd.R_reads' HO_102002.out).2.2 t104 p107 q107
                obtain rfl : ad106 = ad107 := (by injection e107)
                replace p107 := eq_true p107
                replace q107 := eq_true q107
                have p30 : 0 ≤ (t104 : Int) := of_decide_eq_true (by first | (with_reducible assumption) | assumption)
                have q30 : (t104 : Int) < ((x102002_3.length : Int) : Int) := of_decide_eq_true (by first | (with_reducible assumption) | assumption)
                obtain ⟨go30, co30, eo30, gb30, gl30, cl30, HG30⟩ := Kd.R_form HO_102002.out (by omega)
                (first | cases eo30 | (injection eo30 with ea_ en_ ec_; (first | subst ea_ | (injection ea_ with ea_; subst ea_)); subst ec_; clear en_))
                have GB30 := am_ gb30
                have GG30 := am_ HG30
                clear gb30 gl30 HG30
                have HMgo30 := am_ (show (P0_2_ go30 ∨ w.heap.size ≤ go30) from (HO_102002.out.1 _ rfl))
                (first | simp only [add_plain] at hx106_0 | skip)
                (first | simp only [add_plain] at hx107_0 | skip)
                obtain ⟨hx30_0, hf30_0⟩ := Kd.R_celln 0 HO_102002.out (t104 : Int) p30 q30
                replace p30 := eq_true p30
                replace q30 := eq_true q30
                have HP36 := Kd.R_putn HO_102002.out (t104 : Int) (rd x102002_3 t105)
                rw [← Ny108.out] at HP36
                have HQ36 := am_ HP36
                clear HP36
                have p31 : 0 ≤ (t105 : Int) := of_decide_eq_true (by first | (with_reducible assumption) | assumption)
                have q31 : (t105 : Int) < ((x102002_3.length : Int) : Int) := of_decide_eq_true (by first | (with_reducible assumption) | assumption)
                obtain ⟨hx31_0, hf31_0⟩ := Kd.R_celln 0 HQ36.out (t105 : Int) p31 q31
                replace p31 := eq_true p31
                replace q31 := eq_true q31
                have HP37 := Kd.R_putn HQ36.out (t105 : Int) (rd x102002_3 t104)
                rw [← Ny109.out] at HP37
                have HQ37 := am_ HP37
                clear HP37
                refine start_ (n := 12) (S := fun w' => w'.cell? ⟨go30, (t105).toNat, none⟩ = some (.int .i64 (rd x102002_3 t105)) ∧ w'.cell? ⟨go30, (t104).toNat, none⟩ = some (.int .i64 (rd x102002_3 t104))) (ds := [9, 11]) #[false, false, false, false, false, false, false, false, false, false, false, false] (by kernel_rfl) rfl rfl ⟨hx106_0, hx107_0⟩ (fun hHeld => ?_); refine with_tabW impl_determinant.tab16 impl_determinant.bits16 (fun HT_ HW_ => ?_)
                generalize w34.drew = w35 at HO_102002 BK101 HK HB GG30 HQ36 HQ37 hf30_0 hf31_0 hx106_0 hx107_0 hx30_0 hx31_0 hHeld ⊢
                refine pure_ (i := 0) (N := some 55) (v := ?_) (a' := ?_) #[true, false, false, false, false, false, false, false, false, false, false, false] rfl rfl (any_of HT_.out (by kernel_rfl)) (fun _ _ _ h => h) (Or.inl ⟨by rfl, ?_⟩) ?_ ?_
                rotate_left
                ·intro w'
                 go_simp
                 with_reducible rfl
                rotate_left
                ·simp only [Act.put, List.setIfInBounds_toArray, List.set_cons_zero, List.set_cons_succ, i64_w, i32_w]
                 rfl
                refine pure_ (i := 1) (N := some 56) (v := ?_) (a' := ?_) #[true, true, false, false, false, false, false, false, false, false, false, false] rfl rfl (any_of HT_.out (by kernel_rfl)) (fun _ _ _ h => h) (Or.inl ⟨by rfl, ?_⟩) ?_ ?_
                rotate_left
                ·intro w'
                 go_simp
                 with_reducible rfl
                rotate_left
                ·simp only [Act.put, List.setIfInBounds_toArray, List.set_cons_zero, List.set_cons_succ, i64_w, i32_w]
                 rfl
                refine pure_ (i := 2) (N := some 57) (v := ?_) (a' := ?_) #[true, true, true, false, false, false, false, false, false, false, false, false] rfl rfl (any_of HT_.out (by kernel_rfl)) (fun _ _ _ h => h) (Or.inl ⟨by rfl, ?_⟩) ?_ ?_
                rotate_left
                ·intro w'
                 go_simp
                 with_reducible rfl
                rotate_left
                ·simp only [Act.put, List.setIfInBounds_toArray, List.set_cons_zero, List.set_cons_succ, i64_w, i32_w]
                 rfl
                refine pure_ (i := 3) (N := some 58) (v := ?_) (a' := ?_) #[true, true, true, true, false, false, false, false, false, false, false, false] rfl rfl (any_of HT_.out (by kernel_rfl)) (fun _ _ _ h => h) (Or.inl ⟨by rfl, ?_⟩) ?_ ?_
                rotate_left
                ·intro w'
                 go_simp
                 with_reducible rfl
                rotate_left
                ·simp only [Act.put, List.setIfInBounds_toArray, List.set_cons_zero, List.set_cons_succ, i64_w, i32_w]
                 rfl
                refine pure_ (i := 5) (N := some 60) (v := ?_) (a' := ?_) #[true, true, true, true, false, true, false, false, false, false, false, false] rfl rfl (any_of HT_.out (by kernel_rfl)) (fun _ _ _ h => h) (Or.inl ⟨by rfl, ?_⟩) ?_ ?_
                rotate_left
                ·intro w'
                 go_simp
                 with_reducible rfl
                rotate_left
                ·simp only [Act.put, List.setIfInBounds_toArray, List.set_cons_zero, List.set_cons_succ, i64_w, i32_w]
                 rfl
                refine pure_ (i := 6) (N := some 61) (v := ?_) (a' := ?_) #[true, true, true, true, false, true, true, false, false, false, false, false] rfl rfl (any_of HT_.out (by kernel_rfl)) (fun _ _ _ h => h) (Or.inl ⟨by rfl, ?_⟩) ?_ ?_
                rotate_left
                ·intro w'
                 go_simp
                 with_reducible rfl
                rotate_left
                ·simp only [Act.put, List.setIfInBounds_toArray, List.set_cons_zero, List.set_cons_succ, i64_w, i32_w]
                 rfl
                refine take_ (i := 4) (N := some 59) (v := ?_) (a' := ?_) #[true, true, true, true, true, true, true, false, false, false, false, false] rfl rfl (take_ofW HT_.out HW_.out (by kernel_rfl)) (fun _ _ _ h => h) (Or.inl ⟨by rfl, ?_⟩) hHeld ?_ ?_
                rotate_left
                ·rintro w' ⟨s0, s1⟩
                 go_simp
                 with_reducible rfl
                rotate_left
                ·simp only [Act.put, List.setIfInBounds_toArray, List.set_cons_zero, List.set_cons_succ, i64_w, i32_w]
                 rfl
                refine take_ (i := 7) (N := some 62) (v := ?_) (a' := ?_) #[true, true, true, true, true, true, true, true, false, false, false, false] rfl rfl (take_ofW HT_.out HW_.out (by kernel_rfl)) (fun _ _ _ h => h) (Or.inl ⟨by rfl, ?_⟩) hHeld ?_ ?_
                rotate_left
                ·rintro w' ⟨s0, s1⟩
                 go_simp
                 with_reducible rfl
                rotate_left
                ·simp only [Act.put, List.setIfInBounds_toArray, List.set_cons_zero, List.set_cons_succ, i64_w, i32_w]
                 rfl
                refine pure_ (i := 8) (N := some 63) (v := ?_) (a' := ?_) #[true, true, true, true, true, true, true, true, true, false, false, false] rfl rfl (any_of HT_.out (by kernel_rfl)) (fun _ _ _ h => h) (Or.inl ⟨by rfl, ?_⟩) ?_ ?_
                rotate_left
                ·intro w'
                 go_simp
                 with_reducible rfl
                rotate_left
                ·simp only [Act.put, List.setIfInBounds_toArray, List.set_cons_zero, List.set_cons_succ, i64_w, i32_w]
                 rfl
                refine last_ (i := 9) (N := none) #[true, true, true, true, true, true, true, true, true, true, false, false] rfl rfl (one_of HT_.out (by kernel_rfl)) (by decide) (fun K hK => ?_)
                refine skip_ (w1 := ?_) (by rfl) rfl ?_ ?_
                rotate_left
                ·go_simp
                 rfl
                refine hK.out _ _ ?_
                clear hK K
                refine pure_ (i := 10) (N := some 64) (v := ?_) (a' := ?_) #[true, true, true, true, true, true, true, true, true, true, true, false] rfl rfl (any_of HT_.out (by kernel_rfl)) (fun _ _ _ h => h) (Or.inl ⟨by rfl, ?_⟩) ?_ ?_
                rotate_left
                ·intro w'
                 go_simp
                 with_reducible rfl
                rotate_left
                ·simp only [Act.put, List.setIfInBounds_toArray, List.set_cons_zero, List.set_cons_succ, i64_w, i32_w]
                 rfl
                refine last_ (i := 11) (N := none) #[true, true, true, true, true, true, true, true, true, true, true, true] rfl rfl (one_of HT_.out (by kernel_rfl)) (by decide) (fun K hK => ?_)
                refine skip_ (w1 := ?_) (by rfl) rfl ?_ ?_
                rotate_left
                ·go_simp
                 rfl
                refine hK.out _ _ ?_
                clear hK K
                refine done_ (done_of HT_.out (by kernel_rfl)) ?_
                try go_wp2
                (try simp only [← hl102002_3])
                go_roundg k3
                case measure => have := HK1.out; have := HJ5.out; have := HK3.out; omega
                case rel => exact ⟨(wrap64 (x44_3 + 1)), (y109), (by first | rfl | (simp; done) | (simp [*]; done)), H', ⟨by have := HK1.out; have := HJ5.out; have := HK3.out; omega⟩, ⟨by (try simp only [hl102002_1]); (try simp only [hl102002_3]); (with_reducible repeat (first | apply Kd.R_alloc | apply Kd.R_drewN | apply Kd.R_drew)); exact HQ37.out⟩, ⟨by (try simp only [hl102002_1]); (try simp only [hl102002_3]); (with_reducible repeat (first | refine blk_drewN ?_ _ | refine blk_drew ?_ | refine blk_alloc ?_ _)); refine blk_far ?_ (by have h_ := Kd.R_ne HO_102002.out BK101.out (by decide); intro e_; exact h_ (by rw [e_]; rfl)) _; (with_reducible repeat (first | refine blk_drewN ?_ _ | refine blk_drew ?_ | refine blk_alloc ?_ _)); refine blk_far ?_ (by have h_ := Kd.R_ne HO_102002.out BK101.out (by decide); intro e_; exact h_ (by rw [e_]; rfl)) _; (with_reducible repeat (first | refine blk_drewN ?_ _ | refine blk_drew ?_ | refine blk_alloc ?_ _)); exact BK101.out⟩, ⟨by repeat (first | (with_reducible first | exact HK.out | apply Kept.alloc | apply Kept.drewN | apply Kept.drew | refine Kept.setCell ?_ HMgo30.out _ | refine Kept.setCell ?_ HMgo30.out _ | refine Kept.setCell ?_ (.inr GW101.out) _) | exact HK.out)⟩, ⟨bb_ HB.out⟩⟩
               ·rw [if_neg c29] at H
                exact absurd H (by simp)
              ·rw [if_neg c28] at H
               exact absurd H (by simp)
             ·rw [if_neg c27] at H
              exact absurd H (by simp)
            ·rw [if_neg c26] at H
             exact absurd H (by simp)
           ·rw [if_neg c23] at H
            have c23b0 : decide (x44_3 < a0_1) = false := decide_eq_false c23
            clear c23
            have H' := am_ H
            clear H
            go_wp2
            (try simp only [← hl102002_3])
            go_meet
            case rel => exact ⟨_, ((wrap64 (-x3_1))), (x102002_3), (by first | rfl | (simp; done) | (simp [*]; done)), H', ⟨by have := HK1.out; have := HJ5.out; have := HK3.out; first | omega | exact Nat.le_refl _⟩, ⟨by (try simp only [hl102002_1]); (try simp only [hl102002_3]); (with_reducible repeat (first | apply Kd.R_alloc | apply Kd.R_drewN | apply Kd.R_drew)); exact HO_102002.out⟩, ⟨by (try simp only [hl102002_1]); (try simp only [hl102002_3]); (with_reducible repeat (first | refine blk_drewN ?_ _ | refine blk_drew ?_ | refine blk_alloc ?_ _)); exact BK101.out⟩, ⟨by repeat (first | (with_reducible first | exact HK.out | apply Kept.alloc | apply Kept.drewN | apply Kept.drew | refine Kept.setCell ?_ (.inr GW101.out) _) | exact HK.out)⟩, ⟨bb_ HB.out⟩⟩
       case rest =>
        clear HC19
        try clear c1
        try clear p1
        try clear q1
        try clear hx1
        try clear c2
        try clear p2
        try clear c3
        try clear p3
        try clear q3
        try clear hx3
        try clear hf3
        try clear c5
        try clear c5b0
        try clear p6
        try clear c7
        try clear c7b0
        try clear c9
        try clear c9b0
        try clear c10
        try clear c10b0
        try clear p10
        try clear q10
        try clear hx10
        try clear c11
        try clear c11b0
        try clear c11b1
        try clear c17
        try clear c17b0
        try clear c17b1
        try clear c21
        try clear c21b0
        try clear c21b1
        try clear c23
        try clear c23b0
        try clear c26
        try clear c26b0
        try clear c27
        try clear c27b0
        try clear c28
        try clear c28b0
        try clear c29
        try clear c29b0
        try clear p30
        try clear q30
        try clear hx30
        try clear hf30
        try clear p31
        try clear q31
        try clear hx31
        try clear hf31
        try clear hcz12_0
        try clear hcz12_1
        try clear hcz12_2
        try clear hcz14_0
        try clear hcz14_1
        try clear hcz14_2
        try clear hcz16_0
        try clear hcz16_1
        try clear hcz16_2
        try clear hcz18_0
        try clear hcz18_1
        try clear hcz18_2
        try clear hcz20_0
        try clear hcz20_1
        try clear hcz20_2
        try clear hcz22_0
        try clear hcz22_1
        try clear hcz22_2
        try clear hcz4_0
        try clear hcz4_1
        try clear hcz4_2
        try clear hfz12_0
        try clear hfz12_1
        try clear hfz12_2
        try clear hfz14_0
        try clear hfz14_1
        try clear hfz14_2
        try clear hfz16_0
        try clear hfz16_1
        try clear hfz16_2
        try clear hfz18_0
        try clear hfz18_1
        try clear hfz18_2
        try clear hfz20_0
        try clear hfz20_1
        try clear hfz20_2
        try clear hfz22_0
        try clear hfz22_1
        try clear hfz22_2
        try clear hfz4_0
        try clear hfz4_1
        try clear hfz4_2
        try clear hx103_0
        try clear hx106_0
        try clear hx107_0
        try clear hx30_0
        try clear hx31_0
        try clear p1
        try clear p10
        try clear p103
        try clear p106
        try clear p107
        try clear p2
        try clear p30
        try clear p31
        try clear p6
        try clear q1
        try clear q10
        try clear q103
        try clear q106
        try clear q107
        try clear q30
        try clear q31
        obtain ⟨kq, x3_18, x102002_18, rfl, HA, HJ18, HO_102002, BK101, HK, HB⟩ := hcut
        have hl102002_18 := (Kd.R_reads' HO_102002.out).1
        rw [hl102002_18] at HO_102002
        (try simp only [hl102002_18])
        (try simp only [hl102002_18] at BK101)
        cases kq with
        | zero => exact absurd HA.out (by simp [impl_determinant.j4])
        | succ kj18 =>
         have H := HA.out
         clear HA
         simp only [impl_determinant.j4] at H
         have H' := am_ H
         clear H
         go_wp2
         go_loopg [10] kj18 (fun kq v10 w' => ∃ (x10_4 : Int) (x102002_4 : List Int), v10 = .int .i64 x10_4 ∧ Aside0 (impl_determinant.l3 kq x3_18 x4_1 x14_1 x10_4 a0_0 x14_1 a0_0 a0_1 x102002_4 = some (r1, r2)) ∧ Aside0 (kq ≤ kj18) ∧ Aside0 (Kd.R (Kd.int .i64) 2 w' w0.heap.size (fun k_ => (P0_2_ k_ ∨ w.heap.size ≤ k_)) (.slice Ao2 x102002_18.length co2) x102002_4) ∧ Aside0 (w'.heap[gb101]? = some (.cells #[.int .i64 a0_0, .int .i64 a0_1, (.slice Ao2 x102002_18.length co2)] 28 (0, 0))) ∧ Aside0 (Kept w w' (fun k_ => P0_2_ k_)) ∧ Aside0 (Below w0.heap.size w0 w'))
         case atStart => exact ⟨(wrap64 (x14_1 + 1)), (x102002_18), (by first | rfl | (simp; done) | (simp [*]; done)), H', ⟨Nat.le_refl _⟩, ⟨by (try simp only [hl102002_1]); (try simp only [hl102002_18]); (with_reducible repeat (first | apply Kd.R_alloc | apply Kd.R_drewN | apply Kd.R_drew)); exact HO_102002.out⟩, ⟨by (try simp only [hl102002_1]); (try simp only [hl102002_18]); (with_reducible repeat (first | refine blk_drewN ?_ _ | refine blk_drew ?_ | refine blk_alloc ?_ _)); exact BK101.out⟩, ⟨by repeat (first | (with_reducible first | exact HK.out | apply Kept.alloc | apply Kept.drewN | apply Kept.drew | refine Kept.setCell ?_ (.inr GW101.out) _) | exact HK.out)⟩, ⟨bb_ HB.out⟩⟩
         case round =>
          clear H'
          try clear c1
          try clear p1
          try clear q1
          try clear hx1
          try clear c2
          try clear p2
          try clear c3
          try clear p3
          try clear q3
          try clear hx3
          try clear hf3
          try clear c5
          try clear c5b0
          try clear p6
          try clear c7
          try clear c7b0
          try clear c9
          try clear c9b0
          try clear c10
          try clear c10b0
          try clear p10
          try clear q10
          try clear hx10
          try clear c11
          try clear c11b0
          try clear c11b1
          try clear c17
          try clear c17b0
          try clear c17b1
          try clear c21
          try clear c21b0
          try clear c21b1
          try clear c23
          try clear c23b0
          try clear c26
          try clear c26b0
          try clear c27
          try clear c27b0
          try clear c28
          try clear c28b0
          try clear c29
          try clear c29b0
          try clear p30
          try clear q30
          try clear hx30
          try clear hf30
          try clear p31
          try clear q31
          try clear hx31
          try clear hf31
          try clear hcz12_0
          try clear hcz12_1
          try clear hcz12_2
          try clear hcz14_0
          try clear hcz14_1
          try clear hcz14_2
          try clear hcz16_0
          try clear hcz16_1
          try clear hcz16_2
          try clear hcz18_0
          try clear hcz18_1
          try clear hcz18_2
          try clear hcz20_0
          try clear hcz20_1
          try clear hcz20_2
          try clear hcz22_0
          try clear hcz22_1
          try clear hcz22_2
          try clear hcz4_0
          try clear hcz4_1
          try clear hcz4_2
          try clear hfz12_0
          try clear hfz12_1
          try clear hfz12_2
          try clear hfz14_0
          try clear hfz14_1
          try clear hfz14_2
          try clear hfz16_0
          try clear hfz16_1
          try clear hfz16_2
          try clear hfz18_0
          try clear hfz18_1
          try clear hfz18_2
          try clear hfz20_0
          try clear hfz20_1
          try clear hfz20_2
          try clear hfz22_0
          try clear hfz22_1
          try clear hfz22_2
          try clear hfz4_0
          try clear hfz4_1
          try clear hfz4_2
          try clear hx103_0
          try clear hx106_0
          try clear hx107_0
          try clear hx30_0
          try clear hx31_0
          try clear p1
          try clear p10
          try clear p103
          try clear p106
          try clear p107
          try clear p2
          try clear p3
          try clear p30
          try clear p31
          try clear p6
          try clear q1
          try clear q10
          try clear q103
          try clear q106
          try clear q107
          try clear q3
          try clear q30
          try clear q31
          obtain ⟨x10_4, x102002_4, rfl, HA, HK4, HO_102002, BK101, HK, HB⟩ := hrel
          have hl102002_4 := (Kd.R_reads' HO_102002.out).1
          rw [hl102002_4] at HO_102002
          (try simp only [hl102002_4])
          (try simp only [hl102002_4] at BK101)
          cases gk with
          | zero => exact absurd HA.out (by simp [impl_determinant.l3])
          | succ k4 =>
           have H := HA.out
           clear HA
           simp only [impl_determinant.l3] at H
           by_cases c38 : x10_4 < a0_0
           ·rw [if_pos c38] at H
            have c38b0 : decide (x10_4 < a0_0) = true := decide_eq_true c38
            clear c38
            have H' := am_ H
            clear H
            have hcz39_0 : wr.cell? ⟨gb101, 0, none⟩ = some (.int .i64 a0_0) := bc_ BK101 0
            have hcz39_1 : wr.cell? ⟨gb101, 1, none⟩ = some (.int .i64 a0_1) := bc_ BK101 1
            have hcz39_2 : wr.cell? ⟨gb101, 2, none⟩ = some (.slice Ao2 x102002_4.length co2) := bc_ BK101 2
            have hfz39_0 := blk_frozen BK101.out 0
            have hfz39_1 := blk_frozen BK101.out 1
            have hfz39_2 := blk_frozen BK101.out 2
            go_wp2
            go_loopg [11] k4 (fun kq v11 w' => ∃ (x11_5 : Int) (x102002_5 : List Int), v11 = .int .i64 x11_5 ∧ Aside0 (impl_determinant.l4 kq x3_18 x4_1 x14_1 x10_4 x11_5 a0_0 x14_1 a0_0 a0_1 x102002_5 = some (r1, r2)) ∧ Aside0 (kq ≤ k4) ∧ Aside0 (Kd.R (Kd.int .i64) 2 w' w0.heap.size (fun k_ => (P0_2_ k_ ∨ w.heap.size ≤ k_)) (.slice Ao2 x102002_4.length co2) x102002_5) ∧ Aside0 (w'.heap[gb101]? = some (.cells #[.int .i64 a0_0, .int .i64 a0_1, (.slice Ao2 x102002_4.length co2)] 28 (0, 0))) ∧ Aside0 (Kept w w' (fun k_ => P0_2_ k_)) ∧ Aside0 (Below w0.heap.size w0 w'))
            case atStart => exact ⟨(wrap64 (x14_1 + 1)), (x102002_4), (by first | rfl | (simp; done) | (simp [*]; done)), H', ⟨Nat.le_refl _⟩, ⟨by (try simp only [hl102002_1]); (try simp only [hl102002_18]); (try simp only [hl102002_4]); (with_reducible repeat (first | apply Kd.R_alloc | apply Kd.R_drewN | apply Kd.R_drew)); exact HO_102002.out⟩, ⟨by (try simp only [hl102002_1]); (try simp only [hl102002_18]); (try simp only [hl102002_4]); (with_reducible repeat (first | refine blk_drewN ?_ _ | refine blk_drew ?_ | refine blk_alloc ?_ _)); exact BK101.out⟩, ⟨by repeat (first | (with_reducible first | exact HK.out | apply Kept.alloc | apply Kept.drewN | apply Kept.drew | refine Kept.setCell ?_ (.inr GW101.out) _) | exact HK.out)⟩, ⟨bb_ HB.out⟩⟩
            case round =>
             clear H'
             try clear c1
             try clear p1
             try clear q1
             try clear hx1
             try clear c2
             try clear p2
             try clear c3
             try clear p3
             try clear q3
             try clear hx3
             try clear hf3
             try clear c5
             try clear c5b0
             try clear p6
             try clear c7
             try clear c7b0
             try clear c9
             try clear c9b0
             try clear c10
             try clear c10b0
             try clear p10
             try clear q10
             try clear hx10
             try clear c11
             try clear c11b0
             try clear c11b1
             try clear c17
             try clear c17b0
             try clear c17b1
             try clear c21
             try clear c21b0
             try clear c21b1
             try clear c23
             try clear c23b0
             try clear c26
             try clear c26b0
             try clear c27
             try clear c27b0
             try clear c28
             try clear c28b0
             try clear c29
             try clear c29b0
             try clear p30
             try clear q30
             try clear hx30
             try clear hf30
             try clear p31
             try clear q31
             try clear hx31
             try clear hf31
             try clear c38
             try clear c38b0
             try clear hcz12_0
             try clear hcz12_1
             try clear hcz12_2
             try clear hcz14_0
             try clear hcz14_1
             try clear hcz14_2
             try clear hcz16_0
             try clear hcz16_1
             try clear hcz16_2
             try clear hcz18_0
             try clear hcz18_1
             try clear hcz18_2
             try clear hcz20_0
             try clear hcz20_1
             try clear hcz20_2
             try clear hcz22_0
             try clear hcz22_1
             try clear hcz22_2
             try clear hcz39_0
             try clear hcz39_1
             try clear hcz39_2
             try clear hcz4_0
             try clear hcz4_1
             try clear hcz4_2
             try clear hfz12_0
             try clear hfz12_1
             try clear hfz12_2
             try clear hfz14_0
             try clear hfz14_1
             try clear hfz14_2
             try clear hfz16_0
             try clear hfz16_1
             try clear hfz16_2
             try clear hfz18_0
             try clear hfz18_1
             try clear hfz18_2
             try clear hfz20_0
             try clear hfz20_1
             try clear hfz20_2
             try clear hfz22_0
             try clear hfz22_1
             try clear hfz22_2
             try clear hfz39_0
             try clear hfz39_1
             try clear hfz39_2
             try clear hfz4_0
             try clear hfz4_1
             try clear hfz4_2
             try clear hx103_0
             try clear hx106_0
             try clear hx107_0
             try clear hx30_0
             try clear hx31_0
             try clear p1
             try clear p10
             try clear p103
             try clear p106
             try clear p107
             try clear p2
             try clear p3
             try clear p30
             try clear p31
             try clear p6
             try clear q1
             try clear q10
             try clear q103
             try clear q106
             try clear q107
             try clear q3
             try clear q30
             try clear q31
             obtain ⟨x11_5, x102002_5, rfl, HA, HK5, HO_102002, BK101, HK, HB⟩ := hrel
             have hl102002_5 := (Kd.R_reads' HO_102002.out).1
             rw [hl102002_5] at HO_102002
             (try simp only [hl102002_5])
             (try simp only [hl102002_5] at BK101)
             cases gk with
             | zero => exact absurd HA.out (by simp [impl_determinant.l4])
             | succ k5 =>
              have H := HA.out
              clear HA
              simp only [impl_determinant.l4] at H
              by_cases c40 : x11_5 < a0_1
              ·rw [if_pos c40] at H
               have c40b0 : decide (x11_5 < a0_1) = true := decide_eq_true c40
               clear c40
               replace H := Option.bind_eq_some_iff.mp H
               obtain ⟨t112, A410, H⟩ := H
               replace H : ((impl_Matrix_at.f a0_0 a0_1 x102002_5 x10_4 x11_5).bind fun t113 => (if 0 ≤ t113 then (if t113 < (x102002_5.length : Int) then ((impl_Matrix_at.f a0_0 a0_1 x102002_5 x14_1 x14_1).bind fun t115 => (if 0 ≤ t115 then (if t115 < (x102002_5.length : Int) then ((impl_Matrix_at.f a0_0 a0_1 x102002_5 x10_4 x14_1).bind fun t117 => (if 0 ≤ t117 then (if t117 < (x102002_5.length : Int) then ((impl_Matrix_at.f a0_0 a0_1 x102002_5 x14_1 x11_5).bind fun t119 => (if 0 ≤ t119 then (if t119 < (x102002_5.length : Int) then (if x4_1 = 0 then (none) else (if 0 ≤ t112 then (if t112 < (x102002_5.length : Int) then (impl_determinant.l4 k5 x3_18 x4_1 x14_1 x10_4 (wrap64 (x11_5 + 1)) a0_0 x14_1 a0_0 a0_1 (x102002_5.set (t112 : Int).toNat (wrap64 (Int.tdiv (wrap64 ((wrap64 ((rd x102002_5 t113) * (rd x102002_5 t115))) - (wrap64 ((rd x102002_5 t117) * (rd x102002_5 t119))))) x4_1)))) else (none)) else (none))) else (none)) else (none))) else (none)) else (none))) else (none)) else (none))) else (none)) else (none))) = some (r1, r2) := H
               have A41 := am_ A410
               clear A410
               replace H := Option.bind_eq_some_iff.mp H
               obtain ⟨t113, A420, H⟩ := H
               replace H : (if 0 ≤ t113 then (if t113 < (x102002_5.length : Int) then ((impl_Matrix_at.f a0_0 a0_1 x102002_5 x14_1 x14_1).bind fun t115 => (if 0 ≤ t115 then (if t115 < (x102002_5.length : Int) then ((impl_Matrix_at.f a0_0 a0_1 x102002_5 x10_4 x14_1).bind fun t117 => (if 0 ≤ t117 then (if t117 < (x102002_5.length : Int) then ((impl_Matrix_at.f a0_0 a0_1 x102002_5 x14_1 x11_5).bind fun t119 => (if 0 ≤ t119 then (if t119 < (x102002_5.length : Int) then (if x4_1 = 0 then (none) else (if 0 ≤ t112 then (if t112 < (x102002_5.length : Int) then (impl_determinant.l4 k5 x3_18 x4_1 x14_1 x10_4 (wrap64 (x11_5 + 1)) a0_0 x14_1 a0_0 a0_1 (x102002_5.set (t112 : Int).toNat (wrap64 (Int.tdiv (wrap64 ((wrap64 ((rd x102002_5 t113) * (rd x102002_5 t115))) - (wrap64 ((rd x102002_5 t117) * (rd x102002_5 t119))))) x4_1)))) else (none)) else (none))) else (none)) else (none))) else (none)) else (none))) else (none)) else (none))) else (none)) else (none)) = some (r1, r2) := H
               have A42 := am_ A420
               clear A420
               by_cases c43 : 0 ≤ t113
               ·rw [if_pos c43] at H
                have c43b0 : decide (0 ≤ t113) = true := decide_eq_true c43
                clear c43
                by_cases c44 : t113 < (x102002_5.length : Int)
                ·rw [if_pos c44] at H
                 have c44b0 : decide (t113 < (x102002_5.length : Int)) = true := decide_eq_true c44
                 clear c44
                 replace H := Option.bind_eq_some_iff.mp H
                 obtain ⟨t115, A450, H⟩ := H
                 replace H : (if 0 ≤ t115 then (if t115 < (x102002_5.length : Int) then ((impl_Matrix_at.f a0_0 a0_1 x102002_5 x10_4 x14_1).bind fun t117 => (if 0 ≤ t117 then (if t117 < (x102002_5.length : Int) then ((impl_Matrix_at.f a0_0 a0_1 x102002_5 x14_1 x11_5).bind fun t119 => (if 0 ≤ t119 then (if t119 < (x102002_5.length : Int) then (if x4_1 = 0 then (none) else (if 0 ≤ t112 then (if t112 < (x102002_5.length : Int) then (impl_determinant.l4 k5 x3_18 x4_1 x14_1 x10_4 (wrap64 (x11_5 + 1)) a0_0 x14_1 a0_0 a0_1 (x102002_5.set (t112 : Int).toNat (wrap64 (Int.tdiv (wrap64 ((wrap64 ((rd x102002_5 t113) * (rd x102002_5 t115))) - (wrap64 ((rd x102002_5 t117) * (rd x102002_5 t119))))) x4_1)))) else (none)) else (none))) else (none)) else (none))) else (none)) else (none))) else (none)) else (none)) = some (r1, r2) := H
                 have A45 := am_ A450
                 clear A450
                 by_cases c46 : 0 ≤ t115
                 ·rw [if_pos c46] at H
                  have c46b0 : decide (0 ≤ t115) = true := decide_eq_true c46
                  clear c46
                  by_cases c47 : t115 < (x102002_5.length : Int)
                  ·rw [if_pos c47] at H
                   have c47b0 : decide (t115 < (x102002_5.length : Int)) = true := decide_eq_true c47
                   clear c47
                   replace H := Option.bind_eq_some_iff.mp H
                   obtain ⟨t117, A480, H⟩ := H
                   replace H : (if 0 ≤ t117 then (if t117 < (x102002_5.length : Int) then ((impl_Matrix_at.f a0_0 a0_1 x102002_5 x14_1 x11_5).bind fun t119 => (if 0 ≤ t119 then (if t119 < (x102002_5.length : Int) then (if x4_1 = 0 then (none) else (if 0 ≤ t112 then (if t112 < (x102002_5.length : Int) then (impl_determinant.l4 k5 x3_18 x4_1 x14_1 x10_4 (wrap64 (x11_5 + 1)) a0_0 x14_1 a0_0 a0_1 (x102002_5.set (t112 : Int).toNat (wrap64 (Int.tdiv (wrap64 ((wrap64 ((rd x102002_5 t113) * (rd x102002_5 t115))) - (wrap64 ((rd x102002_5 t117) * (rd x102002_5 t119))))) x4_1)))) else (none)) else (none))) else (none)) else (none))) else (none)) else (none)) = some (r1, r2) := H
                   have A48 := am_ A480
                   clear A480
                   by_cases c49 : 0 ≤ t117
                   ·rw [if_pos c49] at H
                    have c49b0 : decide (0 ≤ t117) = true := decide_eq_true c49
                    clear c49
                    by_cases c50 : t117 < (x102002_5.length : Int)
                    ·rw [if_pos c50] at H
                     have c50b0 : decide (t117 < (x102002_5.length : Int)) = true := decide_eq_true c50
                     clear c50
                     replace H := Option.bind_eq_some_iff.mp H
                     obtain ⟨t119, A510, H⟩ := H
                     replace H : (if 0 ≤ t119 then (if t119 < (x102002_5.length : Int) then (if x4_1 = 0 then (none) else (if 0 ≤ t112 then (if t112 < (x102002_5.length : Int) then (impl_determinant.l4 k5 x3_18 x4_1 x14_1 x10_4 (wrap64 (x11_5 + 1)) a0_0 x14_1 a0_0 a0_1 (x102002_5.set (t112 : Int).toNat (wrap64 (Int.tdiv (wrap64 ((wrap64 ((rd x102002_5 t113) * (rd x102002_5 t115))) - (wrap64 ((rd x102002_5 t117) * (rd x102002_5 t119))))) x4_1)))) else (none)) else (none))) else (none)) else (none)) = some (r1, r2) := H
                     have A51 := am_ A510
                     clear A510
                     by_cases c52 : 0 ≤ t119
                     ·rw [if_pos c52] at H
                      have c52b0 : decide (0 ≤ t119) = true := decide_eq_true c52
                      clear c52
                      by_cases c53 : t119 < (x102002_5.length : Int)
                      ·rw [if_pos c53] at H
                       have c53b0 : decide (t119 < (x102002_5.length : Int)) = true := decide_eq_true c53
                       clear c53
                       by_cases c54 : x4_1 = 0
                       ·rw [if_pos c54] at H
                        exact absurd H (by simp)
                       ·rw [if_neg c54] at H
                        have c54b0 : (x4_1 == 0) = false := beq_eq_false_iff_ne.mpr c54
                        have c54b1 : (x4_1 != 0) = true := bne_iff_ne.mpr c54
                        by_cases c55 : 0 ≤ t112
                        ·rw [if_pos c55] at H
                         have c55b0 : decide (0 ≤ t112) = true := decide_eq_true c55
                         clear c55
                         by_cases c56 : t112 < (x102002_5.length : Int)
                         ·rw [if_pos c56] at H
                          have c56b0 : decide (t112 < (x102002_5.length : Int)) = true := decide_eq_true c56
                          clear c56
                          obtain ⟨y121, hy121⟩ : ∃ y_ : List Int, y_ = (x102002_5.set (t112 : Int).toNat (wrap64 (Int.tdiv (wrap64 ((wrap64 ((rd x102002_5 t113) * (rd x102002_5 t115))) - (wrap64 ((rd x102002_5 t117) * (rd x102002_5 t119))))) x4_1))) := ⟨_, rfl⟩
                          replace H : (impl_determinant.l4 k5 x3_18 x4_1 x14_1 x10_4 (wrap64 (x11_5 + 1)) a0_0 x14_1 a0_0 a0_1 y121) = some (r1, r2) := by first | (rw [hy121]; with_reducible exact H) | (have H2_ := (Option.bind_some _ _).symm.trans H; rw [hy121]; with_reducible exact H2_) | (have H2_ := (Option.bind_some _ _).symm.trans H; with_reducible exact H2_) | with_reducible exact H | (rw [hy121]; exact H) | exact H
                          have Ny121 := am_ hy121
                          clear hy121
                          have H' := am_ H
                          clear H
                          have hcz58_0 : wr.cell? ⟨gb101, 0, none⟩ = some (.int .i64 a0_0) := bc_ BK101 0
                          have hcz58_1 : wr.cell? ⟨gb101, 1, none⟩ = some (.int .i64 a0_1) := bc_ BK101 1
                          have hcz58_2 : wr.cell? ⟨gb101, 2, none⟩ = some (.slice Ao2 x102002_5.length co2) := bc_ BK101 2
                          have hfz58_0 := blk_frozen BK101.out 0
                          have hfz58_1 := blk_frozen BK101.out 1
                          have hfz58_2 := blk_frozen BK101.out 2
                          try go_wp2
                          have n0_ := am_ (Kd.R_drew HO_102002.out)
                          have n1_ := am_ (blk_drew BK101.out)
                          have n2_ := am_ (Kept.drew HK.out)
                          have n3_ := am_ (below_drew1 HB.out)
                          clear HO_102002 BK101 HK HB; revert n0_ n1_ n2_ n3_; intro HO_102002 BK101 HK HB
                          have p114 : 0 ≤ (t113 : Int) := of_decide_eq_true (by first | (with_reducible assumption) | assumption)
                          have q114 : t113 < (x102002_5.length : Int) := of_decide_eq_true (by first | (with_reducible assumption) | assumption)
                          obtain ⟨ad114, e114, hx114_0⟩ := Kd.at_int (Kd.R_reads' HO_102002.out).2.2 t113 p114 q114
                          cases e114
                          replace p114 := eq_true p114
                          replace q114 := eq_true q114
                          have p116 : 0 ≤ (t115 : Int) := of_decide_eq_true (by first | (with_reducible assumption) | assumption)
                          have q116 : t115 < (x102002_5.length : Int) := of_decide_eq_true (by first | (with_reducible assumption) | assumption)
                          obtain ⟨ad116, e116, hx116_0⟩ := Kd.at_int (Kd.R_reads' HO_102002.out).2.2 t115 p116 q116
                          obtain rfl : ad114 = ad116 := (by injection e116)
                          replace p116 := eq_true p116
                          replace q116 := eq_true q116
                          have p118 : 0 ≤ (t117 : Int) := of_decide_eq_true (by first | (with_reducible assumption) | assumption)
                          have q118 : t117 < (x102002_5.length : Int) := of_decide_eq_true (by first | (with_reducible assumption) | assumption)
                          obtain ⟨ad118, e118, hx118_0⟩ := Kd.at_int (Kd.R_reads' HO_102002.out).2.2 t117 p118 q118
                          obtain rfl : ad114 = ad118 := (by injection e118)
                          replace p118 := eq_true p118
                          replace q118 := eq_true q118
                          have p120 : 0 ≤ (t119 : Int) := of_decide_eq_true (by first | (with_reducible assumption) | assumption)
                          have q120 : t119 < (x102002_5.length : Int) := of_decide_eq_true (by first | (with_reducible assumption) | assumption)
                          obtain ⟨ad120, e120, hx120_0⟩ := Kd.at_int (Kd.R_reads' HO_102002.out).2.2 t119 p120 q120
                          obtain rfl : ad114 = ad120 := (by injection e120)
                          replace p120 := eq_true p120
                          replace q120 := eq_true q120
                          refine start_ (n := 35) (S := fun w' => w'.cell? ⟨gb101, 0, none⟩ = some (.int .i64 a0_0) ∧ w'.cell? ⟨gb101, 1, none⟩ = some (.int .i64 a0_1) ∧ w'.cell? ⟨gb101, 2, none⟩ = some (.slice (some ad114) x102002_5.length co2) ∧ w'.cell? (ad114.add (t113).toNat) = some (.int .i64 (rd x102002_5 t113)) ∧ w'.cell? (ad114.add (t115).toNat) = some (.int .i64 (rd x102002_5 t115)) ∧ w'.cell? (ad114.add (t117).toNat) = some (.int .i64 (rd x102002_5 t117)) ∧ w'.cell? (ad114.add (t119).toNat) = some (.int .i64 (rd x102002_5 t119))) (ds := [34]) #[false, false, false, false, false, false, false, false, false, false, false, false, false, false, false, false, false, false, false, false, false, false, false, false, false, false, false, false, false, false, false, false, false, false, false] (by kernel_rfl) rfl rfl ⟨bc_ BK101 0, bc_ BK101 1, bc_ BK101 2, hx114_0, hx116_0, hx118_0, hx120_0⟩ (fun hHeld => ?_); refine with_tabW impl_determinant.tab24 impl_determinant.bits24 (fun HT_ HW_ => ?_)
                          generalize wr.drew = w59 at HO_102002 BK101 HK HB hx114_0 hx116_0 hx118_0 hx120_0 hHeld ⊢
                          refine pure_ (i := 1) (N := some 83) (v := ?_) (a' := ?_) #[false, true, false, false, false, false, false, false, false, false, false, false, false, false, false, false, false, false, false, false, false, false, false, false, false, false, false, false, false, false, false, false, false, false, false] rfl rfl (any_of HT_.out (by kernel_rfl)) (fun _ _ _ h => h) (Or.inl ⟨by rfl, ?_⟩) ?_ ?_
                          rotate_left
                          ·intro w'
                           go_simp
                           with_reducible rfl
                          rotate_left
                          ·simp only [Act.put, List.setIfInBounds_toArray, List.set_cons_zero, List.set_cons_succ, i64_w, i32_w]
                           rfl
                          refine pure_ (i := 2) (N := some 84) (v := ?_) (a' := ?_) #[false, true, true, false, false, false, false, false, false, false, false, false, false, false, false, false, false, false, false, false, false, false, false, false, false, false, false, false, false, false, false, false, false, false, false] rfl rfl (any_of HT_.out (by kernel_rfl)) (fun _ _ _ h => h) (Or.inl ⟨by rfl, ?_⟩) ?_ ?_
                          rotate_left
                          ·intro w'
                           go_simp
                           with_reducible rfl
                          rotate_left
                          ·simp only [Act.put, List.setIfInBounds_toArray, List.set_cons_zero, List.set_cons_succ, i64_w, i32_w]
                           rfl
                          refine pure_ (i := 5) (N := some 87) (v := ?_) (a' := ?_) #[false, true, true, false, false, true, false, false, false, false, false, false, false, false, false, false, false, false, false, false, false, false, false, false, false, false, false, false, false, false, false, false, false, false, false] rfl rfl (any_of HT_.out (by kernel_rfl)) (fun _ _ _ h => h) (Or.inl ⟨by rfl, ?_⟩) ?_ ?_
                          rotate_left
                          ·intro w'
                           go_simp
                           with_reducible rfl
                          rotate_left
                          ·simp only [Act.put, List.setIfInBounds_toArray, List.set_cons_zero, List.set_cons_succ, i64_w, i32_w]
                           rfl
                          refine pure_ (i := 6) (N := some 88) (v := ?_) (a' := ?_) #[false, true, true, false, false, true, true, false, false, false, false, false, false, false, false, false, false, false, false, false, false, false, false, false, false, false, false, false, false, false, false, false, false, false, false] rfl rfl (any_of HT_.out (by kernel_rfl)) (fun _ _ _ h => h) (Or.inl ⟨by rfl, ?_⟩) ?_ ?_
                          rotate_left
                          ·intro w'
                           go_simp
                           with_reducible rfl
                          rotate_left
                          ·simp only [Act.put, List.setIfInBounds_toArray, List.set_cons_zero, List.set_cons_succ, i64_w, i32_w]
                           rfl
                          refine pure_ (i := 11) (N := some 93) (v := ?_) (a' := ?_) #[false, true, true, false, false, true, true, false, false, false, false, true, false, false, false, false, false, false, false, false, false, false, false, false, false, false, false, false, false, false, false, false, false, false, false] rfl rfl (any_of HT_.out (by kernel_rfl)) (fun _ _ _ h => h) (Or.inl ⟨by rfl, ?_⟩) ?_ ?_
                          rotate_left
                          ·intro w'
                           go_simp
                           with_reducible rfl
                          rotate_left
                          ·simp only [Act.put, List.setIfInBounds_toArray, List.set_cons_zero, List.set_cons_succ, i64_w, i32_w]
                           rfl
                          refine pure_ (i := 12) (N := some 94) (v := ?_) (a' := ?_) #[false, true, true, false, false, true, true, false, false, false, false, true, true, false, false, false, false, false, false, false, false, false, false, false, false, false, false, false, false, false, false, false, false, false, false] rfl rfl (any_of HT_.out (by kernel_rfl)) (fun _ _ _ h => h) (Or.inl ⟨by rfl, ?_⟩) ?_ ?_
                          rotate_left
                          ·intro w'
                           go_simp
                           with_reducible rfl
                          rotate_left
                          ·simp only [Act.put, List.setIfInBounds_toArray, List.set_cons_zero, List.set_cons_succ, i64_w, i32_w]
                           rfl
                          refine pure_ (i := 18) (N := some 100) (v := ?_) (a' := ?_) #[false, true, true, false, false, true, true, false, false, false, false, true, true, false, false, false, false, false, true, false, false, false, false, false, false, false, false, false, false, false, false, false, false, false, false] rfl rfl (any_of HT_.out (by kernel_rfl)) (fun _ _ _ h => h) (Or.inl ⟨by rfl, ?_⟩) ?_ ?_
                          rotate_left
                          ·intro w'
                           go_simp
                           with_reducible rfl
                          rotate_left
                          ·simp only [Act.put, List.setIfInBounds_toArray, List.set_cons_zero, List.set_cons_succ, i64_w, i32_w]
                           rfl
                          refine pure_ (i := 19) (N := some 101) (v := ?_) (a' := ?_) #[false, true, true, false, false, true, true, false, false, false, false, true, true, false, false, false, false, false, true, true, false, false, false, false, false, false, false, false, false, false, false, false, false, false, false] rfl rfl (any_of HT_.out (by kernel_rfl)) (fun _ _ _ h => h) (Or.inl ⟨by rfl, ?_⟩) ?_ ?_
                          rotate_left
                          ·intro w'
                           go_simp
                           with_reducible rfl
                          rotate_left
                          ·simp only [Act.put, List.setIfInBounds_toArray, List.set_cons_zero, List.set_cons_succ, i64_w, i32_w]
                           rfl
                          refine pure_ (i := 24) (N := some 106) (v := ?_) (a' := ?_) #[false, true, true, false, false, true, true, false, false, false, false, true, true, false, false, false, false, false, true, true, false, false, false, false, true, false, false, false, false, false, false, false, false, false, false] rfl rfl (any_of HT_.out (by kernel_rfl)) (fun _ _ _ h => h) (Or.inl ⟨by rfl, ?_⟩) ?_ ?_
                          rotate_left
                          ·intro w'
                           go_simp
                           with_reducible rfl
                          rotate_left
                          ·simp only [Act.put, List.setIfInBounds_toArray, List.set_cons_zero, List.set_cons_succ, i64_w, i32_w]
                           rfl
                          refine pure_ (i := 25) (N := some 107) (v := ?_) (a' := ?_) #[false, true, true, false, false, true, true, false, false, false, false, true, true, false, false, false, false, false, true, true, false, false, false, false, true, true, false, false, false, false, false, false, false, false, false] rfl rfl (any_of HT_.out (by kernel_rfl)) (fun _ _ _ h => h) (Or.inl ⟨by rfl, ?_⟩) ?_ ?_
                          rotate_left
                          ·intro w'
                           go_simp
                           with_reducible rfl
                          rotate_left
                          ·simp only [Act.put, List.setIfInBounds_toArray, List.set_cons_zero, List.set_cons_succ, i64_w, i32_w]
                           rfl
                          refine pure_ (i := 31) (N := some 113) (v := ?_) (a' := ?_) #[false, true, true, false, false, true, true, false, false, false, false, true, true, false, false, false, false, false, true, true, false, false, false, false, true, true, false, false, false, false, false, true, false, false, false] rfl rfl (any_of HT_.out (by kernel_rfl)) (fun _ _ _ h => h) (Or.inl ⟨by rfl, ?_⟩) ?_ ?_
                          rotate_left
                          ·intro w'
                           go_simp
                           with_reducible rfl
                          rotate_left
                          ·simp only [Act.put, List.setIfInBounds_toArray, List.set_cons_zero, List.set_cons_succ, i64_w, i32_w]
                           rfl
                          refine take_ (i := 0) (N := some 82) (v := ?_) (a' := ?_) #[true, true, true, false, false, true, true, false, false, false, false, true, true, false, false, false, false, false, true, true, false, false, false, false, true, true, false, false, false, false, false, true, false, false, false] rfl rfl (take_ofW HT_.out HW_.out (by kernel_rfl)) (fun _ _ _ h => h) (Or.inl ⟨by rfl, ?_⟩) hHeld ?_ ?_
                          rotate_left
                          ·rintro w' ⟨s0, s1, s2, s3, s4, s5, s6⟩
                           (try simp only [add_plain] at s3 s4 s5 s6)
                           go_simp
                           with_reducible rfl
                          rotate_left
                          ·simp only [Act.put, List.setIfInBounds_toArray, List.set_cons_zero, List.set_cons_succ, i64_w, i32_w]
                           rfl
                          refine take_ (i := 4) (N := some 86) (v := ?_) (a' := ?_) #[true, true, true, false, true, true, true, false, false, false, false, true, true, false, false, false, false, false, true, true, false, false, false, false, true, true, false, false, false, false, false, true, false, false, false] rfl rfl (take_ofW HT_.out HW_.out (by kernel_rfl)) (fun _ _ _ h => h) (Or.inl ⟨by rfl, ?_⟩) hHeld ?_ ?_
                          rotate_left
                          ·rintro w' ⟨s0, s1, s2, s3, s4, s5, s6⟩
                           (try simp only [add_plain] at s3 s4 s5 s6)
                           go_simp
                           with_reducible rfl
                          rotate_left
                          ·simp only [Act.put, List.setIfInBounds_toArray, List.set_cons_zero, List.set_cons_succ, i64_w, i32_w]
                           rfl
                          refine take_ (i := 10) (N := some 92) (v := ?_) (a' := ?_) #[true, true, true, false, true, true, true, false, false, false, true, true, true, false, false, false, false, false, true, true, false, false, false, false, true, true, false, false, false, false, false, true, false, false, false] rfl rfl (take_ofW HT_.out HW_.out (by kernel_rfl)) (fun _ _ _ h => h) (Or.inl ⟨by rfl, ?_⟩) hHeld ?_ ?_
                          rotate_left
                          ·rintro w' ⟨s0, s1, s2, s3, s4, s5, s6⟩
                           (try simp only [add_plain] at s3 s4 s5 s6)
                           go_simp
                           with_reducible rfl
                          rotate_left
                          ·simp only [Act.put, List.setIfInBounds_toArray, List.set_cons_zero, List.set_cons_succ, i64_w, i32_w]
                           rfl
                          refine take_ (i := 17) (N := some 99) (v := ?_) (a' := ?_) #[true, true, true, false, true, true, true, false, false, false, true, true, true, false, false, false, false, true, true, true, false, false, false, false, true, true, false, false, false, false, false, true, false, false, false] rfl rfl (take_ofW HT_.out HW_.out (by kernel_rfl)) (fun _ _ _ h => h) (Or.inl ⟨by rfl, ?_⟩) hHeld ?_ ?_
                          rotate_left
                          ·rintro w' ⟨s0, s1, s2, s3, s4, s5, s6⟩
                           (try simp only [add_plain] at s3 s4 s5 s6)
                           go_simp
                           with_reducible rfl
                          rotate_left
                          ·simp only [Act.put, List.setIfInBounds_toArray, List.set_cons_zero, List.set_cons_succ, i64_w, i32_w]
                           rfl
                          refine take_ (i := 23) (N := some 105) (v := ?_) (a' := ?_) #[true, true, true, false, true, true, true, false, false, false, true, true, true, false, false, false, false, true, true, true, false, false, false, true, true, true, false, false, false, false, false, true, false, false, false] rfl rfl (take_ofW HT_.out HW_.out (by kernel_rfl)) (fun _ _ _ h => h) (Or.inl ⟨by rfl, ?_⟩) hHeld ?_ ?_
                          rotate_left
                          ·rintro w' ⟨s0, s1, s2, s3, s4, s5, s6⟩
                           (try simp only [add_plain] at s3 s4 s5 s6)
                           go_simp
                           with_reducible rfl
                          rotate_left
                          ·simp only [Act.put, List.setIfInBounds_toArray, List.set_cons_zero, List.set_cons_succ, i64_w, i32_w]
                           rfl
                          refine one_ (i := 3) (N := some 85) #[true, true, true, true, true, true, true, false, false, false, true, true, true, false, false, false, false, true, true, true, false, false, false, true, true, true, false, false, false, false, false, true, false, false, false] rfl rfl (one_of HT_.out (by kernel_rfl)) (by decide) (fun K hK => ?_)
                          refine goes_ Try.func38 (by kernel_rfl) rfl #[.agg #[.int .i64 a0_0, .int .i64 a0_1, .slice (some ad114) x102002_5.length co2], .int .i64 x10_4, .int .i64 x11_5] (by rfl) rfl rfl lm_ ?_
                          with_reducible refine (impl_Matrix_at.calls a0_0 a0_1 _ _ x102002_5 x10_4 x11_5 t112 _ ?side1 ?side2 A41.out).mono ?_
                          (case side1 => repeat (first | exact (Kd.R_reads' HO_102002.out).2.2 | (with_reducible refine Kd.C_alloc ?_ _) | (with_reducible refine Kd.C_drewN ?_ _) | (with_reducible refine Kd.C_drew ?_)))
                          (case side2 => exact (Kd.R_reads' HO_102002.out).2.1)
                          rintro e w60 ⟨rfl, hb⟩
                          have HS3_ := (hb.cell (World.block_lt_of_cell? _ _ (hHeld.2.2.2.1))).trans (hHeld.2.2.2.1)
                          have HS4_ := (hb.cell (World.block_lt_of_cell? _ _ (hHeld.2.2.2.2.1))).trans (hHeld.2.2.2.2.1)
                          have HS5_ := (hb.cell (World.block_lt_of_cell? _ _ (hHeld.2.2.2.2.2.1))).trans (hHeld.2.2.2.2.2.1)
                          have HS6_ := (hb.cell (World.block_lt_of_cell? _ _ (hHeld.2.2.2.2.2.2))).trans (hHeld.2.2.2.2.2.2)
                          refine ⟨_, rfl, ?_⟩
                          have n0_ := am_ (Kd.R_below (rk_ HO_102002.out) hb)
                          have n1_ := am_ (bw_ BK101 hb)
                          have n2_ := am_ (Kept.below (S := (fun k_ => P0_2_ k_)) (by repeat (first | (with_reducible first | exact HK.out | apply Kept.alloc | apply Kept.drewN | apply Kept.drew | refine Kept.setCell ?_ (.inr GW101.out) _) | exact HK.out)) hb)
                          have n3_ := am_ (below_step (bb_ HB.out) hb)
                          clear HO_102002 BK101 HK HB; revert n0_ n1_ n2_ n3_; intro HO_102002 BK101 HK HB
                          (try clear hb)
                          (try clear hb2)
                          (try clear hk)
                          (try clear hi)
                          refine hK.out _ _ ⟨bc_ BK101 0, bc_ BK101 1, bc_ BK101 2, HS3_, HS4_, HS5_, HS6_⟩ (fun hHeld => ?_)
                          clear hK K
                          refine norm_ (a' := ?_) ?_ ?_
                          rotate_left
                          ·show Act.put _ (some 85) _ = _
                           simp only [Act.put, List.setIfInBounds_toArray, List.set_cons_zero, List.set_cons_succ, i64_w, i32_w]
                           rfl
                          refine one_ (i := 7) (N := some 89) #[true, true, true, true, true, true, true, true, false, false, true, true, true, false, false, false, false, true, true, true, false, false, false, true, true, true, false, false, false, false, false, true, false, false, false] rfl rfl (one_of HT_.out (by kernel_rfl)) (by decide) (fun K hK => ?_)
                          refine goes_ Try.func38 (by kernel_rfl) rfl #[.agg #[.int .i64 a0_0, .int .i64 a0_1, .slice (some ad114) x102002_5.length co2], .int .i64 x10_4, .int .i64 x11_5] (by rfl) rfl rfl lm_ ?_
                          with_reducible refine (impl_Matrix_at.calls a0_0 a0_1 _ _ x102002_5 x10_4 x11_5 t113 _ ?side1 ?side2 A42.out).mono ?_
                          (case side1 => repeat (first | exact (Kd.R_reads' HO_102002.out).2.2 | (with_reducible refine Kd.C_alloc ?_ _) | (with_reducible refine Kd.C_drewN ?_ _) | (with_reducible refine Kd.C_drew ?_)))
                          (case side2 => exact (Kd.R_reads' HO_102002.out).2.1)
                          rintro e w61 ⟨rfl, hb⟩
                          have HS3_ := (hb.cell (World.block_lt_of_cell? _ _ (hHeld.2.2.2.1))).trans (hHeld.2.2.2.1)
                          have HS4_ := (hb.cell (World.block_lt_of_cell? _ _ (hHeld.2.2.2.2.1))).trans (hHeld.2.2.2.2.1)
                          have HS5_ := (hb.cell (World.block_lt_of_cell? _ _ (hHeld.2.2.2.2.2.1))).trans (hHeld.2.2.2.2.2.1)
                          have HS6_ := (hb.cell (World.block_lt_of_cell? _ _ (hHeld.2.2.2.2.2.2))).trans (hHeld.2.2.2.2.2.2)
                          refine ⟨_, rfl, ?_⟩
                          have n0_ := am_ (Kd.R_below (rk_ HO_102002.out) hb)
                          have n1_ := am_ (bw_ BK101 hb)
                          have n2_ := am_ (Kept.below (S := (fun k_ => P0_2_ k_)) (by repeat (first | (with_reducible first | exact HK.out | apply Kept.alloc | apply Kept.drewN | apply Kept.drew | refine Kept.setCell ?_ (.inr GW101.out) _) | exact HK.out)) hb)
                          have n3_ := am_ (below_step (bb_ HB.out) hb)
                          clear HO_102002 BK101 HK HB; revert n0_ n1_ n2_ n3_; intro HO_102002 BK101 HK HB
                          (try clear hb)
                          (try clear hb2)
                          (try clear hk)
                          (try clear hi)
                          refine hK.out _ _ ⟨bc_ BK101 0, bc_ BK101 1, bc_ BK101 2, HS3_, HS4_, HS5_, HS6_⟩ (fun hHeld => ?_)
                          clear hK K
                          refine norm_ (a' := ?_) ?_ ?_
                          rotate_left
                          ·show Act.put _ (some 89) _ = _
                           simp only [Act.put, List.setIfInBounds_toArray, List.set_cons_zero, List.set_cons_succ, i64_w, i32_w]
                           rfl
                          refine pure_ (i := 8) (N := some 90) (v := ?_) (a' := ?_) #[true, true, true, true, true, true, true, true, true, false, true, true, true, false, false, false, false, true, true, true, false, false, false, true, true, true, false, false, false, false, false, true, false, false, false] rfl rfl (any_of HT_.out (by kernel_rfl)) (fun _ _ _ h => h) (Or.inl ⟨by rfl, ?_⟩) ?_ ?_
                          rotate_left
                          ·intro w'
                           go_simp
                           with_reducible rfl
                          rotate_left
                          ·simp only [Act.put, List.setIfInBounds_toArray, List.set_cons_zero, List.set_cons_succ, i64_w, i32_w]
                           rfl
                          refine take_ (i := 9) (N := some 91) (v := ?_) (a' := ?_) #[true, true, true, true, true, true, true, true, true, true, true, true, true, false, false, false, false, true, true, true, false, false, false, true, true, true, false, false, false, false, false, true, false, false, false] rfl rfl (take_ofW HT_.out HW_.out (by kernel_rfl)) (fun _ _ _ h => h) (Or.inl ⟨by rfl, ?_⟩) hHeld ?_ ?_
                          rotate_left
                          ·rintro w' ⟨s0, s1, s2, s3, s4, s5, s6⟩
                           (try simp only [add_plain] at s3 s4 s5 s6)
                           go_simp
                           with_reducible rfl
                          rotate_left
                          ·simp only [Act.put, List.setIfInBounds_toArray, List.set_cons_zero, List.set_cons_succ, i64_w, i32_w]
                           rfl
                          refine one_ (i := 13) (N := some 95) #[true, true, true, true, true, true, true, true, true, true, true, true, true, true, false, false, false, true, true, true, false, false, false, true, true, true, false, false, false, false, false, true, false, false, false] rfl rfl (one_of HT_.out (by kernel_rfl)) (by decide) (fun K hK => ?_)
                          refine goes_ Try.func38 (by kernel_rfl) rfl #[.agg #[.int .i64 a0_0, .int .i64 a0_1, .slice (some ad114) x102002_5.length co2], .int .i64 x14_1, .int .i64 x14_1] (by rfl) rfl rfl lm_ ?_
                          with_reducible refine (impl_Matrix_at.calls a0_0 a0_1 _ _ x102002_5 x14_1 x14_1 t115 _ ?side1 ?side2 A45.out).mono ?_
                          (case side1 => repeat (first | exact (Kd.R_reads' HO_102002.out).2.2 | (with_reducible refine Kd.C_alloc ?_ _) | (with_reducible refine Kd.C_drewN ?_ _) | (with_reducible refine Kd.C_drew ?_)))
                          (case side2 => exact (Kd.R_reads' HO_102002.out).2.1)
                          rintro e w62 ⟨rfl, hb⟩
                          have HS3_ := (hb.cell (World.block_lt_of_cell? _ _ (hHeld.2.2.2.1))).trans (hHeld.2.2.2.1)
                          have HS4_ := (hb.cell (World.block_lt_of_cell? _ _ (hHeld.2.2.2.2.1))).trans (hHeld.2.2.2.2.1)
                          have HS5_ := (hb.cell (World.block_lt_of_cell? _ _ (hHeld.2.2.2.2.2.1))).trans (hHeld.2.2.2.2.2.1)
                          have HS6_ := (hb.cell (World.block_lt_of_cell? _ _ (hHeld.2.2.2.2.2.2))).trans (hHeld.2.2.2.2.2.2)
                          refine ⟨_, rfl, ?_⟩
                          have n0_ := am_ (Kd.R_below (rk_ HO_102002.out) hb)
                          have n1_ := am_ (bw_ BK101 hb)
                          have n2_ := am_ (Kept.below (S := (fun k_ => P0_2_ k_)) (by repeat (first | (with_reducible first | exact HK.out | apply Kept.alloc | apply Kept.drewN | apply Kept.drew | refine Kept.setCell ?_ (.inr GW101.out) _) | exact HK.out)) hb)
                          have n3_ := am_ (below_step (bb_ HB.out) hb)
                          clear HO_102002 BK101 HK HB; revert n0_ n1_ n2_ n3_; intro HO_102002 BK101 HK HB
                          (try clear hb)
                          (try clear hb2)
                          (try clear hk)
                          (try clear hi)
                          refine hK.out _ _ ⟨bc_ BK101 0, bc_ BK101 1, bc_ BK101 2, HS3_, HS4_, HS5_, HS6_⟩ (fun hHeld => ?_)
                          clear hK K
                          refine norm_ (a' := ?_) ?_ ?_
                          rotate_left
                          ·show Act.put _ (some 95) _ = _
                           simp only [Act.put, List.setIfInBounds_toArray, List.set_cons_zero, List.set_cons_succ, i64_w, i32_w]
                           rfl
                          refine pure_ (i := 14) (N := some 96) (v := ?_) (a' := ?_) #[true, true, true, true, true, true, true, true, true, true, true, true, true, true, true, false, false, true, true, true, false, false, false, true, true, true, false, false, false, false, false, true, false, false, false] rfl rfl (any_of HT_.out (by kernel_rfl)) (fun _ _ _ h => h) (Or.inl ⟨by rfl, ?_⟩) ?_ ?_
                          rotate_left
                          ·intro w'
                           go_simp
                           with_reducible rfl
                          rotate_left
                          ·simp only [Act.put, List.setIfInBounds_toArray, List.set_cons_zero, List.set_cons_succ, i64_w, i32_w]
                           rfl
                          refine take_ (i := 15) (N := some 97) (v := ?_) (a' := ?_) #[true, true, true, true, true, true, true, true, true, true, true, true, true, true, true, true, false, true, true, true, false, false, false, true, true, true, false, false, false, false, false, true, false, false, false] rfl rfl (take_ofW HT_.out HW_.out (by kernel_rfl)) (fun _ _ _ h => h) (Or.inl ⟨by rfl, ?_⟩) hHeld ?_ ?_
                          rotate_left
                          ·rintro w' ⟨s0, s1, s2, s3, s4, s5, s6⟩
                           (try simp only [add_plain] at s3 s4 s5 s6)
                           go_simp
                           with_reducible rfl
                          rotate_left
                          ·simp only [Act.put, List.setIfInBounds_toArray, List.set_cons_zero, List.set_cons_succ, i64_w, i32_w]
                           rfl
                          refine pure_ (i := 16) (N := some 98) (v := ?_) (a' := ?_) #[true, true, true, true, true, true, true, true, true, true, true, true, true, true, true, true, true, true, true, true, false, false, false, true, true, true, false, false, false, false, false, true, false, false, false] rfl rfl (any_of HT_.out (by kernel_rfl)) (fun _ _ _ h => h) (Or.inl ⟨by rfl, ?_⟩) ?_ ?_
                          rotate_left
                          ·intro w'
                           go_simp
                           with_reducible rfl
                          rotate_left
                          ·simp only [Act.put, List.setIfInBounds_toArray, List.set_cons_zero, List.set_cons_succ, i64_w, i32_w]
                           rfl
                          refine one_ (i := 20) (N := some 102) #[true, true, true, true, true, true, true, true, true, true, true, true, true, true, true, true, true, true, true, true, true, false, false, true, true, true, false, false, false, false, false, true, false, false, false] rfl rfl (one_of HT_.out (by kernel_rfl)) (by decide) (fun K hK => ?_)
                          refine goes_ Try.func38 (by kernel_rfl) rfl #[.agg #[.int .i64 a0_0, .int .i64 a0_1, .slice (some ad114) x102002_5.length co2], .int .i64 x10_4, .int .i64 x14_1] (by rfl) rfl rfl lm_ ?_
                          with_reducible refine (impl_Matrix_at.calls a0_0 a0_1 _ _ x102002_5 x10_4 x14_1 t117 _ ?side1 ?side2 A48.out).mono ?_
                          (case side1 => repeat (first | exact (Kd.R_reads' HO_102002.out).2.2 | (with_reducible refine Kd.C_alloc ?_ _) | (with_reducible refine Kd.C_drewN ?_ _) | (with_reducible refine Kd.C_drew ?_)))
                          (case side2 => exact (Kd.R_reads' HO_102002.out).2.1)
                          rintro e w63 ⟨rfl, hb⟩
                          have HS3_ := (hb.cell (World.block_lt_of_cell? _ _ (hHeld.2.2.2.1))).trans (hHeld.2.2.2.1)
                          have HS4_ := (hb.cell (World.block_lt_of_cell? _ _ (hHeld.2.2.2.2.1))).trans (hHeld.2.2.2.2.1)
                          have HS5_ := (hb.cell (World.block_lt_of_cell? _ _ (hHeld.2.2.2.2.2.1))).trans (hHeld.2.2.2.2.2.1)
                          have HS6_ := (hb.cell (World.block_lt_of_cell? _ _ (hHeld.2.2.2.2.2.2))).trans (hHeld.2.2.2.2.2.2)
                          refine ⟨_, rfl, ?_⟩
                          have n0_ := am_ (Kd.R_below (rk_ HO_102002.out) hb)
                          have n1_ := am_ (bw_ BK101 hb)
                          have n2_ := am_ (Kept.below (S := (fun k_ => P0_2_ k_)) (by repeat (first | (with_reducible first | exact HK.out | apply Kept.alloc | apply Kept.drewN | apply Kept.drew | refine Kept.setCell ?_ (.inr GW101.out) _) | exact HK.out)) hb)
                          have n3_ := am_ (below_step (bb_ HB.out) hb)
                          clear HO_102002 BK101 HK HB; revert n0_ n1_ n2_ n3_; intro HO_102002 BK101 HK HB
                          (try clear hb)
                          (try clear hb2)
                          (try clear hk)
                          (try clear hi)
                          refine hK.out _ _ ⟨bc_ BK101 0, bc_ BK101 1, bc_ BK101 2, HS3_, HS4_, HS5_, HS6_⟩ (fun hHeld => ?_)
                          clear hK K
                          refine norm_ (a' := ?_) ?_ ?_
                          rotate_left
                          ·show Act.put _ (some 102) _ = _
                           simp only [Act.put, List.setIfInBounds_toArray, List.set_cons_zero, List.set_cons_succ, i64_w, i32_w]
                           rfl
                          refine pure_ (i := 21) (N := some 103) (v := ?_) (a' := ?_) #[true, true, true, true, true, true, true, true, true, true, true, true, true, true, true, true, true, true, true, true, true, true, false, true, true, true, false, false, false, false, false, true, false, false, false] rfl rfl (any_of HT_.out (by kernel_rfl)) (fun _ _ _ h => h) (Or.inl ⟨by rfl, ?_⟩) ?_ ?_
                          rotate_left
                          ·intro w'
                           go_simp
                           with_reducible rfl
                          rotate_left
                          ·simp only [Act.put, List.setIfInBounds_toArray, List.set_cons_zero, List.set_cons_succ, i64_w, i32_w]
                           rfl
                          refine take_ (i := 22) (N := some 104) (v := ?_) (a' := ?_) #[true, true, true, true, true, true, true, true, true, true, true, true, true, true, true, true, true, true, true, true, true, true, true, true, true, true, false, false, false, false, false, true, false, false, false] rfl rfl (take_ofW HT_.out HW_.out (by kernel_rfl)) (fun _ _ _ h => h) (Or.inl ⟨by rfl, ?_⟩) hHeld ?_ ?_
                          rotate_left
                          ·rintro w' ⟨s0, s1, s2, s3, s4, s5, s6⟩
                           (try simp only [add_plain] at s3 s4 s5 s6)
                           go_simp
                           with_reducible rfl
                          rotate_left
                          ·simp only [Act.put, List.setIfInBounds_toArray, List.set_cons_zero, List.set_cons_succ, i64_w, i32_w]
                           rfl
                          refine one_ (i := 26) (N := some 108) #[true, true, true, true, true, true, true, true, true, true, true, true, true, true, true, true, true, true, true, true, true, true, true, true, true, true, true, false, false, false, false, true, false, false, false] rfl rfl (one_of HT_.out (by kernel_rfl)) (by decide) (fun K hK => ?_)
                          refine goes_ Try.func38 (by kernel_rfl) rfl #[.agg #[.int .i64 a0_0, .int .i64 a0_1, .slice (some ad114) x102002_5.length co2], .int .i64 x14_1, .int .i64 x11_5] (by rfl) rfl rfl lm_ ?_
                          with_reducible refine (impl_Matrix_at.calls a0_0 a0_1 _ _ x102002_5 x14_1 x11_5 t119 _ ?side1 ?side2 A51.out).mono ?_
                          (case side1 => repeat (first | exact (Kd.R_reads' HO_102002.out).2.2 | (with_reducible refine Kd.C_alloc ?_ _) | (with_reducible refine Kd.C_drewN ?_ _) | (with_reducible refine Kd.C_drew ?_)))
                          (case side2 => exact (Kd.R_reads' HO_102002.out).2.1)
                          rintro e w64 ⟨rfl, hb⟩
                          have HS3_ := (hb.cell (World.block_lt_of_cell? _ _ (hHeld.2.2.2.1))).trans (hHeld.2.2.2.1)
                          have HS4_ := (hb.cell (World.block_lt_of_cell? _ _ (hHeld.2.2.2.2.1))).trans (hHeld.2.2.2.2.1)
                          have HS5_ := (hb.cell (World.block_lt_of_cell? _ _ (hHeld.2.2.2.2.2.1))).trans (hHeld.2.2.2.2.2.1)
                          have HS6_ := (hb.cell (World.block_lt_of_cell? _ _ (hHeld.2.2.2.2.2.2))).trans (hHeld.2.2.2.2.2.2)
                          refine ⟨_, rfl, ?_⟩
                          have n0_ := am_ (Kd.R_below (rk_ HO_102002.out) hb)
                          have n1_ := am_ (bw_ BK101 hb)
                          have n2_ := am_ (Kept.below (S := (fun k_ => P0_2_ k_)) (by repeat (first | (with_reducible first | exact HK.out | apply Kept.alloc | apply Kept.drewN | apply Kept.drew | refine Kept.setCell ?_ (.inr GW101.out) _) | exact HK.out)) hb)
                          have n3_ := am_ (below_step (bb_ HB.out) hb)
                          clear HO_102002 BK101 HK HB; revert n0_ n1_ n2_ n3_; intro HO_102002 BK101 HK HB
                          (try clear hb)
                          (try clear hb2)
                          (try clear hk)
                          (try clear hi)
                          have p57 : 0 ≤ (t112 : Int) := of_decide_eq_true (by first | (with_reducible assumption) | assumption)
                          have q57 : (t112 : Int) < ((x102002_5.length : Int) : Int) := of_decide_eq_true (by first | (with_reducible assumption) | assumption)
                          obtain ⟨go57, co57, eo57, gb57, gl57, cl57, HG57⟩ := Kd.R_form HO_102002.out (by omega)
                          (first | cases eo57 | (injection eo57 with ea_ en_ ec_; (first | subst ea_ | (injection ea_ with ea_; subst ea_)); subst ec_; clear en_))
                          have GB57 := am_ gb57
                          have GG57 := am_ HG57
                          clear gb57 gl57 HG57
                          have HMgo57 := am_ (show (P0_2_ go57 ∨ w.heap.size ≤ go57) from (HO_102002.out.1 _ rfl))
                          (first | simp only [add_plain] at hx114_0 | skip)
                          (first | simp only [add_plain] at hx116_0 | skip)
                          (first | simp only [add_plain] at hx118_0 | skip)
                          (first | simp only [add_plain] at hx120_0 | skip)
                          obtain ⟨hx57_0, hf57_0⟩ := Kd.R_celln 0 HO_102002.out (t112 : Int) p57 q57
                          replace p57 := eq_true p57
                          replace q57 := eq_true q57
                          have HP65 := Kd.R_putn HO_102002.out (t112 : Int) (wrap64 (Int.tdiv (wrap64 ((wrap64 ((rd x102002_5 t113) * (rd x102002_5 t115))) - (wrap64 ((rd x102002_5 t117) * (rd x102002_5 t119))))) x4_1))
                          rw [← Ny121.out] at HP65
                          have HQ65 := am_ HP65
                          clear HP65
                          refine hK.out _ _ ⟨bc_ BK101 0, bc_ BK101 1, bc_ BK101 2, HS3_, HS4_, HS5_, HS6_⟩ (fun hHeld => ?_)
                          clear hK K
                          refine norm_ (a' := ?_) ?_ ?_
                          rotate_left
                          ·show Act.put _ (some 108) _ = _
                           simp only [Act.put, List.setIfInBounds_toArray, List.set_cons_zero, List.set_cons_succ, i64_w, i32_w]
                           rfl
                          refine pure_ (i := 27) (N := some 109) (v := ?_) (a' := ?_) #[true, true, true, true, true, true, true, true, true, true, true, true, true, true, true, true, true, true, true, true, true, true, true, true, true, true, true, true, false, false, false, true, false, false, false] rfl rfl (any_of HT_.out (by kernel_rfl)) (fun _ _ _ h => h) (Or.inl ⟨by rfl, ?_⟩) ?_ ?_
                          rotate_left
                          ·intro w'
                           go_simp
                           with_reducible rfl
                          rotate_left
                          ·simp only [Act.put, List.setIfInBounds_toArray, List.set_cons_zero, List.set_cons_succ, i64_w, i32_w]
                           rfl
                          refine take_ (i := 28) (N := some 110) (v := ?_) (a' := ?_) #[true, true, true, true, true, true, true, true, true, true, true, true, true, true, true, true, true, true, true, true, true, true, true, true, true, true, true, true, true, false, false, true, false, false, false] rfl rfl (take_ofW HT_.out HW_.out (by kernel_rfl)) (fun _ _ _ h => h) (Or.inl ⟨by rfl, ?_⟩) hHeld ?_ ?_
                          rotate_left
                          ·rintro w' ⟨s0, s1, s2, s3, s4, s5, s6⟩
                           (try simp only [add_plain] at s3 s4 s5 s6)
                           go_simp
                           with_reducible rfl
                          rotate_left
                          ·simp only [Act.put, List.setIfInBounds_toArray, List.set_cons_zero, List.set_cons_succ, i64_w, i32_w]
                           rfl
                          refine pure_ (i := 29) (N := some 111) (v := ?_) (a' := ?_) #[true, true, true, true, true, true, true, true, true, true, true, true, true, true, true, true, true, true, true, true, true, true, true, true, true, true, true, true, true, true, false, true, false, false, false] rfl rfl (any_of HT_.out (by kernel_rfl)) (fun _ _ _ h => h) (Or.inl ⟨by rfl, ?_⟩) ?_ ?_
                          rotate_left
                          ·intro w'
                           go_simp
                           with_reducible rfl
                          rotate_left
                          ·simp only [Act.put, List.setIfInBounds_toArray, List.set_cons_zero, List.set_cons_succ, i64_w, i32_w]
                           rfl
                          refine pure_ (i := 30) (N := some 112) (v := ?_) (a' := ?_) #[true, true, true, true, true, true, true, true, true, true, true, true, true, true, true, true, true, true, true, true, true, true, true, true, true, true, true, true, true, true, true, true, false, false, false] rfl rfl (any_of HT_.out (by kernel_rfl)) (fun _ _ _ h => h) (Or.inl ⟨by rfl, ?_⟩) ?_ ?_
                          rotate_left
                          ·intro w'
                           go_simp
                           with_reducible rfl
                          rotate_left
                          ·simp only [Act.put, List.setIfInBounds_toArray, List.set_cons_zero, List.set_cons_succ, i64_w, i32_w]
                           rfl
                          refine pure_ (i := 32) (N := some 114) (v := ?_) (a' := ?_) #[true, true, true, true, true, true, true, true, true, true, true, true, true, true, true, true, true, true, true, true, true, true, true, true, true, true, true, true, true, true, true, true, true, false, false] rfl rfl (any_of HT_.out (by kernel_rfl)) (fun _ _ _ h => h) (Or.inl ⟨by rfl, ?_⟩) ?_ ?_
                          rotate_left
                          ·intro w'
                           go_simp
                           with_reducible rfl
                          rotate_left
                          ·simp only [Act.put, List.setIfInBounds_toArray, List.set_cons_zero, List.set_cons_succ, i64_w, i32_w]
                           rfl
                          refine pure_ (i := 33) (N := some 115) (v := ?_) (a' := ?_) #[true, true, true, true, true, true, true, true, true, true, true, true, true, true, true, true, true, true, true, true, true, true, true, true, true, true, true, true, true, true, true, true, true, true, false] rfl rfl (any_of HT_.out (by kernel_rfl)) (fun _ _ _ h => h) (Or.inl ⟨by rfl, ?_⟩) ?_ ?_
                          rotate_left
                          ·intro w'
                           go_simp
                           with_reducible rfl
                          rotate_left
                          ·simp only [Act.put, List.setIfInBounds_toArray, List.set_cons_zero, List.set_cons_succ, i64_w, i32_w]
                           rfl
                          refine last_ (i := 34) (N := none) #[true, true, true, true, true, true, true, true, true, true, true, true, true, true, true, true, true, true, true, true, true, true, true, true, true, true, true, true, true, true, true, true, true, true, true] rfl rfl (one_of HT_.out (by kernel_rfl)) (by decide) (fun K hK => ?_)
                          refine skip_ (w1 := ?_) (by rfl) rfl ?_ ?_
                          rotate_left
                          ·go_simp
                           rfl
                          refine hK.out _ _ ?_
                          clear hK K
                          refine done_ (done_of HT_.out (by kernel_rfl)) ?_
                          try go_wp2
                          (try simp only [← hl102002_5])
                          go_roundg k5
                          case measure => have := HK1.out; have := HJ5.out; have := HJ18.out; have := HK4.out; have := HK5.out; omega
                          case rel => exact ⟨(wrap64 (x11_5 + 1)), (y121), (by first | rfl | (simp; done) | (simp [*]; done)), H', ⟨by have := HK1.out; have := HJ5.out; have := HJ18.out; have := HK4.out; have := HK5.out; omega⟩, ⟨by (try simp only [hl102002_1]); (try simp only [hl102002_18]); (try simp only [hl102002_4]); (try simp only [hl102002_5]); (with_reducible repeat (first | apply Kd.R_alloc | apply Kd.R_drewN | apply Kd.R_drew)); exact HQ65.out⟩, ⟨by (try simp only [hl102002_1]); (try simp only [hl102002_18]); (try simp only [hl102002_4]); (try simp only [hl102002_5]); (with_reducible repeat (first | refine blk_drewN ?_ _ | refine blk_drew ?_ | refine blk_alloc ?_ _)); refine blk_far ?_ (by have h_ := Kd.R_ne HO_102002.out BK101.out (by decide); intro e_; exact h_ (by rw [e_]; rfl)) _; (with_reducible repeat (first | refine blk_drewN ?_ _ | refine blk_drew ?_ | refine blk_alloc ?_ _)); exact BK101.out⟩, ⟨by repeat (first | (with_reducible first | exact HK.out | apply Kept.alloc | apply Kept.drewN | apply Kept.drew | refine Kept.setCell ?_ HMgo57.out _ | refine Kept.setCell ?_ (.inr GW101.out) _) | exact HK.out)⟩, ⟨bb_ HB.out⟩⟩
                         ·rw [if_neg c56] at H
                          exact absurd H (by simp)
                        ·rw [if_neg c55] at H
                         exact absurd H (by simp)
                      ·rw [if_neg c53] at H
                       exact absurd H (by simp)
                     ·rw [if_neg c52] at H
                      exact absurd H (by simp)
                    ·rw [if_neg c50] at H
                     exact absurd H (by simp)
                   ·rw [if_neg c49] at H
                    exact absurd H (by simp)
                  ·rw [if_neg c47] at H
                   exact absurd H (by simp)
                 ·rw [if_neg c46] at H
                  exact absurd H (by simp)
                ·rw [if_neg c44] at H
                 exact absurd H (by simp)
               ·rw [if_neg c43] at H
                exact absurd H (by simp)
              ·rw [if_neg c40] at H
               have c40b0 : decide (x11_5 < a0_1) = false := decide_eq_false c40
               clear c40
               have H' := am_ H
               clear H
               have hcz66_0 : wr.cell? ⟨gb101, 0, none⟩ = some (.int .i64 a0_0) := bc_ BK101 0
               have hcz66_1 : wr.cell? ⟨gb101, 1, none⟩ = some (.int .i64 a0_1) := bc_ BK101 1
               have hcz66_2 : wr.cell? ⟨gb101, 2, none⟩ = some (.slice Ao2 x102002_5.length co2) := bc_ BK101 2
               have hfz66_0 := blk_frozen BK101.out 0
               have hfz66_1 := blk_frozen BK101.out 1
               have hfz66_2 := blk_frozen BK101.out 2
               go_wp2
               (try simp only [← hl102002_4, ← hl102002_5])
               go_roundg k5
               case measure => have := HK1.out; have := HJ5.out; have := HJ18.out; have := HK4.out; have := HK5.out; omega
               case rel => exact ⟨(wrap64 (x10_4 + 1)), (x102002_5), (by first | rfl | (simp; done) | (simp [*]; done)), H', ⟨by have := HK1.out; have := HJ5.out; have := HJ18.out; have := HK4.out; have := HK5.out; omega⟩, ⟨by (try simp only [hl102002_1]); (try simp only [hl102002_18]); (try simp only [hl102002_4]); (try simp only [hl102002_5]); (with_reducible repeat (first | apply Kd.R_alloc | apply Kd.R_drewN | apply Kd.R_drew)); exact HO_102002.out⟩, ⟨by (try simp only [hl102002_1]); (try simp only [hl102002_18]); (try simp only [hl102002_4]); (try simp only [hl102002_5]); (with_reducible repeat (first | refine blk_drewN ?_ _ | refine blk_drew ?_ | refine blk_alloc ?_ _)); exact BK101.out⟩, ⟨by repeat (first | (with_reducible first | exact HK.out | apply Kept.alloc | apply Kept.drewN | apply Kept.drew | refine Kept.setCell ?_ (.inr GW101.out) _) | exact HK.out)⟩, ⟨bb_ HB.out⟩⟩
           ·rw [if_neg c38] at H
            have c38b0 : decide (x10_4 < a0_0) = false := decide_eq_false c38
            clear c38
            replace H := Option.bind_eq_some_iff.mp H
            obtain ⟨t110, A670, H⟩ := H
            replace H : (if 0 ≤ t110 then (if t110 < (x102002_4.length : Int) then (impl_determinant.l0 k4 x3_18 (rd x102002_4 t110) a0_0 (wrap64 (x14_1 + 1)) a0_0 a0_1 x102002_4) else (none)) else (none)) = some (r1, r2) := H
            have A67 := am_ A670
            clear A670
            by_cases c68 : 0 ≤ t110
            ·rw [if_pos c68] at H
             have c68b0 : decide (0 ≤ t110) = true := decide_eq_true c68
             clear c68
             by_cases c69 : t110 < (x102002_4.length : Int)
             ·rw [if_pos c69] at H
              have c69b0 : decide (t110 < (x102002_4.length : Int)) = true := decide_eq_true c69
              clear c69
              have H' := am_ H
              clear H
              have hcz70_0 : wr.cell? ⟨gb101, 0, none⟩ = some (.int .i64 a0_0) := bc_ BK101 0
              have hcz70_1 : wr.cell? ⟨gb101, 1, none⟩ = some (.int .i64 a0_1) := bc_ BK101 1
              have hcz70_2 : wr.cell? ⟨gb101, 2, none⟩ = some (.slice Ao2 x102002_4.length co2) := bc_ BK101 2
              have hfz70_0 := blk_frozen BK101.out 0
              have hfz70_1 := blk_frozen BK101.out 1
              have hfz70_2 := blk_frozen BK101.out 2
              go_wp2_with (first | ((with_reducible refine gate_callee (f := 38) rfl ?_); refine goesL_ (some 119) rfl rfl Try.func38 (by kernel_rfl) rfl #[.agg #[.int .i64 a0_0, .int .i64 a0_1, .slice Ao2 x102002_4.length co2], .int .i64 x14_1, .int .i64 x14_1] rfl lm_ ?_; (with_reducible refine (impl_Matrix_at.calls a0_0 a0_1 _ _ x102002_4 x14_1 x14_1 t110 _ ?side1 ?side2 A67.out).mono ?_); (case side1 => repeat (first | exact (Kd.R_reads' HO_102002.out).2.2 | (with_reducible refine Kd.C_alloc ?_ _) | (with_reducible refine Kd.C_drewN ?_ _) | (with_reducible refine Kd.C_drew ?_))); (case side2 => exact (Kd.R_reads' HO_102002.out).2.1); rintro e w71 ⟨rfl, hb⟩; refine ⟨_, rfl, ?_⟩; have n0_ := am_ (Kd.R_below (rk_ HO_102002.out) hb); have n1_ := am_ (bw_ BK101 hb); have n2_ := am_ (Kept.below (S := (fun k_ => P0_2_ k_)) (by repeat (first | (with_reducible first | exact HK.out | apply Kept.alloc | apply Kept.drewN | apply Kept.drew | refine Kept.setCell ?_ (.inr GW101.out) _) | exact HK.out)) hb); have n3_ := am_ (below_step (bb_ HB.out) hb); clear HO_102002 BK101 HK HB; revert n0_ n1_ n2_ n3_; intro HO_102002 BK101 HK HB; (try clear hb); (try clear hb2); (try clear hk); (try clear hi); have p111 : 0 ≤ (t110 : Int) := of_decide_eq_true (by first | (with_reducible assumption) | assumption); have q111 : t110 < (x102002_4.length : Int) := of_decide_eq_true (by first | (with_reducible assumption) | assumption); obtain ⟨ad111, e111, hx111_0⟩ := Kd.at_int (Kd.R_reads' HO_102002.out).2.2 t110 p111 q111; cases e111; replace p111 := eq_true p111; replace q111 := eq_true q111))
              (try simp only [← hl102002_1, ← hl102002_18, ← hl102002_4])
              go_roundg k4
              case measure => have := HK1.out; have := HJ5.out; have := HJ18.out; have := HK4.out; omega
              case rel => exact ⟨(x3_18), (rd x102002_4 t110), (wrap64 (x14_1 + 1)), (x102002_4), (by first | rfl | (simp; done) | (simp [*]; done)), (by first | rfl | (simp; done) | (simp [*]; done)), (by first | rfl | (simp; done) | (simp [*]; done)), H', ⟨by have := HK1.out; have := HJ5.out; have := HJ18.out; have := HK4.out; omega⟩, ⟨by (try simp only [hl102002_1]); (try simp only [hl102002_18]); (try simp only [hl102002_4]); (with_reducible repeat (first | apply Kd.R_alloc | apply Kd.R_drewN | apply Kd.R_drew)); exact HO_102002.out⟩, ⟨by (try simp only [hl102002_1]); (try simp only [hl102002_18]); (try simp only [hl102002_4]); (with_reducible repeat (first | refine blk_drewN ?_ _ | refine blk_drew ?_ | refine blk_alloc ?_ _)); exact BK101.out⟩, ⟨by repeat (first | (with_reducible first | exact HK.out | apply Kept.alloc | apply Kept.drewN | apply Kept.drew | refine Kept.setCell ?_ (.inr GW101.out) _) | exact HK.out)⟩, ⟨bb_ HB.out⟩⟩
             ·rw [if_neg c69] at H
              exact absurd H (by simp)
            ·rw [if_neg c68] at H
             exact absurd H (by simp)
   ·rw [if_neg c5] at H
    have c5b0 : decide (x14_1 < a0_0) = false := decide_eq_false c5
    clear c5
    simp only [Option.some.injEq, Prod.mk.injEq] at H
    obtain ⟨rfl, rfl⟩ := H
    go_wp2
    go_ret
    exact ⟨by first | rfl | (simp [errW_none, errW_some] <;> rfl) | (simp [*, errW_none, errW_some] <;> rfl), (by first | exact (rk_ HO_102002.out) | (simp only [hl102002_1]; exact (rk_ HO_102002.out))), bb_ HB.out, by repeat (first | (with_reducible first | exact HK.out | apply Kept.alloc | apply Kept.drewN | apply Kept.drew | refine Kept.setCell ?_ (.inr GW101.out) _) | exact HK.out)⟩

end Go.Proofs.Ytifbfloifdkacaa.PFnProducts
