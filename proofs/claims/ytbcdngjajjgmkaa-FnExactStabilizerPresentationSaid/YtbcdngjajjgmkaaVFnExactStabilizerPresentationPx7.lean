/- Written by this session's program out of the kit's print and this session's contracts. -/
import Derived.Test.YtbcdngjajjgmkaaVFnExactStabilizerPresentationPx0
import Derived.Test.YtbcdngjajjgmkaaVFnExactStabilizerPresentationPx5
namespace Go.Proofs.Ytbcdngjajjgmkaa.PFnExactStabilizerPresentation
open Go.RowKit Go.Proofs.YtbcdngjajjgmkaaW.PrintWords Go.Proofs.YtbcdngjajjgmkaaW.PrintLast Go.Proofs.YtbcdngjajjgmkaaW.PrintMore
attribute [local go_sem] max2_int min2_int max_two min_two max_three min_three max_four min_four   -- for this text's walks alone
set_option linter.unusedVariables false
set_option linter.unusedSimpArgs false

/-! ### spec_l05Names: function 51 -/
mutual
def spec_l05Names.l0 : Nat → Int → List (List Int) → List Bool → List Int → Int → Option ((List (List Int)) × Int)
 | 0, _, _, _, _, _ => none
 | k + 1, x0, x1, x6, x7, x8 => if x8 < (x7.length : Int) then (spec_l05Names.l1 k x0 x1 x6 x7 x8 0) else (spec_l05Names.l2 k x0 x1 x6 (([] : List (List Int))) 0 0)
def spec_l05Names.l1 : Nat → Int → List (List Int) → List Bool → List Int → Int → Int → Option ((List (List Int)) × Int)
 | 0, _, _, _, _, _, _ => none
 | k + 1, x0, x1, x6, x7, x8, x9 => if x9 < (x1.length : Int) then (if 0 ≤ x9 then (if 0 ≤ x8 then (if x8 < (x7.length : Int) then (if 0 ≤ (rd x7 x8) then (if (rd x7 x8) < ((rd_L1 x1 x9).length : Int) then ((spec_l25Has.f k x7 (rd (rd_L1 x1 x9) (rd x7 x8))).bind fun t198 => (if t198 = true then (spec_l05Names.l1 k x0 x1 x6 x7 x8 (wrap64 (x9 + 1))) else (if x7.length < 17592186044416 then ((some (x7 ++ [rd (rd_L1 x1 x9) (rd x7 x8)] : List Int)).bind fun y199 => (if x8 < (y199.length : Int) then (if 0 ≤ (wrap64 ((wrap64 ((rd y199 x8) * (x1.length : Int))) + x9)) then (if (wrap64 ((wrap64 ((rd y199 x8) * (x1.length : Int))) + x9)) < (x6.length : Int) then (spec_l05Names.l1 k x0 x1 (x6.set ((wrap64 ((wrap64 ((rd y199 x8) * (x1.length : Int))) + x9)) : Int).toNat true) y199 x8 (wrap64 (x9 + 1))) else (none)) else (none)) else (none))) else (none)))) else (none)) else (none)) else (none)) else (none)) else (none)) else (spec_l05Names.l0 k x0 x1 x6 x7 (wrap64 (x8 + 1)))
def spec_l05Names.l2 : Nat → Int → List (List Int) → List Bool → List (List Int) → Int → Int → Option ((List (List Int)) × Int)
 | 0, _, _, _, _, _, _ => none
 | k + 1, x0, x1, x6, x11, x12, x13 => if x13 < x0 then (spec_l05Names.l3 k x0 x1 x6 x11 x12 x13 (([] : List Int)) 0) else (some (x11, x12))
def spec_l05Names.l3 : Nat → Int → List (List Int) → List Bool → List (List Int) → Int → Int → List Int → Int → Option ((List (List Int)) × Int)
 | 0, _, _, _, _, _, _, _, _ => none
 | k + 1, x0, x1, x6, x11, x12, x13, x14, x15 => if x15 < (x1.length : Int) then (if 0 ≤ (wrap64 ((wrap64 (x13 * (x1.length : Int))) + x15)) then (if (wrap64 ((wrap64 (x13 * (x1.length : Int))) + x15)) < (x6.length : Int) then (if rdOf false x6 (wrap64 ((wrap64 (x13 * (x1.length : Int))) + x15)) = true then (if x14.length < 17592186044416 then (spec_l05Names.l3 k x0 x1 x6 x11 x12 x13 (x14 ++ [0]) (wrap64 (x15 + 1))) else (none)) else (if x14.length < 17592186044416 then (spec_l05Names.l3 k x0 x1 x6 x11 (wrap64 (x12 + 1)) x13 (x14 ++ [wrap64 (x12 + 1)]) (wrap64 (x15 + 1))) else (none))) else (none)) else (none)) else (if x11.length < 5864062014805 then (spec_l05Names.l2 k x0 x1 x6 (x11 ++ [x14]) x12 (wrap64 (x13 + 1))) else (none))
end
def spec_l05Names.f (k : Nat) (a0 : Int) (l1 : List (List Int)) : Option ((List (List Int)) × Int) := if 0 ≤ (wrap64 (a0 * (l1.length : Int))) then (if (wrap64 (a0 * (l1.length : Int)) : Int).toNat ≤ 281474976710656 then (spec_l05Names.l0 k a0 l1 (List.replicate (wrap64 (a0 * (l1.length : Int)) : Int).toNat false) (([0] : List Int)) 0) else (none)) else (none)
theorem spec_l05Names.mono_l : ∀ k, (∀ y0 y1 y2 y3 y4, LeO (spec_l05Names.l0 k y0 y1 y2 y3 y4) (spec_l05Names.l0 (k + 1) y0 y1 y2 y3 y4)) ∧ (∀ y0 y1 y2 y3 y4 y5, LeO (spec_l05Names.l1 k y0 y1 y2 y3 y4 y5) (spec_l05Names.l1 (k + 1) y0 y1 y2 y3 y4 y5)) ∧ (∀ y0 y1 y2 y3 y4 y5, LeO (spec_l05Names.l2 k y0 y1 y2 y3 y4 y5) (spec_l05Names.l2 (k + 1) y0 y1 y2 y3 y4 y5)) ∧ (∀ y0 y1 y2 y3 y4 y5 y6 y7, LeO (spec_l05Names.l3 k y0 y1 y2 y3 y4 y5 y6 y7) (spec_l05Names.l3 (k + 1) y0 y1 y2 y3 y4 y5 y6 y7))
 | 0 => ⟨fun _ _ _ _ _ r h => by simp [spec_l05Names.l0] at h, fun _ _ _ _ _ _ r h => by simp [spec_l05Names.l1] at h, fun _ _ _ _ _ _ r h => by simp [spec_l05Names.l2] at h, fun _ _ _ _ _ _ _ _ r h => by simp [spec_l05Names.l3] at h⟩
 | k + 1 => by
  obtain ⟨ih0, ih1, ih2, ih3⟩ := spec_l05Names.mono_l k
  refine ⟨?_, ?_, ?_, ?_⟩
  ·intro y0 y1 y2 y3 y4
   unfold spec_l05Names.l0
   repeat' first
   | (with_reducible exact ih0 _ _ _ _ _)
   | (with_reducible exact ih1 _ _ _ _ _ _)
   | (with_reducible exact ih2 _ _ _ _ _ _)
   | (with_reducible exact ih3 _ _ _ _ _ _ _ _)
   | (with_reducible exact spec_l25Has.mono _ _ _)
   | (with_reducible exact LeO.refl _)
   | (with_reducible exact LeO.none _)
   | (with_reducible refine LeO.ite ?_ ?_)
   | (with_reducible refine LeO.bind ?_ (fun _ => ?_))
   | exact ih0 _ _ _ _ _
   | exact ih1 _ _ _ _ _ _
   | exact ih2 _ _ _ _ _ _
   | exact ih3 _ _ _ _ _ _ _ _
   | exact spec_l25Has.mono _ _ _
   | exact LeO.none _
   | refine LeO.ite ?_ ?_
   | refine LeO.bind ?_ (fun _ => ?_)
  ·intro y0 y1 y2 y3 y4 y5
   unfold spec_l05Names.l1
   repeat' first
   | (with_reducible exact ih0 _ _ _ _ _)
   | (with_reducible exact ih1 _ _ _ _ _ _)
   | (with_reducible exact ih2 _ _ _ _ _ _)
   | (with_reducible exact ih3 _ _ _ _ _ _ _ _)
   | (with_reducible exact spec_l25Has.mono _ _ _)
   | (with_reducible exact LeO.refl _)
   | (with_reducible exact LeO.none _)
   | (with_reducible refine LeO.ite ?_ ?_)
   | (with_reducible refine LeO.bind ?_ (fun _ => ?_))
   | exact ih0 _ _ _ _ _
   | exact ih1 _ _ _ _ _ _
   | exact ih2 _ _ _ _ _ _
   | exact ih3 _ _ _ _ _ _ _ _
   | exact spec_l25Has.mono _ _ _
   | exact LeO.none _
   | refine LeO.ite ?_ ?_
   | refine LeO.bind ?_ (fun _ => ?_)
  ·intro y0 y1 y2 y3 y4 y5
   unfold spec_l05Names.l2
   repeat' first
   | (with_reducible exact ih0 _ _ _ _ _)
   | (with_reducible exact ih1 _ _ _ _ _ _)
   | (with_reducible exact ih2 _ _ _ _ _ _)
   | (with_reducible exact ih3 _ _ _ _ _ _ _ _)
   | (with_reducible exact spec_l25Has.mono _ _ _)
   | (with_reducible exact LeO.refl _)
   | (with_reducible exact LeO.none _)
   | (with_reducible refine LeO.ite ?_ ?_)
   | (with_reducible refine LeO.bind ?_ (fun _ => ?_))
   | exact ih0 _ _ _ _ _
   | exact ih1 _ _ _ _ _ _
   | exact ih2 _ _ _ _ _ _
   | exact ih3 _ _ _ _ _ _ _ _
   | exact spec_l25Has.mono _ _ _
   | exact LeO.none _
   | refine LeO.ite ?_ ?_
   | refine LeO.bind ?_ (fun _ => ?_)
  ·intro y0 y1 y2 y3 y4 y5 y6 y7
   unfold spec_l05Names.l3
   repeat' first
   | (with_reducible exact ih0 _ _ _ _ _)
   | (with_reducible exact ih1 _ _ _ _ _ _)
   | (with_reducible exact ih2 _ _ _ _ _ _)
   | (with_reducible exact ih3 _ _ _ _ _ _ _ _)
   | (with_reducible exact spec_l25Has.mono _ _ _)
   | (with_reducible exact LeO.refl _)
   | (with_reducible exact LeO.none _)
   | (with_reducible refine LeO.ite ?_ ?_)
   | (with_reducible refine LeO.bind ?_ (fun _ => ?_))
   | exact ih0 _ _ _ _ _
   | exact ih1 _ _ _ _ _ _
   | exact ih2 _ _ _ _ _ _
   | exact ih3 _ _ _ _ _ _ _ _
   | exact spec_l25Has.mono _ _ _
   | exact LeO.none _
   | refine LeO.ite ?_ ?_
   | refine LeO.bind ?_ (fun _ => ?_)
theorem spec_l05Names.mono : ∀ a0 a1 k, LeO (spec_l05Names.f k a0 a1) (spec_l05Names.f (k + 1) a0 a1) := by
 intro a0 a1 k
 obtain ⟨ih0, ih1, ih2, ih3⟩ := spec_l05Names.mono_l k
 unfold spec_l05Names.f
 repeat' first
   | (with_reducible exact ih0 _ _ _ _ _)
   | (with_reducible exact ih1 _ _ _ _ _ _)
   | (with_reducible exact ih2 _ _ _ _ _ _)
   | (with_reducible exact ih3 _ _ _ _ _ _ _ _)
   | (with_reducible exact spec_l25Has.mono _ _ _)
   | (with_reducible exact LeO.refl _)
   | (with_reducible exact LeO.none _)
   | (with_reducible refine LeO.ite ?_ ?_)
   | (with_reducible refine LeO.bind ?_ (fun _ => ?_))
   | exact ih0 _ _ _ _ _
   | exact ih1 _ _ _ _ _ _
   | exact ih2 _ _ _ _ _ _
   | exact ih3 _ _ _ _ _ _ _ _
   | exact spec_l25Has.mono _ _ _
   | exact LeO.none _
   | refine LeO.ite ?_ ?_
   | refine LeO.bind ?_ (fun _ => ?_)
set_option maxHeartbeats 8000000 in
set_option maxRecDepth 100000 in
theorem spec_l05Names.calls (k : Nat) (a0 : Int) (A1 : Option Addr) (c1 : Nat) (l1 : List (List Int)) (r1 : List (List Int)) (r2 : Int) (w : World) (hr1 : Kd.C (Kd.slice 2 (Kd.int .i64)) w A1 l1.length l1) (hc1 : l1.length ≤ c1) (h : spec_l05Names.f k a0 l1 = some (r1, r2)) :
  Calls Try.prog 51 #[.int .i64 a0, .slice A1 l1.length c1] w fun e w' => ∃ v0_ : Value, e = .returned (.tuple #[v0_, .int .i64 r2]) ∧ Kd.S (Kd.slice 2 (Kd.int .i64)) 39 w' w.heap.size (fun _ => True) v0_ r1 ∧ Below w.heap.size w w' := by
 have HR1 := am_ hr1
 have HC1 := am_ hc1
 clear hr1 hc1
 have HB := am_ (Below.refl w.heap.size w)
 have H : (if 0 ≤ (wrap64 (a0 * (l1.length : Int))) then (if (wrap64 (a0 * (l1.length : Int)) : Int).toNat ≤ 281474976710656 then (spec_l05Names.l0 k a0 l1 (List.replicate (wrap64 (a0 * (l1.length : Int)) : Int).toNat false) (([0] : List Int)) 0) else (none)) else (none)) = some (r1, r2) := h
 clear h
 obtain ⟨ji3, hji3⟩ : ∃ j_ : Int, (wrap64 (a0 * (l1.length : Int))) = j_ := ⟨_, rfl⟩
 replace H : (if 0 ≤ (ji3) then (if (ji3 : Int).toNat ≤ 281474976710656 then (spec_l05Names.l0 k a0 l1 (List.replicate (ji3 : Int).toNat false) (([0] : List Int)) 0) else (none)) else (none)) = some (r1, r2) := by first | (rw [hji3] at H; exact H) | (simp only [hji3] at H ⊢; exact H)
 have hji3w : (IntKind.i64.wrap (a0 * (l1.length : Int))) = ji3 := (i64_w _).trans hji3
 by_cases c4 : 0 ≤ (ji3)
 ·rw [if_pos c4] at H
  have c4b0 := eq_true c4
  have c4b1 : decide (0 ≤ (ji3)) = true := decide_eq_true c4
  clear c4
  by_cases c5 : (ji3 : Int).toNat ≤ 281474976710656
  ·rw [if_pos c5] at H
   have c5b0 := eq_true c5
   have c5b1 : decide ((ji3 : Int).toNat ≤ 281474976710656) = true := decide_eq_true c5
   clear c5
   obtain ⟨y189, hy189⟩ : ∃ y_ : List Bool, y_ = (List.replicate (ji3 : Int).toNat false) := ⟨_, rfl⟩
   replace H : (spec_l05Names.l0 k a0 l1 y189 (([0] : List Int)) 0) = some (r1, r2) := by first | (rw [hy189]; with_reducible exact H) | (have H2_ := (Option.bind_some _ _).symm.trans H; rw [hy189]; with_reducible exact H2_) | (have H2_ := (Option.bind_some _ _).symm.trans H; with_reducible exact H2_) | with_reducible exact H | (rw [hy189]; exact H) | exact H
   have Ny189 := am_ hy189
   clear hy189
   obtain ⟨y192, hy192⟩ : ∃ y_ : List Int, y_ = (([0] : List Int)) := ⟨_, rfl⟩
   replace H : (spec_l05Names.l0 k a0 l1 y189 y192 0) = some (r1, r2) := by first | (rw [hy192]; with_reducible exact H) | (have H2_ := (Option.bind_some _ _).symm.trans H; rw [hy192]; with_reducible exact H2_) | (have H2_ := (Option.bind_some _ _).symm.trans H; with_reducible exact H2_) | with_reducible exact H | (rw [hy192]; exact H) | exact H
   have Ny192 := am_ hy192
   clear hy192
   have H' := am_ H
   clear H
   go_enter Try.func51, Try.ntmps51
   go_wp2_with (first | ((with_reducible refine gate_dst (N := 20) rfl ?_); refine Kd.R_make Kd.bool _ 4 rfl (N := 20) rfl 93 _ _ rfl ji3 rfl rfl Try.underlying93 (.bool false) 1 info4 rfl (by decide) (by omega) false (ok := fun _ => True) (okp := fun _ => True) rfl (fun _ hk => hk) trivial (of_decide_eq_true (by first | (with_reducible assumption) | assumption)) (Nat.le_trans (Nat.mul_le_mul_right _ (of_decide_eq_true (by first | (with_reducible assumption) | assumption) : ji3.toNat ≤ 281474976710656)) (by omega)) (Below.refl _ _) (Nat.le_refl _) ?_; intro v190 w6 ho7 hb hg_ hnew_; clear hg_ hnew_; (first | rw [← Ny189.out] at ho7 | (simp only [Int.reduceToNat] at ho7; rw [← Ny189.out] at ho7)); have n0_ := am_ (Kd.R_lower ho7 (below_size (bb_ HB.out))); have n1_ := am_ (below_step (bb_ HB.out) hb); clear HB; revert n0_ n1_; intro HO191 HB; clear hb ho7) | ((with_reducible refine gate_dst (N := 21) rfl ?_); refine Kd.R_lit (Kd.int .i64) _ 2 ?hg (N := 21) ?hd (xs := ([0] : List Int)) (inner := [.int .i64 0]) (ok := fun _ => True) (okp := fun _ => True) ?hr ?hp (fun _ hk => hk) trivial (Below.refl _ _) (Nat.le_refl _) (by simp) ?_; (case hd => rfl); (case hg => rfl); (case hr => first | (go_simp; done) | (go_simp; rfl)); (case hp => exact (Reps.one (show Kd.M (Kd.int .i64) _ _ _ 0 [.int .i64 0] from rfl) (Reps.none _ _))); intro v193 w8 ho9 hb hg_ hnew_; clear hg_ hnew_; (first | rw [← Ny192.out] at ho9 | (simp only [Int.reduceToNat] at ho9; rw [← Ny192.out] at ho9)); have n0_ := am_ (Kd.R_below (rk_ HO191.out) hb); have n1_ := am_ (Kd.R_lower ho9 (below_size (bb_ HB.out))); have n2_ := am_ (below_step (bb_ HB.out) hb); clear HO191 HB; revert n0_ n1_ n2_; intro HO191 HO194 HB; clear hb ho9))
   repeat (go_quiet (first | ((with_reducible refine gate_dst (N := 20) rfl ?_); refine Kd.R_make Kd.bool _ 4 rfl (N := 20) rfl 93 _ _ rfl ji3 rfl rfl Try.underlying93 (.bool false) 1 info4 rfl (by decide) (by omega) false (ok := fun _ => True) (okp := fun _ => True) rfl (fun _ hk => hk) trivial (of_decide_eq_true (by first | (with_reducible assumption) | assumption)) (Nat.le_trans (Nat.mul_le_mul_right _ (of_decide_eq_true (by first | (with_reducible assumption) | assumption) : ji3.toNat ≤ 281474976710656)) (by omega)) (Below.refl _ _) (Nat.le_refl _) ?_; intro v190 w6 ho7 hb hg_ hnew_; clear hg_ hnew_; (first | rw [← Ny189.out] at ho7 | (simp only [Int.reduceToNat] at ho7; rw [← Ny189.out] at ho7)); have n0_ := am_ (Kd.R_lower ho7 (below_size (bb_ HB.out))); have n1_ := am_ (below_step (bb_ HB.out) hb); clear HB; revert n0_ n1_; intro HO191 HB; clear hb ho7) | ((with_reducible refine gate_dst (N := 21) rfl ?_); refine Kd.R_lit (Kd.int .i64) _ 2 ?hg (N := 21) ?hd (xs := ([0] : List Int)) (inner := [.int .i64 0]) (ok := fun _ => True) (okp := fun _ => True) ?hr ?hp (fun _ hk => hk) trivial (Below.refl _ _) (Nat.le_refl _) (by simp) ?_; (case hd => rfl); (case hg => rfl); (case hr => first | (go_simp; done) | (go_simp; rfl)); (case hp => exact (Reps.one (show Kd.M (Kd.int .i64) _ _ _ 0 [.int .i64 0] from rfl) (Reps.none _ _))); intro v193 w8 ho9 hb hg_ hnew_; clear hg_ hnew_; (first | rw [← Ny192.out] at ho9 | (simp only [Int.reduceToNat] at ho9; rw [← Ny192.out] at ho9)); have n0_ := am_ (Kd.R_below (rk_ HO191.out) hb); have n1_ := am_ (Kd.R_lower ho9 (below_size (bb_ HB.out))); have n2_ := am_ (below_step (bb_ HB.out) hb); clear HO191 HB; revert n0_ n1_ n2_; intro HO191 HO194 HB; clear hb ho9)); try go_wp2_with (first | ((with_reducible refine gate_dst (N := 20) rfl ?_); refine Kd.R_make Kd.bool _ 4 rfl (N := 20) rfl 93 _ _ rfl ji3 rfl rfl Try.underlying93 (.bool false) 1 info4 rfl (by decide) (by omega) false (ok := fun _ => True) (okp := fun _ => True) rfl (fun _ hk => hk) trivial (of_decide_eq_true (by first | (with_reducible assumption) | assumption)) (Nat.le_trans (Nat.mul_le_mul_right _ (of_decide_eq_true (by first | (with_reducible assumption) | assumption) : ji3.toNat ≤ 281474976710656)) (by omega)) (Below.refl _ _) (Nat.le_refl _) ?_; intro v190 w6 ho7 hb hg_ hnew_; clear hg_ hnew_; (first | rw [← Ny189.out] at ho7 | (simp only [Int.reduceToNat] at ho7; rw [← Ny189.out] at ho7)); have n0_ := am_ (Kd.R_lower ho7 (below_size (bb_ HB.out))); have n1_ := am_ (below_step (bb_ HB.out) hb); clear HB; revert n0_ n1_; intro HO191 HB; clear hb ho7) | ((with_reducible refine gate_dst (N := 21) rfl ?_); refine Kd.R_lit (Kd.int .i64) _ 2 ?hg (N := 21) ?hd (xs := ([0] : List Int)) (inner := [.int .i64 0]) (ok := fun _ => True) (okp := fun _ => True) ?hr ?hp (fun _ hk => hk) trivial (Below.refl _ _) (Nat.le_refl _) (by simp) ?_; (case hd => rfl); (case hg => rfl); (case hr => first | (go_simp; done) | (go_simp; rfl)); (case hp => exact (Reps.one (show Kd.M (Kd.int .i64) _ _ _ 0 [.int .i64 0] from rfl) (Reps.none _ _))); intro v193 w8 ho9 hb hg_ hnew_; clear hg_ hnew_; (first | rw [← Ny192.out] at ho9 | (simp only [Int.reduceToNat] at ho9; rw [← Ny192.out] at ho9)); have n0_ := am_ (Kd.R_below (rk_ HO191.out) hb); have n1_ := am_ (Kd.R_lower ho9 (below_size (bb_ HB.out))); have n2_ := am_ (below_step (bb_ HB.out) hb); clear HO191 HB; revert n0_ n1_ n2_; intro HO191 HO194 HB; clear hb ho9)))
   go_loopg [7, 8] k (fun kq v7 v8 w' => ∃ (x6_1 : List Bool) (x7_1 : List Int) (x8_1 : Int), v8 = .int .i64 x8_1 ∧ Aside0 (spec_l05Names.l0 kq a0 l1 x6_1 x7_1 x8_1 = some (r1, r2)) ∧ Aside0 (kq ≤ k) ∧ Aside0 (Kd.R Kd.bool 4 w' w.heap.size (fun _ => True) v190 x6_1) ∧ Aside0 (Kd.R (Kd.int .i64) 2 w' w.heap.size (fun _ => True) v7 x7_1) ∧ Aside0 (Below w.heap.size w w'))
   case atStart => exact ⟨(y189), (y192), (0), (by first | rfl | (simp; done) | (simp [*]; done)), H', ⟨Nat.le_refl _⟩, ⟨rk_ HO191.out⟩, ⟨rk_ HO194.out⟩, ⟨bb_ HB.out⟩⟩
   case round =>
    clear H'
    try clear c1
    try clear p2
    try clear c4
    try clear c4b0
    try clear c4b1
    try clear c5
    try clear c5b0
    try clear c5b1
    try clear p6
    obtain ⟨x6_1, x7_1, x8_1, rfl, HA, HK1, HO_6, HO_7, HB⟩ := hrel
    cases gk with
    | zero => exact absurd HA.out (by simp [spec_l05Names.l0])
    | succ k1 =>
     have H := HA.out
     clear HA
     simp only [spec_l05Names.l0] at H
     by_cases c10 : x8_1 < (x7_1.length : Int)
     ·rw [if_pos c10] at H
      have c10b0 : decide (x8_1 < (x7_1.length : Int)) = true := decide_eq_true c10
      clear c10
      have H' := am_ H
      clear H
      obtain ⟨Ao11, co11, eo11⟩ := Kd.R_slice HO_7.out
      subst eo11
      go_wp2
      repeat (go_quiet (fail); try go_wp2)
      go_loopg [7, 9] k1 (fun kq v7 v9 w' => ∃ (x6_2 : List Bool) (x7_2 : List Int) (x9_2 : Int), v9 = .int .i64 x9_2 ∧ Aside0 (spec_l05Names.l1 kq a0 l1 x6_2 x7_2 x8_1 x9_2 = some (r1, r2)) ∧ Aside0 (kq ≤ k1) ∧ Aside0 (Kd.R Kd.bool 4 w' w.heap.size (fun _ => True) v190 x6_2) ∧ Aside0 (Kd.R (Kd.int .i64) 2 w' w.heap.size (fun _ => True) v7 x7_2) ∧ Aside0 (Below w.heap.size w w'))
      case atStart => exact ⟨(x6_1), (x7_1), (0), (by first | rfl | (simp; done) | (simp [*]; done)), H', ⟨Nat.le_refl _⟩, ⟨rk_ HO_6.out⟩, ⟨rk_ HO_7.out⟩, ⟨bb_ HB.out⟩⟩
      case round =>
       clear H'
       try clear c1
       try clear p2
       try clear c4
       try clear c4b0
       try clear c4b1
       try clear c5
       try clear c5b0
       try clear c5b1
       try clear p6
       try clear c10
       try clear c10b0
       try clear p2
       try clear p6
       obtain ⟨x6_2, x7_2, x9_2, rfl, HA, HK2, HO_6, HO_7, HB⟩ := hrel
       cases gk with
       | zero => exact absurd HA.out (by simp [spec_l05Names.l1])
       | succ k2 =>
        have H := HA.out
        clear HA
        simp only [spec_l05Names.l1] at H
        by_cases c12 : x9_2 < (l1.length : Int)
        ·rw [if_pos c12] at H
         have c12b0 : decide (x9_2 < (l1.length : Int)) = true := decide_eq_true c12
         clear c12
         by_cases c13 : 0 ≤ x9_2
         ·rw [if_pos c13] at H
          have c13b0 : decide (0 ≤ x9_2) = true := decide_eq_true c13
          clear c13
          by_cases c14 : 0 ≤ x8_1
          ·rw [if_pos c14] at H
           have c14b0 : decide (0 ≤ x8_1) = true := decide_eq_true c14
           clear c14
           by_cases c15 : x8_1 < (x7_2.length : Int)
           ·rw [if_pos c15] at H
            have c15b0 : decide (x8_1 < (x7_2.length : Int)) = true := decide_eq_true c15
            clear c15
            by_cases c16 : 0 ≤ (rd x7_2 x8_1)
            ·rw [if_pos c16] at H
             have c16b0 : decide (0 ≤ (rd x7_2 x8_1)) = true := decide_eq_true c16
             clear c16
             by_cases c17 : (rd x7_2 x8_1) < ((rd_L1 l1 x9_2).length : Int)
             ·rw [if_pos c17] at H
              have c17b0 : decide ((rd x7_2 x8_1) < ((rd_L1 l1 x9_2).length : Int)) = true := decide_eq_true c17
              clear c17
              replace H := Option.bind_eq_some_iff.mp H
              obtain ⟨t198, A180, H⟩ := H
              replace H : (if t198 = true then (spec_l05Names.l1 k2 a0 l1 x6_2 x7_2 x8_1 (wrap64 (x9_2 + 1))) else (if x7_2.length < 17592186044416 then ((some (x7_2 ++ [rd (rd_L1 l1 x9_2) (rd x7_2 x8_1)] : List Int)).bind fun y199 => (if x8_1 < (y199.length : Int) then (if 0 ≤ (wrap64 ((wrap64 ((rd y199 x8_1) * (l1.length : Int))) + x9_2)) then (if (wrap64 ((wrap64 ((rd y199 x8_1) * (l1.length : Int))) + x9_2)) < (x6_2.length : Int) then (spec_l05Names.l1 k2 a0 l1 (x6_2.set ((wrap64 ((wrap64 ((rd y199 x8_1) * (l1.length : Int))) + x9_2)) : Int).toNat true) y199 x8_1 (wrap64 (x9_2 + 1))) else (none)) else (none)) else (none))) else (none))) = some (r1, r2) := H
              have A18 := am_ A180
              clear A180
              by_cases c19 : t198 = true
              ·subst c19
               have H1 : (spec_l05Names.l1 k2 a0 l1 x6_2 x7_2 x8_1 (wrap64 (x9_2 + 1))) = some (r1, r2) := by rw [if_pos rfl] at H; exact H
               clear H
               have H := H1
               clear H1
               have H' := am_ H
               clear H
               have p195 : 0 ≤ (x9_2 : Int) := of_decide_eq_true (by first | (with_reducible assumption) | assumption)
               have q195 : x9_2 < (l1.length : Int) := of_decide_eq_true (by first | (with_reducible assumption) | assumption)
               obtain ⟨ad195, A195_0, c195_0, e195, hx195_0, hl195_0, hi195_0⟩ := at_L1 HR1.out x9_2 p195 q195
               cases e195
               replace hx195_0 := (HB.out.cell (World.block_lt_of_cell? w _ hx195_0)).trans hx195_0
               have HR195_0 := am_ hi195_0
               have HC195_0 := am_ hl195_0
               clear hi195_0 hl195_0
               replace p195 := eq_true p195
               replace q195 := eq_true q195
               obtain ⟨Ao20, co20, eo20⟩ := Kd.R_slice HO_7.out
               subst eo20
               have p196 : 0 ≤ (x8_1 : Int) := of_decide_eq_true (by first | (with_reducible assumption) | assumption)
               have q196 : x8_1 < (x7_2.length : Int) := of_decide_eq_true (by first | (with_reducible assumption) | assumption)
               obtain ⟨ad196, e196, hx196_0⟩ := Kd.at_int (Kd.R_reads' HO_7.out).2.2 x8_1 p196 q196
               cases e196
               replace p196 := eq_true p196
               replace q196 := eq_true q196
               have p197 : 0 ≤ ((rd x7_2 x8_1) : Int) := of_decide_eq_true (by first | (with_reducible assumption) | assumption)
               have q197 : (rd x7_2 x8_1) < ((rd_L1 l1 x9_2).length : Int) := of_decide_eq_true (by first | (with_reducible assumption) | assumption)
               obtain ⟨ad197, e197, hx197_0⟩ := Kd.at_int HR195_0.out (rd x7_2 x8_1) p197 q197
               cases e197
               replace hx197_0 := (HB.out.cell (World.block_lt_of_cell? w _ hx197_0)).trans hx197_0
               replace p197 := eq_true p197
               replace q197 := eq_true q197
               go_wp2_with (first | (go_at_call 85; (with_reducible refine (spec_l25Has.calls k2 _ _ x7_2 (rd (rd_L1 l1 x9_2) (rd x7_2 x8_1)) true _ ?side1 ?side2 A18.out).mono ?_); (case side1 => repeat (first | exact (Kd.R_reads' HO_7.out).2.2 | (with_reducible refine Kd.C_alloc ?_ _) | (with_reducible refine Kd.C_drewN ?_ _) | (with_reducible refine Kd.C_drew ?_))); (case side2 => exact (Kd.R_reads' HO_7.out).2.1); rintro e w' ⟨rfl, ⟨nd, rfl⟩⟩; (try first | exact ⟨rfl, _, World.drewN_drewN _ _ _⟩ | exact ⟨rfl, _, Eq.trans (World.drewN_drewN _ _ _) (congrArg (World.drewN _) (Nat.add_assoc _ _ _))⟩)))
               repeat (go_quiet (first | (go_at_call 85; (with_reducible refine (spec_l25Has.calls k2 _ _ x7_2 (rd (rd_L1 l1 x9_2) (rd x7_2 x8_1)) true _ ?side1 ?side2 A18.out).mono ?_); (case side1 => repeat (first | exact (Kd.R_reads' HO_7.out).2.2 | (with_reducible refine Kd.C_alloc ?_ _) | (with_reducible refine Kd.C_drewN ?_ _) | (with_reducible refine Kd.C_drew ?_))); (case side2 => exact (Kd.R_reads' HO_7.out).2.1); rintro e w' ⟨rfl, ⟨nd, rfl⟩⟩; (try first | exact ⟨rfl, _, World.drewN_drewN _ _ _⟩ | exact ⟨rfl, _, Eq.trans (World.drewN_drewN _ _ _) (congrArg (World.drewN _) (Nat.add_assoc _ _ _))⟩))); try go_wp2_with (first | (go_at_call 85; (with_reducible refine (spec_l25Has.calls k2 _ _ x7_2 (rd (rd_L1 l1 x9_2) (rd x7_2 x8_1)) true _ ?side1 ?side2 A18.out).mono ?_); (case side1 => repeat (first | exact (Kd.R_reads' HO_7.out).2.2 | (with_reducible refine Kd.C_alloc ?_ _) | (with_reducible refine Kd.C_drewN ?_ _) | (with_reducible refine Kd.C_drew ?_))); (case side2 => exact (Kd.R_reads' HO_7.out).2.1); rintro e w' ⟨rfl, ⟨nd, rfl⟩⟩; (try first | exact ⟨rfl, _, World.drewN_drewN _ _ _⟩ | exact ⟨rfl, _, Eq.trans (World.drewN_drewN _ _ _) (congrArg (World.drewN _) (Nat.add_assoc _ _ _))⟩))))
               go_roundg k2
               case measure => have := HK1.out; have := HK2.out; omega
               case rel => exact ⟨(x6_2), (x7_2), (wrap64 (x9_2 + 1)), (by first | rfl | (simp; done) | (simp [*]; done)), H', ⟨by have := HK1.out; have := HK2.out; omega⟩, ⟨rk_ HO_6.out⟩, ⟨rk_ HO_7.out⟩, ⟨bb_ HB.out⟩⟩
              ·replace c19 := Bool.eq_false_iff.mpr c19
               subst c19
               have H1 : (if x7_2.length < 17592186044416 then ((some (x7_2 ++ [rd (rd_L1 l1 x9_2) (rd x7_2 x8_1)] : List Int)).bind fun y199 => (if x8_1 < (y199.length : Int) then (if 0 ≤ (wrap64 ((wrap64 ((rd y199 x8_1) * (l1.length : Int))) + x9_2)) then (if (wrap64 ((wrap64 ((rd y199 x8_1) * (l1.length : Int))) + x9_2)) < (x6_2.length : Int) then (spec_l05Names.l1 k2 a0 l1 (x6_2.set ((wrap64 ((wrap64 ((rd y199 x8_1) * (l1.length : Int))) + x9_2)) : Int).toNat true) y199 x8_1 (wrap64 (x9_2 + 1))) else (none)) else (none)) else (none))) else (none)) = some (r1, r2) := by rw [if_neg (show ¬ (false = true) by decide)] at H; exact H
               clear H
               have H := H1
               clear H1
               by_cases c21 : x7_2.length < 17592186044416
               ·rw [if_pos c21] at H
                have LMc21 := am_ c21
                clear c21
                obtain ⟨y199, hy199⟩ : ∃ y_ : List Int, y_ = (x7_2 ++ [rd (rd_L1 l1 x9_2) (rd x7_2 x8_1)]) := ⟨_, rfl⟩
                replace H : (if x8_1 < (y199.length : Int) then (if 0 ≤ (wrap64 ((wrap64 ((rd y199 x8_1) * (l1.length : Int))) + x9_2)) then (if (wrap64 ((wrap64 ((rd y199 x8_1) * (l1.length : Int))) + x9_2)) < (x6_2.length : Int) then (spec_l05Names.l1 k2 a0 l1 (x6_2.set ((wrap64 ((wrap64 ((rd y199 x8_1) * (l1.length : Int))) + x9_2)) : Int).toNat true) y199 x8_1 (wrap64 (x9_2 + 1))) else (none)) else (none)) else (none)) = some (r1, r2) := by first | (rw [hy199]; with_reducible exact H) | (have H2_ := (Option.bind_some _ _).symm.trans H; rw [hy199]; with_reducible exact H2_) | (have H2_ := (Option.bind_some _ _).symm.trans H; with_reducible exact H2_) | with_reducible exact H | (rw [hy199]; exact H) | exact H
                have Ny199 := am_ hy199
                clear hy199
                by_cases c22 : x8_1 < (y199.length : Int)
                ·rw [if_pos c22] at H
                 have c22b0 : decide (x8_1 < (y199.length : Int)) = true := decide_eq_true c22
                 clear c22
                 obtain ⟨ji23, hji23⟩ : ∃ j_ : Int, (wrap64 ((wrap64 ((rd y199 x8_1) * (l1.length : Int))) + x9_2)) = j_ := ⟨_, rfl⟩
                 replace H : (if 0 ≤ (ji23) then (if (ji23) < (x6_2.length : Int) then (spec_l05Names.l1 k2 a0 l1 (x6_2.set ((ji23) : Int).toNat true) y199 x8_1 (wrap64 (x9_2 + 1))) else (none)) else (none)) = some (r1, r2) := by first | (rw [hji23] at H; exact H) | (simp only [hji23] at H ⊢; exact H)
                 (try rw [hji23] at A18)
                 have hji23w : (IntKind.i64.wrap ((wrap64 ((rd y199 x8_1) * (l1.length : Int))) + x9_2)) = ji23 := (i64_w _).trans hji23
                 by_cases c24 : 0 ≤ (ji23)
                 ·rw [if_pos c24] at H
                  have c24b0 : decide (0 ≤ (ji23)) = true := decide_eq_true c24
                  clear c24
                  by_cases c25 : (ji23) < (x6_2.length : Int)
                  ·rw [if_pos c25] at H
                   have c25b0 : decide ((ji23) < (x6_2.length : Int)) = true := decide_eq_true c25
                   clear c25
                   obtain ⟨y203, hy203⟩ : ∃ y_ : List Bool, y_ = (x6_2.set ((ji23) : Int).toNat true) := ⟨_, rfl⟩
                   replace H : (spec_l05Names.l1 k2 a0 l1 y203 y199 x8_1 (wrap64 (x9_2 + 1))) = some (r1, r2) := by first | (rw [hy203]; with_reducible exact H) | (have H2_ := (Option.bind_some _ _).symm.trans H; rw [hy203]; with_reducible exact H2_) | (have H2_ := (Option.bind_some _ _).symm.trans H; with_reducible exact H2_) | with_reducible exact H | (rw [hy203]; exact H) | exact H
                   have Ny203 := am_ hy203
                   clear hy203
                   have H' := am_ H
                   clear H
                   have p195 : 0 ≤ (x9_2 : Int) := of_decide_eq_true (by first | (with_reducible assumption) | assumption)
                   have q195 : x9_2 < (l1.length : Int) := of_decide_eq_true (by first | (with_reducible assumption) | assumption)
                   obtain ⟨ad195, A195_0, c195_0, e195, hx195_0, hl195_0, hi195_0⟩ := at_L1 HR1.out x9_2 p195 q195
                   cases e195
                   replace hx195_0 := (HB.out.cell (World.block_lt_of_cell? w _ hx195_0)).trans hx195_0
                   have HR195_0 := am_ hi195_0
                   have HC195_0 := am_ hl195_0
                   clear hi195_0 hl195_0
                   replace p195 := eq_true p195
                   replace q195 := eq_true q195
                   obtain ⟨Ao27, co27, eo27⟩ := Kd.R_slice HO_7.out
                   subst eo27
                   have p196 : 0 ≤ (x8_1 : Int) := of_decide_eq_true (by first | (with_reducible assumption) | assumption)
                   have q196 : x8_1 < (x7_2.length : Int) := of_decide_eq_true (by first | (with_reducible assumption) | assumption)
                   obtain ⟨ad196, e196, hx196_0⟩ := Kd.at_int (Kd.R_reads' HO_7.out).2.2 x8_1 p196 q196
                   cases e196
                   replace p196 := eq_true p196
                   replace q196 := eq_true q196
                   have p197 : 0 ≤ ((rd x7_2 x8_1) : Int) := of_decide_eq_true (by first | (with_reducible assumption) | assumption)
                   have q197 : (rd x7_2 x8_1) < ((rd_L1 l1 x9_2).length : Int) := of_decide_eq_true (by first | (with_reducible assumption) | assumption)
                   obtain ⟨ad197, e197, hx197_0⟩ := Kd.at_int HR195_0.out (rd x7_2 x8_1) p197 q197
                   cases e197
                   replace hx197_0 := (HB.out.cell (World.block_lt_of_cell? w _ hx197_0)).trans hx197_0
                   replace p197 := eq_true p197
                   replace q197 := eq_true q197
                   go_wp2_with (first | (go_at_call 85; (with_reducible refine (spec_l25Has.calls k2 _ _ x7_2 (rd (rd_L1 l1 x9_2) (rd x7_2 x8_1)) false _ ?side1 ?side2 A18.out).mono ?_); (case side1 => repeat (first | exact (Kd.R_reads' HO_7.out).2.2 | (with_reducible refine Kd.C_alloc ?_ _) | (with_reducible refine Kd.C_drewN ?_ _) | (with_reducible refine Kd.C_drew ?_))); (case side2 => exact (Kd.R_reads' HO_7.out).2.1); rintro e w' ⟨rfl, ⟨nd, rfl⟩⟩; (try first | exact ⟨rfl, _, World.drewN_drewN _ _ _⟩ | exact ⟨rfl, _, Eq.trans (World.drewN_drewN _ _ _) (congrArg (World.drewN _) (Nat.add_assoc _ _ _))⟩)) | ((with_reducible refine gate_builtin (b := .append) (xs := #[.tmp 48, .tmp 50]) rfl ?_); at_builtin; refine Kd.R_append (Kd.int .i64) (w0 := w) w.heap.size rfl (.tmp 48) (.tmp 50) 39 2 (.int .i64 0) 8 rfl Try.underlying39 info2 rfl (by decide) (by omega) (.slice (some ad196) x7_2.length co27) x7_2 (rd (rd_L1 l1 x9_2) (rd x7_2 x8_1)) [.int .i64 (rd (rd_L1 l1 x9_2) (rd x7_2 x8_1))] (fun _ => True) (fun _ => False) rfl rfl ?aP (fun _ hk => hk.elim) ?aF ?aO ?aB ?aS ?aL ?_; (case aP => exact rfl); (case aB => exact (bb_ HB.out)); (case aF => exact (fun _ _ => trivial)); (case aO => exact (rk_ HO_7.out)); (case aS => exact (below_size (bb_ HB.out))); (case aL => have := LMc21.out; omega); intro v200 w28 ho hb hg hat; rw [← Ny199.out] at ho; have n0_ := am_ (Kd.R_over' (rk_ HO_6.out) (Kd.R_typed (rk_ HO_7.out)) (by decide) hg); have n1_ := am_ (hb); have n2_ := am_ (ho); clear HO_6 HB HO_7; revert n0_ n1_ n2_; intro HO_6 HB HO201; clear ho hb hg hat; obtain ⟨Ao29, co29, eo29⟩ := Kd.R_slice HO201.out; subst eo29; have p202 : 0 ≤ (x8_1 : Int) := of_decide_eq_true (by first | (with_reducible assumption) | assumption); have q202 : x8_1 < (y199.length : Int) := of_decide_eq_true (by first | (with_reducible assumption) | assumption); obtain ⟨ad202, e202, hx202_0⟩ := Kd.at_int (Kd.R_reads' HO201.out).2.2 x8_1 p202 q202; cases e202; replace p202 := eq_true p202; replace q202 := eq_true q202; have p26 : 0 ≤ ((ji23) : Int) := of_decide_eq_true (by first | (with_reducible assumption) | assumption); have q26 : ((ji23) : Int) < ((x6_2.length : Int) : Int) := of_decide_eq_true (by first | (with_reducible assumption) | assumption); obtain ⟨go26, co26, eo26, gb26, gl26, cl26, HG26⟩ := Kd.R_form HO_6.out (by omega); (first | cases eo26 | (injection eo26 with ea_ en_ ec_; (first | subst ea_ | (injection ea_ with ea_; subst ea_)); subst ec_; clear en_)); have GB26 := am_ gb26; have GG26 := am_ HG26; clear gb26 gl26 HG26; obtain ⟨hx26_0, hf26_0⟩ := Kd.R_celln false HO_6.out ((ji23) : Int) p26 q26; replace p26 := eq_true p26; replace q26 := eq_true q26; obtain ⟨hy30_, hz30_⟩ := Kd.R_celln false HO_6.out ((ji23) : Int) (of_decide_eq_true (by first | (with_reducible assumption) | assumption)) (of_decide_eq_true (by first | (with_reducible assumption) | assumption)); have HP30 := Kd.R_putg HO_6.out ((ji23) : Int) true) | ((with_reducible refine gate_store (t := 4) (p := 62) rfl ?_); (try (rw [drewN_self w28]; generalize hq_ : World.drewN w28 _ = w28; have n0_ := am_ (Kd.R_at hq_ HO_6.out); have n1_ := am_ (Kd.R_at hq_ HO201.out); have n2_ := am_ (below_at hq_ HB.out); clear hq_ HO_6 HO201 HB; have HO_6 := n0_; have HO201 := n1_; have HB := n2_; clear n0_ n1_ n2_; (try (obtain ⟨hy30_, hz30_⟩ := Kd.R_celln false HO_6.out ((ji23) : Int) (of_decide_eq_true (by first | (with_reducible assumption) | assumption)) (of_decide_eq_true (by first | (with_reducible assumption) | assumption)))); (try (have HP30 := Kd.R_putg HO_6.out ((ji23) : Int) true)))); refine store_event (t := 4) (p := 62) (v := ?vo_w31) (w1 := (w28.setCell ⟨go26, ((ji23) : Int).toNat, none⟩ (.bool true))) ?hg ?ho ?hn ?hr ?_; (case ho => rfl); (case hg => rfl); (case hn => rfl); (case hr => first | (go_simp; done) | (go_simp; rfl)); intro w31 hw; have hg : w28.grownBy w31 (some go26) := (by rw [hw]; exact HP30.2); have hp_ : Kd.R Kd.bool 4 w31 w.heap.size (fun _ => True) (.slice (some ⟨go26, 0, none⟩) x6_2.length co26) y203 := (by rw [hw, Ny203.out]; exact HP30.1); clear HP30; have n0_ := am_ (hp_); have n1_ := am_ (Kd.R_over' (v := (.slice (some ⟨go26, 0, none⟩) x6_2.length co26)) (rk_ HO201.out) (Kd.R_typed HO_6.out) (by decide) hg); have n2_ := am_ ((by rw [hw]; exact below_set (HB.out) GB26.out : Below w.heap.size w w31)); clear HO_6 HO201 HB; revert n0_ n1_ n2_; intro HO_6 HO201 HB; clear hg hw hp_))
                   repeat (go_quiet (first | (go_at_call 85; (with_reducible refine (spec_l25Has.calls k2 _ _ x7_2 (rd (rd_L1 l1 x9_2) (rd x7_2 x8_1)) false _ ?side1 ?side2 A18.out).mono ?_); (case side1 => repeat (first | exact (Kd.R_reads' HO_7.out).2.2 | (with_reducible refine Kd.C_alloc ?_ _) | (with_reducible refine Kd.C_drewN ?_ _) | (with_reducible refine Kd.C_drew ?_))); (case side2 => exact (Kd.R_reads' HO_7.out).2.1); rintro e w' ⟨rfl, ⟨nd, rfl⟩⟩; (try first | exact ⟨rfl, _, World.drewN_drewN _ _ _⟩ | exact ⟨rfl, _, Eq.trans (World.drewN_drewN _ _ _) (congrArg (World.drewN _) (Nat.add_assoc _ _ _))⟩)) | ((with_reducible refine gate_builtin (b := .append) (xs := #[.tmp 48, .tmp 50]) rfl ?_); at_builtin; refine Kd.R_append (Kd.int .i64) (w0 := w) w.heap.size rfl (.tmp 48) (.tmp 50) 39 2 (.int .i64 0) 8 rfl Try.underlying39 info2 rfl (by decide) (by omega) (.slice (some ad196) x7_2.length co27) x7_2 (rd (rd_L1 l1 x9_2) (rd x7_2 x8_1)) [.int .i64 (rd (rd_L1 l1 x9_2) (rd x7_2 x8_1))] (fun _ => True) (fun _ => False) rfl rfl ?aP (fun _ hk => hk.elim) ?aF ?aO ?aB ?aS ?aL ?_; (case aP => exact rfl); (case aB => exact (bb_ HB.out)); (case aF => exact (fun _ _ => trivial)); (case aO => exact (rk_ HO_7.out)); (case aS => exact (below_size (bb_ HB.out))); (case aL => have := LMc21.out; omega); intro v200 w28 ho hb hg hat; rw [← Ny199.out] at ho; have n0_ := am_ (Kd.R_over' (rk_ HO_6.out) (Kd.R_typed (rk_ HO_7.out)) (by decide) hg); have n1_ := am_ (hb); have n2_ := am_ (ho); clear HO_6 HB HO_7; revert n0_ n1_ n2_; intro HO_6 HB HO201; clear ho hb hg hat; obtain ⟨Ao29, co29, eo29⟩ := Kd.R_slice HO201.out; subst eo29; have p202 : 0 ≤ (x8_1 : Int) := of_decide_eq_true (by first | (with_reducible assumption) | assumption); have q202 : x8_1 < (y199.length : Int) := of_decide_eq_true (by first | (with_reducible assumption) | assumption); obtain ⟨ad202, e202, hx202_0⟩ := Kd.at_int (Kd.R_reads' HO201.out).2.2 x8_1 p202 q202; cases e202; replace p202 := eq_true p202; replace q202 := eq_true q202; have p26 : 0 ≤ ((ji23) : Int) := of_decide_eq_true (by first | (with_reducible assumption) | assumption); have q26 : ((ji23) : Int) < ((x6_2.length : Int) : Int) := of_decide_eq_true (by first | (with_reducible assumption) | assumption); obtain ⟨go26, co26, eo26, gb26, gl26, cl26, HG26⟩ := Kd.R_form HO_6.out (by omega); (first | cases eo26 | (injection eo26 with ea_ en_ ec_; (first | subst ea_ | (injection ea_ with ea_; subst ea_)); subst ec_; clear en_)); have GB26 := am_ gb26; have GG26 := am_ HG26; clear gb26 gl26 HG26; obtain ⟨hx26_0, hf26_0⟩ := Kd.R_celln false HO_6.out ((ji23) : Int) p26 q26; replace p26 := eq_true p26; replace q26 := eq_true q26; obtain ⟨hy30_, hz30_⟩ := Kd.R_celln false HO_6.out ((ji23) : Int) (of_decide_eq_true (by first | (with_reducible assumption) | assumption)) (of_decide_eq_true (by first | (with_reducible assumption) | assumption)); have HP30 := Kd.R_putg HO_6.out ((ji23) : Int) true) | ((with_reducible refine gate_store (t := 4) (p := 62) rfl ?_); (try (rw [drewN_self w28]; generalize hq_ : World.drewN w28 _ = w28; have n0_ := am_ (Kd.R_at hq_ HO_6.out); have n1_ := am_ (Kd.R_at hq_ HO201.out); have n2_ := am_ (below_at hq_ HB.out); clear hq_ HO_6 HO201 HB; have HO_6 := n0_; have HO201 := n1_; have HB := n2_; clear n0_ n1_ n2_; (try (obtain ⟨hy30_, hz30_⟩ := Kd.R_celln false HO_6.out ((ji23) : Int) (of_decide_eq_true (by first | (with_reducible assumption) | assumption)) (of_decide_eq_true (by first | (with_reducible assumption) | assumption)))); (try (have HP30 := Kd.R_putg HO_6.out ((ji23) : Int) true)))); refine store_event (t := 4) (p := 62) (v := ?vo_w31) (w1 := (w28.setCell ⟨go26, ((ji23) : Int).toNat, none⟩ (.bool true))) ?hg ?ho ?hn ?hr ?_; (case ho => rfl); (case hg => rfl); (case hn => rfl); (case hr => first | (go_simp; done) | (go_simp; rfl)); intro w31 hw; have hg : w28.grownBy w31 (some go26) := (by rw [hw]; exact HP30.2); have hp_ : Kd.R Kd.bool 4 w31 w.heap.size (fun _ => True) (.slice (some ⟨go26, 0, none⟩) x6_2.length co26) y203 := (by rw [hw, Ny203.out]; exact HP30.1); clear HP30; have n0_ := am_ (hp_); have n1_ := am_ (Kd.R_over' (v := (.slice (some ⟨go26, 0, none⟩) x6_2.length co26)) (rk_ HO201.out) (Kd.R_typed HO_6.out) (by decide) hg); have n2_ := am_ ((by rw [hw]; exact below_set (HB.out) GB26.out : Below w.heap.size w w31)); clear HO_6 HO201 HB; revert n0_ n1_ n2_; intro HO_6 HO201 HB; clear hg hw hp_)); try go_wp2_with (first | (go_at_call 85; (with_reducible refine (spec_l25Has.calls k2 _ _ x7_2 (rd (rd_L1 l1 x9_2) (rd x7_2 x8_1)) false _ ?side1 ?side2 A18.out).mono ?_); (case side1 => repeat (first | exact (Kd.R_reads' HO_7.out).2.2 | (with_reducible refine Kd.C_alloc ?_ _) | (with_reducible refine Kd.C_drewN ?_ _) | (with_reducible refine Kd.C_drew ?_))); (case side2 => exact (Kd.R_reads' HO_7.out).2.1); rintro e w' ⟨rfl, ⟨nd, rfl⟩⟩; (try first | exact ⟨rfl, _, World.drewN_drewN _ _ _⟩ | exact ⟨rfl, _, Eq.trans (World.drewN_drewN _ _ _) (congrArg (World.drewN _) (Nat.add_assoc _ _ _))⟩)) | ((with_reducible refine gate_builtin (b := .append) (xs := #[.tmp 48, .tmp 50]) rfl ?_); at_builtin; refine Kd.R_append (Kd.int .i64) (w0 := w) w.heap.size rfl (.tmp 48) (.tmp 50) 39 2 (.int .i64 0) 8 rfl Try.underlying39 info2 rfl (by decide) (by omega) (.slice (some ad196) x7_2.length co27) x7_2 (rd (rd_L1 l1 x9_2) (rd x7_2 x8_1)) [.int .i64 (rd (rd_L1 l1 x9_2) (rd x7_2 x8_1))] (fun _ => True) (fun _ => False) rfl rfl ?aP (fun _ hk => hk.elim) ?aF ?aO ?aB ?aS ?aL ?_; (case aP => exact rfl); (case aB => exact (bb_ HB.out)); (case aF => exact (fun _ _ => trivial)); (case aO => exact (rk_ HO_7.out)); (case aS => exact (below_size (bb_ HB.out))); (case aL => have := LMc21.out; omega); intro v200 w28 ho hb hg hat; rw [← Ny199.out] at ho; have n0_ := am_ (Kd.R_over' (rk_ HO_6.out) (Kd.R_typed (rk_ HO_7.out)) (by decide) hg); have n1_ := am_ (hb); have n2_ := am_ (ho); clear HO_6 HB HO_7; revert n0_ n1_ n2_; intro HO_6 HB HO201; clear ho hb hg hat; obtain ⟨Ao29, co29, eo29⟩ := Kd.R_slice HO201.out; subst eo29; have p202 : 0 ≤ (x8_1 : Int) := of_decide_eq_true (by first | (with_reducible assumption) | assumption); have q202 : x8_1 < (y199.length : Int) := of_decide_eq_true (by first | (with_reducible assumption) | assumption); obtain ⟨ad202, e202, hx202_0⟩ := Kd.at_int (Kd.R_reads' HO201.out).2.2 x8_1 p202 q202; cases e202; replace p202 := eq_true p202; replace q202 := eq_true q202; have p26 : 0 ≤ ((ji23) : Int) := of_decide_eq_true (by first | (with_reducible assumption) | assumption); have q26 : ((ji23) : Int) < ((x6_2.length : Int) : Int) := of_decide_eq_true (by first | (with_reducible assumption) | assumption); obtain ⟨go26, co26, eo26, gb26, gl26, cl26, HG26⟩ := Kd.R_form HO_6.out (by omega); (first | cases eo26 | (injection eo26 with ea_ en_ ec_; (first | subst ea_ | (injection ea_ with ea_; subst ea_)); subst ec_; clear en_)); have GB26 := am_ gb26; have GG26 := am_ HG26; clear gb26 gl26 HG26; obtain ⟨hx26_0, hf26_0⟩ := Kd.R_celln false HO_6.out ((ji23) : Int) p26 q26; replace p26 := eq_true p26; replace q26 := eq_true q26; obtain ⟨hy30_, hz30_⟩ := Kd.R_celln false HO_6.out ((ji23) : Int) (of_decide_eq_true (by first | (with_reducible assumption) | assumption)) (of_decide_eq_true (by first | (with_reducible assumption) | assumption)); have HP30 := Kd.R_putg HO_6.out ((ji23) : Int) true) | ((with_reducible refine gate_store (t := 4) (p := 62) rfl ?_); (try (rw [drewN_self w28]; generalize hq_ : World.drewN w28 _ = w28; have n0_ := am_ (Kd.R_at hq_ HO_6.out); have n1_ := am_ (Kd.R_at hq_ HO201.out); have n2_ := am_ (below_at hq_ HB.out); clear hq_ HO_6 HO201 HB; have HO_6 := n0_; have HO201 := n1_; have HB := n2_; clear n0_ n1_ n2_; (try (obtain ⟨hy30_, hz30_⟩ := Kd.R_celln false HO_6.out ((ji23) : Int) (of_decide_eq_true (by first | (with_reducible assumption) | assumption)) (of_decide_eq_true (by first | (with_reducible assumption) | assumption)))); (try (have HP30 := Kd.R_putg HO_6.out ((ji23) : Int) true)))); refine store_event (t := 4) (p := 62) (v := ?vo_w31) (w1 := (w28.setCell ⟨go26, ((ji23) : Int).toNat, none⟩ (.bool true))) ?hg ?ho ?hn ?hr ?_; (case ho => rfl); (case hg => rfl); (case hn => rfl); (case hr => first | (go_simp; done) | (go_simp; rfl)); intro w31 hw; have hg : w28.grownBy w31 (some go26) := (by rw [hw]; exact HP30.2); have hp_ : Kd.R Kd.bool 4 w31 w.heap.size (fun _ => True) (.slice (some ⟨go26, 0, none⟩) x6_2.length co26) y203 := (by rw [hw, Ny203.out]; exact HP30.1); clear HP30; have n0_ := am_ (hp_); have n1_ := am_ (Kd.R_over' (v := (.slice (some ⟨go26, 0, none⟩) x6_2.length co26)) (rk_ HO201.out) (Kd.R_typed HO_6.out) (by decide) hg); have n2_ := am_ ((by rw [hw]; exact below_set (HB.out) GB26.out : Below w.heap.size w w31)); clear HO_6 HO201 HB; revert n0_ n1_ n2_; intro HO_6 HO201 HB; clear hg hw hp_)))
                   go_roundg k2
                   case measure => have := HK1.out; have := HK2.out; omega
                   case rel => exact ⟨(y203), (y199), (wrap64 (x9_2 + 1)), (by first | rfl | (simp; done) | (simp [*]; done)), H', ⟨by have := HK1.out; have := HK2.out; omega⟩, ⟨rk_ HO_6.out⟩, ⟨rk_ HO201.out⟩, ⟨bb_ HB.out⟩⟩
                  ·rw [if_neg c25] at H
                   exact absurd H (by simp)
                 ·rw [if_neg c24] at H
                  exact absurd H (by simp)
                ·rw [if_neg c22] at H
                 exact absurd H (by simp)
               ·rw [if_neg c21] at H
                exact absurd H (by simp)
             ·rw [if_neg c17] at H
              exact absurd H (by simp)
            ·rw [if_neg c16] at H
             exact absurd H (by simp)
           ·rw [if_neg c15] at H
            exact absurd H (by simp)
          ·rw [if_neg c14] at H
           exact absurd H (by simp)
         ·rw [if_neg c13] at H
          exact absurd H (by simp)
        ·rw [if_neg c12] at H
         have c12b0 : decide (x9_2 < (l1.length : Int)) = false := decide_eq_false c12
         clear c12
         have H' := am_ H
         clear H
         go_wp2
         repeat (go_quiet (fail); try go_wp2)
         go_roundg k2
         case measure => have := HK1.out; have := HK2.out; omega
         case rel => exact ⟨(x6_2), (x7_2), (wrap64 (x8_1 + 1)), (by first | rfl | (simp; done) | (simp [*]; done)), H', ⟨by have := HK1.out; have := HK2.out; omega⟩, ⟨rk_ HO_6.out⟩, ⟨rk_ HO_7.out⟩, ⟨bb_ HB.out⟩⟩
     ·rw [if_neg c10] at H
      have c10b0 : decide (x8_1 < (x7_1.length : Int)) = false := decide_eq_false c10
      clear c10
      obtain ⟨y204, hy204⟩ : ∃ y_ : List (List Int), y_ = (([] : List (List Int))) := ⟨_, rfl⟩
      replace H : (spec_l05Names.l2 k1 a0 l1 x6_1 y204 0 0) = some (r1, r2) := by first | (rw [hy204]; with_reducible exact H) | (have H2_ := (Option.bind_some _ _).symm.trans H; rw [hy204]; with_reducible exact H2_) | (have H2_ := (Option.bind_some _ _).symm.trans H; with_reducible exact H2_) | with_reducible exact H | (rw [hy204]; exact H) | exact H
      have Ny204 := am_ hy204
      clear hy204
      have H' := am_ H
      clear H
      obtain ⟨Ao32, co32, eo32⟩ := Kd.R_slice HO_7.out
      subst eo32
      go_wp2_with (first | ((with_reducible refine gate_dst (N := 63) rfl ?_); refine Kd.S_lit (Kd.slice 2 (Kd.int .i64)) _ 39 ?hg (N := 63) ?hd (xs := ([] : List (List Int))) (inner := []) (ok := fun _ => True) (okp := fun _ => True) ?hr ?hp (fun _ hk => hk) trivial (Below.refl _ _) (Nat.le_refl _) (by simp) ?_; (case hd => rfl); (case hg => rfl); (case hr => first | (go_simp; done) | (go_simp; rfl)); (case hp => exact (Reps.none _ _)); intro v205 w33 ho34 hb hg_ hnew_; clear hg_ hnew_; (first | rw [← Ny204.out] at ho34 | (simp only [Int.reduceToNat] at ho34; rw [← Ny204.out] at ho34)); have n0_ := am_ (Kd.R_below (rk_ HO_6.out) hb); have n1_ := am_ (Kd.R_below (rk_ HO_7.out) hb); have n2_ := am_ (Kd.S_lower (Kd.S_new' ho34 (Kd.R_lt (rk_ HO_7.out))) (below_size (bb_ HB.out))); have n3_ := am_ (below_step (bb_ HB.out) hb); clear HO_6 HO_7 HB; revert n0_ n1_ n2_ n3_; intro HO_6 HO_7 HO206 HB; clear hb ho34))
      repeat (go_quiet (first | ((with_reducible refine gate_dst (N := 63) rfl ?_); refine Kd.S_lit (Kd.slice 2 (Kd.int .i64)) _ 39 ?hg (N := 63) ?hd (xs := ([] : List (List Int))) (inner := []) (ok := fun _ => True) (okp := fun _ => True) ?hr ?hp (fun _ hk => hk) trivial (Below.refl _ _) (Nat.le_refl _) (by simp) ?_; (case hd => rfl); (case hg => rfl); (case hr => first | (go_simp; done) | (go_simp; rfl)); (case hp => exact (Reps.none _ _)); intro v205 w33 ho34 hb hg_ hnew_; clear hg_ hnew_; (first | rw [← Ny204.out] at ho34 | (simp only [Int.reduceToNat] at ho34; rw [← Ny204.out] at ho34)); have n0_ := am_ (Kd.R_below (rk_ HO_6.out) hb); have n1_ := am_ (Kd.R_below (rk_ HO_7.out) hb); have n2_ := am_ (Kd.S_lower (Kd.S_new' ho34 (Kd.R_lt (rk_ HO_7.out))) (below_size (bb_ HB.out))); have n3_ := am_ (below_step (bb_ HB.out) hb); clear HO_6 HO_7 HB; revert n0_ n1_ n2_ n3_; intro HO_6 HO_7 HO206 HB; clear hb ho34)); try go_wp2_with (first | ((with_reducible refine gate_dst (N := 63) rfl ?_); refine Kd.S_lit (Kd.slice 2 (Kd.int .i64)) _ 39 ?hg (N := 63) ?hd (xs := ([] : List (List Int))) (inner := []) (ok := fun _ => True) (okp := fun _ => True) ?hr ?hp (fun _ hk => hk) trivial (Below.refl _ _) (Nat.le_refl _) (by simp) ?_; (case hd => rfl); (case hg => rfl); (case hr => first | (go_simp; done) | (go_simp; rfl)); (case hp => exact (Reps.none _ _)); intro v205 w33 ho34 hb hg_ hnew_; clear hg_ hnew_; (first | rw [← Ny204.out] at ho34 | (simp only [Int.reduceToNat] at ho34; rw [← Ny204.out] at ho34)); have n0_ := am_ (Kd.R_below (rk_ HO_6.out) hb); have n1_ := am_ (Kd.R_below (rk_ HO_7.out) hb); have n2_ := am_ (Kd.S_lower (Kd.S_new' ho34 (Kd.R_lt (rk_ HO_7.out))) (below_size (bb_ HB.out))); have n3_ := am_ (below_step (bb_ HB.out) hb); clear HO_6 HO_7 HB; revert n0_ n1_ n2_ n3_; intro HO_6 HO_7 HO206 HB; clear hb ho34)))
      go_loopg [11, 12, 13] k1 (fun kq v11 v12 v13 w' => ∃ (x11_2 : List (List Int)) (x12_2 : Int) (x13_2 : Int), v12 = .int .i64 x12_2 ∧ v13 = .int .i64 x13_2 ∧ Aside0 (spec_l05Names.l2 kq a0 l1 x6_1 x11_2 x12_2 x13_2 = some (r1, r2)) ∧ Aside0 (kq ≤ k1) ∧ Aside0 (Kd.R Kd.bool 4 w' w.heap.size (fun _ => True) v190 x6_1) ∧ Aside0 (Kd.S (Kd.slice 2 (Kd.int .i64)) 39 w' w.heap.size (fun _ => True) v11 x11_2) ∧ Aside0 (Below w.heap.size w w'))
      case atStart => exact ⟨(y204), (0), (0), (by first | rfl | (simp; done) | (simp [*]; done)), (by first | rfl | (simp; done) | (simp [*]; done)), H', ⟨Nat.le_refl _⟩, ⟨rk_ HO_6.out⟩, ⟨by (with_reducible repeat (first | apply Kd.S_alloc | apply Kd.S_drewN | apply Kd.S_drew)); exact Kd.S_mono HO206.out (fun _ hk => trivial)⟩, ⟨bb_ HB.out⟩⟩
      case round =>
       clear H'
       try clear c1
       try clear p1
       try clear q1
       try clear hx1
       try clear c2
       try clear p2
       try clear q2
       try clear hx2
       try clear hf2
       try clear c4
       try clear c4b0
       try clear c4b1
       try clear c5
       try clear c5b0
       try clear c5b1
       try clear p6
       try clear c10
       try clear c10b0
       try clear c12
       try clear c12b0
       try clear c13
       try clear c13b0
       try clear c14
       try clear c14b0
       try clear c15
       try clear c15b0
       try clear c16
       try clear c16b0
       try clear c17
       try clear c17b0
       try clear c19
       try clear p19
       try clear q19
       try clear hx19
       try clear p20
       try clear q20
       try clear hx20
       try clear c21
       try clear c22
       try clear c22b0
       try clear c24
       try clear c24b0
       try clear c25
       try clear c25b0
       try clear p26
       try clear q26
       try clear hx26
       try clear hf26
       try clear hx195_0
       try clear hx196_0
       try clear hx197_0
       try clear hx202_0
       try clear hx26_0
       try clear p195
       try clear p196
       try clear p197
       try clear p2
       try clear p202
       try clear p26
       try clear p6
       try clear q195
       try clear q196
       try clear q197
       try clear q202
       try clear q26
       obtain ⟨x11_2, x12_2, x13_2, rfl, rfl, HA, HK2, HO_6, HO_11, HB⟩ := hrel
       cases gk with
       | zero => exact absurd HA.out (by simp [spec_l05Names.l2])
       | succ k2 =>
        have H := HA.out
        clear HA
        simp only [spec_l05Names.l2] at H
        by_cases c35 : x13_2 < a0
        ·rw [if_pos c35] at H
         have c35b0 : decide (x13_2 < a0) = true := decide_eq_true c35
         clear c35
         obtain ⟨y207, hy207⟩ : ∃ y_ : List Int, y_ = (([] : List Int)) := ⟨_, rfl⟩
         replace H : (spec_l05Names.l3 k2 a0 l1 x6_1 x11_2 x12_2 x13_2 y207 0) = some (r1, r2) := by first | (rw [hy207]; with_reducible exact H) | (have H2_ := (Option.bind_some _ _).symm.trans H; rw [hy207]; with_reducible exact H2_) | (have H2_ := (Option.bind_some _ _).symm.trans H; with_reducible exact H2_) | with_reducible exact H | (rw [hy207]; exact H) | exact H
         have Ny207 := am_ hy207
         clear hy207
         have H' := am_ H
         clear H
         go_wp2_with (first | ((with_reducible refine gate_dst (N := 69) rfl ?_); refine Kd.R_lit (Kd.int .i64) _ 2 ?hg (N := 69) ?hd (xs := ([] : List Int)) (inner := []) (ok := fun _ => True) (okp := fun _ => True) ?hr ?hp (fun _ hk => hk) trivial (Below.refl _ _) (Nat.le_refl _) (by simp) ?_; (case hd => rfl); (case hg => rfl); (case hr => first | (go_simp; done) | (go_simp; rfl)); (case hp => exact (Reps.none _ _)); intro v208 w36 ho37 hb hg_ hnew_; clear hg_ hnew_; (first | rw [← Ny207.out] at ho37 | (simp only [Int.reduceToNat] at ho37; rw [← Ny207.out] at ho37)); have n0_ := am_ (Kd.R_below (rk_ HO_6.out) hb); have n1_ := am_ (Kd.S_elder' (by (with_reducible repeat (first | apply Kd.S_alloc | apply Kd.S_drewN | apply Kd.S_drew)); exact HO_11.out) (Kd.R_base ho37) hb); have n2_ := am_ (Kd.R_lower ho37 (below_size (bb_ HB.out))); have n3_ := am_ (below_step (bb_ HB.out) hb); clear HO_6 HO_11 HB; revert n0_ n1_ n2_ n3_; intro HO_6 HO_11 HO209 HB; clear hb ho37))
         repeat (go_quiet (first | ((with_reducible refine gate_dst (N := 69) rfl ?_); refine Kd.R_lit (Kd.int .i64) _ 2 ?hg (N := 69) ?hd (xs := ([] : List Int)) (inner := []) (ok := fun _ => True) (okp := fun _ => True) ?hr ?hp (fun _ hk => hk) trivial (Below.refl _ _) (Nat.le_refl _) (by simp) ?_; (case hd => rfl); (case hg => rfl); (case hr => first | (go_simp; done) | (go_simp; rfl)); (case hp => exact (Reps.none _ _)); intro v208 w36 ho37 hb hg_ hnew_; clear hg_ hnew_; (first | rw [← Ny207.out] at ho37 | (simp only [Int.reduceToNat] at ho37; rw [← Ny207.out] at ho37)); have n0_ := am_ (Kd.R_below (rk_ HO_6.out) hb); have n1_ := am_ (Kd.S_elder' (by (with_reducible repeat (first | apply Kd.S_alloc | apply Kd.S_drewN | apply Kd.S_drew)); exact HO_11.out) (Kd.R_base ho37) hb); have n2_ := am_ (Kd.R_lower ho37 (below_size (bb_ HB.out))); have n3_ := am_ (below_step (bb_ HB.out) hb); clear HO_6 HO_11 HB; revert n0_ n1_ n2_ n3_; intro HO_6 HO_11 HO209 HB; clear hb ho37)); try go_wp2_with (first | ((with_reducible refine gate_dst (N := 69) rfl ?_); refine Kd.R_lit (Kd.int .i64) _ 2 ?hg (N := 69) ?hd (xs := ([] : List Int)) (inner := []) (ok := fun _ => True) (okp := fun _ => True) ?hr ?hp (fun _ hk => hk) trivial (Below.refl _ _) (Nat.le_refl _) (by simp) ?_; (case hd => rfl); (case hg => rfl); (case hr => first | (go_simp; done) | (go_simp; rfl)); (case hp => exact (Reps.none _ _)); intro v208 w36 ho37 hb hg_ hnew_; clear hg_ hnew_; (first | rw [← Ny207.out] at ho37 | (simp only [Int.reduceToNat] at ho37; rw [← Ny207.out] at ho37)); have n0_ := am_ (Kd.R_below (rk_ HO_6.out) hb); have n1_ := am_ (Kd.S_elder' (by (with_reducible repeat (first | apply Kd.S_alloc | apply Kd.S_drewN | apply Kd.S_drew)); exact HO_11.out) (Kd.R_base ho37) hb); have n2_ := am_ (Kd.R_lower ho37 (below_size (bb_ HB.out))); have n3_ := am_ (below_step (bb_ HB.out) hb); clear HO_6 HO_11 HB; revert n0_ n1_ n2_ n3_; intro HO_6 HO_11 HO209 HB; clear hb ho37)))
         go_loopg [12, 14, 15] k2 (fun kq v12 v14 v15 w' => ∃ (x12_3 : Int) (x14_3 : List Int) (x15_3 : Int), v12 = .int .i64 x12_3 ∧ v15 = .int .i64 x15_3 ∧ Aside0 (spec_l05Names.l3 kq a0 l1 x6_1 x11_2 x12_3 x13_2 x14_3 x15_3 = some (r1, r2)) ∧ Aside0 (kq ≤ k2) ∧ Aside0 (Kd.R Kd.bool 4 w' w.heap.size (fun _ => True) v190 x6_1) ∧ Aside0 (Kd.S (Kd.slice 2 (Kd.int .i64)) 39 w' w.heap.size (fun k_ => some k_ ≠ (v14 : Value).ownBlock) u11 x11_2) ∧ Aside0 (Kd.R (Kd.int .i64) 2 w' w.heap.size (fun _ => True) v14 x14_3) ∧ Aside0 (Below w.heap.size w w'))
         case atStart => exact ⟨(x12_2), (y207), (0), (by first | rfl | (simp; done) | (simp [*]; done)), (by first | rfl | (simp; done) | (simp [*]; done)), H', ⟨Nat.le_refl _⟩, ⟨rk_ HO_6.out⟩, ⟨by (with_reducible repeat (first | apply Kd.S_alloc | apply Kd.S_drewN | apply Kd.S_drew)); exact Kd.S_mono HO_11.out (fun _ hk => hk.2)⟩, ⟨rk_ HO209.out⟩, ⟨bb_ HB.out⟩⟩
         case round =>
          clear H'
          try clear c1
          try clear p1
          try clear q1
          try clear hx1
          try clear c2
          try clear p2
          try clear q2
          try clear hx2
          try clear hf2
          try clear c3
          try clear c4
          try clear c4b0
          try clear c4b1
          try clear c5
          try clear c5b0
          try clear c5b1
          try clear p6
          try clear c10
          try clear c10b0
          try clear c12
          try clear c12b0
          try clear c13
          try clear c13b0
          try clear c14
          try clear c14b0
          try clear c15
          try clear c15b0
          try clear c16
          try clear c16b0
          try clear c17
          try clear c17b0
          try clear c19
          try clear p19
          try clear q19
          try clear hx19
          try clear p20
          try clear q20
          try clear hx20
          try clear c21
          try clear c22
          try clear c22b0
          try clear c24
          try clear c24b0
          try clear c25
          try clear c25b0
          try clear p26
          try clear q26
          try clear hx26
          try clear hf26
          try clear c35
          try clear c35b0
          try clear hx195_0
          try clear hx196_0
          try clear hx197_0
          try clear hx202_0
          try clear hx26_0
          try clear p1
          try clear p19
          try clear p195
          try clear p196
          try clear p197
          try clear p2
          try clear p20
          try clear p202
          try clear p26
          try clear p6
          try clear q1
          try clear q19
          try clear q195
          try clear q196
          try clear q197
          try clear q2
          try clear q20
          try clear q202
          try clear q26
          obtain ⟨x12_3, x14_3, x15_3, rfl, rfl, HA, HK3, HO_6, HO_11, HO_14, HB⟩ := hrel
          cases gk with
          | zero => exact absurd HA.out (by simp [spec_l05Names.l3])
          | succ k3 =>
           have H := HA.out
           clear HA
           simp only [spec_l05Names.l3] at H
           by_cases c38 : x15_3 < (l1.length : Int)
           ·rw [if_pos c38] at H
            have c38b0 : decide (x15_3 < (l1.length : Int)) = true := decide_eq_true c38
            clear c38
            obtain ⟨ji39, hji39⟩ : ∃ j_ : Int, (wrap64 ((wrap64 (x13_2 * (l1.length : Int))) + x15_3)) = j_ := ⟨_, rfl⟩
            replace H : (if 0 ≤ (ji39) then (if (ji39) < (x6_1.length : Int) then (if rdOf false x6_1 (ji39) = true then (if x14_3.length < 17592186044416 then (spec_l05Names.l3 k3 a0 l1 x6_1 x11_2 x12_3 x13_2 (x14_3 ++ [0]) (wrap64 (x15_3 + 1))) else (none)) else (if x14_3.length < 17592186044416 then (spec_l05Names.l3 k3 a0 l1 x6_1 x11_2 (wrap64 (x12_3 + 1)) x13_2 (x14_3 ++ [wrap64 (x12_3 + 1)]) (wrap64 (x15_3 + 1))) else (none))) else (none)) else (none)) = some (r1, r2) := by first | (rw [hji39] at H; exact H) | (simp only [hji39] at H ⊢; exact H)
            have hji39w : (IntKind.i64.wrap ((wrap64 (x13_2 * (l1.length : Int))) + x15_3)) = ji39 := (i64_w _).trans hji39
            by_cases c40 : 0 ≤ (ji39)
            ·rw [if_pos c40] at H
             have c40b0 : decide (0 ≤ (ji39)) = true := decide_eq_true c40
             clear c40
             by_cases c41 : (ji39) < (x6_1.length : Int)
             ·rw [if_pos c41] at H
              have c41b0 : decide ((ji39) < (x6_1.length : Int)) = true := decide_eq_true c41
              clear c41
              obtain ⟨bq42, hbq42⟩ : ∃ b_ : Bool, b_ = (rdOf false x6_1 (ji39)) := ⟨_, rfl⟩
              replace H : (if bq42 = true then (if x14_3.length < 17592186044416 then (spec_l05Names.l3 k3 a0 l1 x6_1 x11_2 x12_3 x13_2 (x14_3 ++ [0]) (wrap64 (x15_3 + 1))) else (none)) else (if x14_3.length < 17592186044416 then (spec_l05Names.l3 k3 a0 l1 x6_1 x11_2 (wrap64 (x12_3 + 1)) x13_2 (x14_3 ++ [wrap64 (x12_3 + 1)]) (wrap64 (x15_3 + 1))) else (none))) = some (r1, r2) := by rw [← hbq42] at H; exact H
              have Nbq42 := am_ hbq42
              clear hbq42
              by_cases c43 : bq42 = true
              ·subst c43
               have H1 : (if x14_3.length < 17592186044416 then (spec_l05Names.l3 k3 a0 l1 x6_1 x11_2 x12_3 x13_2 (x14_3 ++ [0]) (wrap64 (x15_3 + 1))) else (none)) = some (r1, r2) := by rw [if_pos rfl] at H; exact H
               clear H
               have H := H1
               clear H1
               by_cases c44 : x14_3.length < 17592186044416
               ·rw [if_pos c44] at H
                have LMc44 := am_ c44
                clear c44
                obtain ⟨y211, hy211⟩ : ∃ y_ : List Int, y_ = (x14_3 ++ [0]) := ⟨_, rfl⟩
                replace H : (spec_l05Names.l3 k3 a0 l1 x6_1 x11_2 x12_3 x13_2 y211 (wrap64 (x15_3 + 1))) = some (r1, r2) := by first | (rw [hy211]; with_reducible exact H) | (have H2_ := (Option.bind_some _ _).symm.trans H; rw [hy211]; with_reducible exact H2_) | (have H2_ := (Option.bind_some _ _).symm.trans H; with_reducible exact H2_) | with_reducible exact H | (rw [hy211]; exact H) | exact H
                have Ny211 := am_ hy211
                clear hy211
                have H' := am_ H
                clear H
                obtain ⟨Ao45, co45, eo45⟩ := Kd.R_slice HO_6.out
                subst eo45
                have p210 : 0 ≤ ((ji39) : Int) := of_decide_eq_true (by first | (with_reducible assumption) | assumption)
                have q210 : (ji39) < (x6_1.length : Int) := of_decide_eq_true (by first | (with_reducible assumption) | assumption)
                obtain ⟨ad210, e210, hx210_0⟩ := Kd.at_bool (Kd.R_reads' HO_6.out).2.2 (ji39) p210 q210
                (try rw [← Nbq42.out] at hx210_0)
                cases e210
                replace p210 := eq_true p210
                replace q210 := eq_true q210
                go_wp2_with (first | ((with_reducible refine gate_builtin (b := .append) (xs := #[.tmp 85, .tmp 86]) rfl ?_); at_builtin; refine Kd.R_append (Kd.int .i64) (w0 := w) w.heap.size rfl (.tmp 85) (.tmp 86) 39 2 (.int .i64 0) 8 rfl Try.underlying39 info2 rfl (by decide) (by omega) u14 x14_3 0 [.int .i64 0] (fun _ => True) (fun _ => False) rfl rfl ?aP (fun _ hk => hk.elim) ?aF ?aO ?aB ?aS ?aL ?_; (case aP => exact rfl); (case aB => exact (bb_ HB.out)); (case aF => exact (fun _ _ => trivial)); (case aO => exact (rk_ HO_14.out)); (case aS => exact (below_size (bb_ HB.out))); (case aL => have := LMc44.out; omega); intro v212 w46 ho hb hg hat; rw [← Ny211.out] at ho; have n0_ := am_ (Kd.R_over' (rk_ HO_6.out) (Kd.R_typed (rk_ HO_14.out)) (by decide) hg); have n1_ := am_ (Kd.S_after (ok := (fun _ => True)) (by (with_reducible repeat (first | apply Kd.S_alloc | apply Kd.S_drewN | apply Kd.S_drew)); exact Kd.S_mono HO_11.out (fun _ hk => ⟨trivial, hk⟩)) hg hat); have n2_ := am_ (hb); have n3_ := am_ (ho); clear HO_6 HO_11 HB HO_14; revert n0_ n1_ n2_ n3_; intro HO_6 HO_11 HB HO213; clear ho hb hg hat))
                repeat (go_quiet (first | ((with_reducible refine gate_builtin (b := .append) (xs := #[.tmp 85, .tmp 86]) rfl ?_); at_builtin; refine Kd.R_append (Kd.int .i64) (w0 := w) w.heap.size rfl (.tmp 85) (.tmp 86) 39 2 (.int .i64 0) 8 rfl Try.underlying39 info2 rfl (by decide) (by omega) u14 x14_3 0 [.int .i64 0] (fun _ => True) (fun _ => False) rfl rfl ?aP (fun _ hk => hk.elim) ?aF ?aO ?aB ?aS ?aL ?_; (case aP => exact rfl); (case aB => exact (bb_ HB.out)); (case aF => exact (fun _ _ => trivial)); (case aO => exact (rk_ HO_14.out)); (case aS => exact (below_size (bb_ HB.out))); (case aL => have := LMc44.out; omega); intro v212 w46 ho hb hg hat; rw [← Ny211.out] at ho; have n0_ := am_ (Kd.R_over' (rk_ HO_6.out) (Kd.R_typed (rk_ HO_14.out)) (by decide) hg); have n1_ := am_ (Kd.S_after (ok := (fun _ => True)) (by (with_reducible repeat (first | apply Kd.S_alloc | apply Kd.S_drewN | apply Kd.S_drew)); exact Kd.S_mono HO_11.out (fun _ hk => ⟨trivial, hk⟩)) hg hat); have n2_ := am_ (hb); have n3_ := am_ (ho); clear HO_6 HO_11 HB HO_14; revert n0_ n1_ n2_ n3_; intro HO_6 HO_11 HB HO213; clear ho hb hg hat)); try go_wp2_with (first | ((with_reducible refine gate_builtin (b := .append) (xs := #[.tmp 85, .tmp 86]) rfl ?_); at_builtin; refine Kd.R_append (Kd.int .i64) (w0 := w) w.heap.size rfl (.tmp 85) (.tmp 86) 39 2 (.int .i64 0) 8 rfl Try.underlying39 info2 rfl (by decide) (by omega) u14 x14_3 0 [.int .i64 0] (fun _ => True) (fun _ => False) rfl rfl ?aP (fun _ hk => hk.elim) ?aF ?aO ?aB ?aS ?aL ?_; (case aP => exact rfl); (case aB => exact (bb_ HB.out)); (case aF => exact (fun _ _ => trivial)); (case aO => exact (rk_ HO_14.out)); (case aS => exact (below_size (bb_ HB.out))); (case aL => have := LMc44.out; omega); intro v212 w46 ho hb hg hat; rw [← Ny211.out] at ho; have n0_ := am_ (Kd.R_over' (rk_ HO_6.out) (Kd.R_typed (rk_ HO_14.out)) (by decide) hg); have n1_ := am_ (Kd.S_after (ok := (fun _ => True)) (by (with_reducible repeat (first | apply Kd.S_alloc | apply Kd.S_drewN | apply Kd.S_drew)); exact Kd.S_mono HO_11.out (fun _ hk => ⟨trivial, hk⟩)) hg hat); have n2_ := am_ (hb); have n3_ := am_ (ho); clear HO_6 HO_11 HB HO_14; revert n0_ n1_ n2_ n3_; intro HO_6 HO_11 HB HO213; clear ho hb hg hat)))
                go_roundg k3
                case measure => have := HK1.out; have := HK2.out; have := HK3.out; omega
                case rel => exact ⟨(x12_3), (y211), (wrap64 (x15_3 + 1)), (by first | rfl | (simp; done) | (simp [*]; done)), (by first | rfl | (simp; done) | (simp [*]; done)), H', ⟨by have := HK1.out; have := HK2.out; have := HK3.out; omega⟩, ⟨rk_ HO_6.out⟩, ⟨by (with_reducible repeat (first | apply Kd.S_alloc | apply Kd.S_drewN | apply Kd.S_drew)); exact Kd.S_mono HO_11.out (fun _ hk => hk.2)⟩, ⟨rk_ HO213.out⟩, ⟨bb_ HB.out⟩⟩
               ·rw [if_neg c44] at H
                exact absurd H (by simp)
              ·replace c43 := Bool.eq_false_iff.mpr c43
               subst c43
               have H1 : (if x14_3.length < 17592186044416 then (spec_l05Names.l3 k3 a0 l1 x6_1 x11_2 (wrap64 (x12_3 + 1)) x13_2 (x14_3 ++ [wrap64 (x12_3 + 1)]) (wrap64 (x15_3 + 1))) else (none)) = some (r1, r2) := by rw [if_neg (show ¬ (false = true) by decide)] at H; exact H
               clear H
               have H := H1
               clear H1
               by_cases c47 : x14_3.length < 17592186044416
               ·rw [if_pos c47] at H
                have LMc47 := am_ c47
                clear c47
                obtain ⟨y214, hy214⟩ : ∃ y_ : List Int, y_ = (x14_3 ++ [wrap64 (x12_3 + 1)]) := ⟨_, rfl⟩
                replace H : (spec_l05Names.l3 k3 a0 l1 x6_1 x11_2 (wrap64 (x12_3 + 1)) x13_2 y214 (wrap64 (x15_3 + 1))) = some (r1, r2) := by first | (rw [hy214]; with_reducible exact H) | (have H2_ := (Option.bind_some _ _).symm.trans H; rw [hy214]; with_reducible exact H2_) | (have H2_ := (Option.bind_some _ _).symm.trans H; with_reducible exact H2_) | with_reducible exact H | (rw [hy214]; exact H) | exact H
                have Ny214 := am_ hy214
                clear hy214
                have H' := am_ H
                clear H
                obtain ⟨Ao48, co48, eo48⟩ := Kd.R_slice HO_6.out
                subst eo48
                have p210 : 0 ≤ ((ji39) : Int) := of_decide_eq_true (by first | (with_reducible assumption) | assumption)
                have q210 : (ji39) < (x6_1.length : Int) := of_decide_eq_true (by first | (with_reducible assumption) | assumption)
                obtain ⟨ad210, e210, hx210_0⟩ := Kd.at_bool (Kd.R_reads' HO_6.out).2.2 (ji39) p210 q210
                (try rw [← Nbq42.out] at hx210_0)
                cases e210
                replace p210 := eq_true p210
                replace q210 := eq_true q210
                go_wp2_with (first | ((with_reducible refine gate_builtin (b := .append) (xs := #[.tmp 90, .tmp 92]) rfl ?_); at_builtin; refine Kd.R_append (Kd.int .i64) (w0 := w) w.heap.size rfl (.tmp 90) (.tmp 92) 39 2 (.int .i64 0) 8 rfl Try.underlying39 info2 rfl (by decide) (by omega) u14 x14_3 (wrap64 (x12_3 + 1)) [.int .i64 (wrap64 (x12_3 + 1))] (fun _ => True) (fun _ => False) rfl rfl ?aP (fun _ hk => hk.elim) ?aF ?aO ?aB ?aS ?aL ?_; (case aP => exact rfl); (case aB => exact (bb_ HB.out)); (case aF => exact (fun _ _ => trivial)); (case aO => exact (rk_ HO_14.out)); (case aS => exact (below_size (bb_ HB.out))); (case aL => have := LMc47.out; omega); intro v215 w49 ho hb hg hat; rw [← Ny214.out] at ho; have n0_ := am_ (Kd.R_over' (rk_ HO_6.out) (Kd.R_typed (rk_ HO_14.out)) (by decide) hg); have n1_ := am_ (Kd.S_after (ok := (fun _ => True)) (by (with_reducible repeat (first | apply Kd.S_alloc | apply Kd.S_drewN | apply Kd.S_drew)); exact Kd.S_mono HO_11.out (fun _ hk => ⟨trivial, hk⟩)) hg hat); have n2_ := am_ (hb); have n3_ := am_ (ho); clear HO_6 HO_11 HB HO_14; revert n0_ n1_ n2_ n3_; intro HO_6 HO_11 HB HO216; clear ho hb hg hat))
                repeat (go_quiet (first | ((with_reducible refine gate_builtin (b := .append) (xs := #[.tmp 90, .tmp 92]) rfl ?_); at_builtin; refine Kd.R_append (Kd.int .i64) (w0 := w) w.heap.size rfl (.tmp 90) (.tmp 92) 39 2 (.int .i64 0) 8 rfl Try.underlying39 info2 rfl (by decide) (by omega) u14 x14_3 (wrap64 (x12_3 + 1)) [.int .i64 (wrap64 (x12_3 + 1))] (fun _ => True) (fun _ => False) rfl rfl ?aP (fun _ hk => hk.elim) ?aF ?aO ?aB ?aS ?aL ?_; (case aP => exact rfl); (case aB => exact (bb_ HB.out)); (case aF => exact (fun _ _ => trivial)); (case aO => exact (rk_ HO_14.out)); (case aS => exact (below_size (bb_ HB.out))); (case aL => have := LMc47.out; omega); intro v215 w49 ho hb hg hat; rw [← Ny214.out] at ho; have n0_ := am_ (Kd.R_over' (rk_ HO_6.out) (Kd.R_typed (rk_ HO_14.out)) (by decide) hg); have n1_ := am_ (Kd.S_after (ok := (fun _ => True)) (by (with_reducible repeat (first | apply Kd.S_alloc | apply Kd.S_drewN | apply Kd.S_drew)); exact Kd.S_mono HO_11.out (fun _ hk => ⟨trivial, hk⟩)) hg hat); have n2_ := am_ (hb); have n3_ := am_ (ho); clear HO_6 HO_11 HB HO_14; revert n0_ n1_ n2_ n3_; intro HO_6 HO_11 HB HO216; clear ho hb hg hat)); try go_wp2_with (first | ((with_reducible refine gate_builtin (b := .append) (xs := #[.tmp 90, .tmp 92]) rfl ?_); at_builtin; refine Kd.R_append (Kd.int .i64) (w0 := w) w.heap.size rfl (.tmp 90) (.tmp 92) 39 2 (.int .i64 0) 8 rfl Try.underlying39 info2 rfl (by decide) (by omega) u14 x14_3 (wrap64 (x12_3 + 1)) [.int .i64 (wrap64 (x12_3 + 1))] (fun _ => True) (fun _ => False) rfl rfl ?aP (fun _ hk => hk.elim) ?aF ?aO ?aB ?aS ?aL ?_; (case aP => exact rfl); (case aB => exact (bb_ HB.out)); (case aF => exact (fun _ _ => trivial)); (case aO => exact (rk_ HO_14.out)); (case aS => exact (below_size (bb_ HB.out))); (case aL => have := LMc47.out; omega); intro v215 w49 ho hb hg hat; rw [← Ny214.out] at ho; have n0_ := am_ (Kd.R_over' (rk_ HO_6.out) (Kd.R_typed (rk_ HO_14.out)) (by decide) hg); have n1_ := am_ (Kd.S_after (ok := (fun _ => True)) (by (with_reducible repeat (first | apply Kd.S_alloc | apply Kd.S_drewN | apply Kd.S_drew)); exact Kd.S_mono HO_11.out (fun _ hk => ⟨trivial, hk⟩)) hg hat); have n2_ := am_ (hb); have n3_ := am_ (ho); clear HO_6 HO_11 HB HO_14; revert n0_ n1_ n2_ n3_; intro HO_6 HO_11 HB HO216; clear ho hb hg hat)))
                go_roundg k3
                case measure => have := HK1.out; have := HK2.out; have := HK3.out; omega
                case rel => exact ⟨(wrap64 (x12_3 + 1)), (y214), (wrap64 (x15_3 + 1)), (by first | rfl | (simp; done) | (simp [*]; done)), (by first | rfl | (simp; done) | (simp [*]; done)), H', ⟨by have := HK1.out; have := HK2.out; have := HK3.out; omega⟩, ⟨rk_ HO_6.out⟩, ⟨by (with_reducible repeat (first | apply Kd.S_alloc | apply Kd.S_drewN | apply Kd.S_drew)); exact Kd.S_mono HO_11.out (fun _ hk => hk.2)⟩, ⟨rk_ HO216.out⟩, ⟨bb_ HB.out⟩⟩
               ·rw [if_neg c47] at H
                exact absurd H (by simp)
             ·rw [if_neg c41] at H
              exact absurd H (by simp)
            ·rw [if_neg c40] at H
             exact absurd H (by simp)
           ·rw [if_neg c38] at H
            have c38b0 : decide (x15_3 < (l1.length : Int)) = false := decide_eq_false c38
            clear c38
            by_cases c50 : x11_2.length < 5864062014805
            ·rw [if_pos c50] at H
             have LMc50 := am_ c50
             clear c50
             obtain ⟨y217, hy217⟩ : ∃ y_ : List (List Int), y_ = (x11_2 ++ [x14_3]) := ⟨_, rfl⟩
             replace H : (spec_l05Names.l2 k3 a0 l1 x6_1 y217 x12_3 (wrap64 (x13_2 + 1))) = some (r1, r2) := by first | (rw [hy217]; with_reducible exact H) | (have H2_ := (Option.bind_some _ _).symm.trans H; rw [hy217]; with_reducible exact H2_) | (have H2_ := (Option.bind_some _ _).symm.trans H; with_reducible exact H2_) | with_reducible exact H | (rw [hy217]; exact H) | exact H
             have Ny217 := am_ hy217
             clear hy217
             have H' := am_ H
             clear H
             obtain ⟨Ao52, co52, eo52⟩ := Kd.R_slice HO_14.out
             subst eo52
             go_wp2_with (first | ((with_reducible refine gate_builtin (b := .append) (xs := #[.tmp 94, .tmp 96]) rfl ?_); at_builtin; refine Kd.S_append (Kd.slice 2 (Kd.int .i64)) (w0 := w) w.heap.size rfl (.tmp 94) (.tmp 96) 22 39 (.slice none 0 0) 24 rfl Try.underlying22 info39 rfl (by decide) (by omega) u11 x11_2 x14_3 [.slice Ao52 x14_3.length co52] (fun _ => True) (fun k_ => some k_ = (.slice Ao52 x14_3.length co52 : Value).ownBlock) rfl rfl ?aP (fun k_ hk_ => ((Kd.R_mono (ok' := fun k_ => ((fun _ => True)) k_ ∧ some k_ ≠ (u11 : Value).ownBlock) (Kd.R_apart' (HO_14.out) (Kd.S_typed HO_11.out) (by decide)) (fun k_ hk => ⟨trivial, hk.2⟩))).1 k_ hk_.symm) ?aF ?aO ?aB ?aS ?aL ?_; (case aP => exact Kd.M_row (Kd.R_mono (Kd.R_tight rfl (Kd.R_mono (ok' := fun k_ => ((fun _ => True)) k_ ∧ some k_ ≠ (u11 : Value).ownBlock) (Kd.R_apart' (HO_14.out) (Kd.S_typed HO_11.out) (by decide)) (fun k_ hk => ⟨trivial, hk.2⟩))) (fun _ h_ => h_))); (case aB => exact (bb_ HB.out)); (case aF => exact (fun _ _ => trivial)); (case aO => exact (by (with_reducible repeat (first | apply Kd.S_alloc | apply Kd.S_drewN | apply Kd.S_drew)); exact Kd.S_mono HO_11.out (fun k_ hk => ⟨trivial, fun e_ => hk e_⟩))); (case aS => exact (below_size (bb_ HB.out))); (case aL => have := LMc50.out; omega); intro v218 w51 ho hb hg hat; rw [← Ny217.out] at ho; have n0_ := am_ (Kd.R_over' (rk_ HO_6.out) (Kd.S_typed (by (with_reducible repeat (first | apply Kd.S_alloc | apply Kd.S_drewN | apply Kd.S_drew)); exact HO_11.out)) (by decide) hg); have n1_ := am_ (hb); have n2_ := am_ (ho); clear HO_6 HB HO_11 HO_14; revert n0_ n1_ n2_; intro HO_6 HB HO219; clear ho hb hg hat))
             repeat (go_quiet (first | ((with_reducible refine gate_builtin (b := .append) (xs := #[.tmp 94, .tmp 96]) rfl ?_); at_builtin; refine Kd.S_append (Kd.slice 2 (Kd.int .i64)) (w0 := w) w.heap.size rfl (.tmp 94) (.tmp 96) 22 39 (.slice none 0 0) 24 rfl Try.underlying22 info39 rfl (by decide) (by omega) u11 x11_2 x14_3 [.slice Ao52 x14_3.length co52] (fun _ => True) (fun k_ => some k_ = (.slice Ao52 x14_3.length co52 : Value).ownBlock) rfl rfl ?aP (fun k_ hk_ => ((Kd.R_mono (ok' := fun k_ => ((fun _ => True)) k_ ∧ some k_ ≠ (u11 : Value).ownBlock) (Kd.R_apart' (HO_14.out) (Kd.S_typed HO_11.out) (by decide)) (fun k_ hk => ⟨trivial, hk.2⟩))).1 k_ hk_.symm) ?aF ?aO ?aB ?aS ?aL ?_; (case aP => exact Kd.M_row (Kd.R_mono (Kd.R_tight rfl (Kd.R_mono (ok' := fun k_ => ((fun _ => True)) k_ ∧ some k_ ≠ (u11 : Value).ownBlock) (Kd.R_apart' (HO_14.out) (Kd.S_typed HO_11.out) (by decide)) (fun k_ hk => ⟨trivial, hk.2⟩))) (fun _ h_ => h_))); (case aB => exact (bb_ HB.out)); (case aF => exact (fun _ _ => trivial)); (case aO => exact (by (with_reducible repeat (first | apply Kd.S_alloc | apply Kd.S_drewN | apply Kd.S_drew)); exact Kd.S_mono HO_11.out (fun k_ hk => ⟨trivial, fun e_ => hk e_⟩))); (case aS => exact (below_size (bb_ HB.out))); (case aL => have := LMc50.out; omega); intro v218 w51 ho hb hg hat; rw [← Ny217.out] at ho; have n0_ := am_ (Kd.R_over' (rk_ HO_6.out) (Kd.S_typed (by (with_reducible repeat (first | apply Kd.S_alloc | apply Kd.S_drewN | apply Kd.S_drew)); exact HO_11.out)) (by decide) hg); have n1_ := am_ (hb); have n2_ := am_ (ho); clear HO_6 HB HO_11 HO_14; revert n0_ n1_ n2_; intro HO_6 HB HO219; clear ho hb hg hat)); try go_wp2_with (first | ((with_reducible refine gate_builtin (b := .append) (xs := #[.tmp 94, .tmp 96]) rfl ?_); at_builtin; refine Kd.S_append (Kd.slice 2 (Kd.int .i64)) (w0 := w) w.heap.size rfl (.tmp 94) (.tmp 96) 22 39 (.slice none 0 0) 24 rfl Try.underlying22 info39 rfl (by decide) (by omega) u11 x11_2 x14_3 [.slice Ao52 x14_3.length co52] (fun _ => True) (fun k_ => some k_ = (.slice Ao52 x14_3.length co52 : Value).ownBlock) rfl rfl ?aP (fun k_ hk_ => ((Kd.R_mono (ok' := fun k_ => ((fun _ => True)) k_ ∧ some k_ ≠ (u11 : Value).ownBlock) (Kd.R_apart' (HO_14.out) (Kd.S_typed HO_11.out) (by decide)) (fun k_ hk => ⟨trivial, hk.2⟩))).1 k_ hk_.symm) ?aF ?aO ?aB ?aS ?aL ?_; (case aP => exact Kd.M_row (Kd.R_mono (Kd.R_tight rfl (Kd.R_mono (ok' := fun k_ => ((fun _ => True)) k_ ∧ some k_ ≠ (u11 : Value).ownBlock) (Kd.R_apart' (HO_14.out) (Kd.S_typed HO_11.out) (by decide)) (fun k_ hk => ⟨trivial, hk.2⟩))) (fun _ h_ => h_))); (case aB => exact (bb_ HB.out)); (case aF => exact (fun _ _ => trivial)); (case aO => exact (by (with_reducible repeat (first | apply Kd.S_alloc | apply Kd.S_drewN | apply Kd.S_drew)); exact Kd.S_mono HO_11.out (fun k_ hk => ⟨trivial, fun e_ => hk e_⟩))); (case aS => exact (below_size (bb_ HB.out))); (case aL => have := LMc50.out; omega); intro v218 w51 ho hb hg hat; rw [← Ny217.out] at ho; have n0_ := am_ (Kd.R_over' (rk_ HO_6.out) (Kd.S_typed (by (with_reducible repeat (first | apply Kd.S_alloc | apply Kd.S_drewN | apply Kd.S_drew)); exact HO_11.out)) (by decide) hg); have n1_ := am_ (hb); have n2_ := am_ (ho); clear HO_6 HB HO_11 HO_14; revert n0_ n1_ n2_; intro HO_6 HB HO219; clear ho hb hg hat)))
             go_roundg k3
             case measure => have := HK1.out; have := HK2.out; have := HK3.out; omega
             case rel => exact ⟨(y217), (x12_3), (wrap64 (x13_2 + 1)), (by first | rfl | (simp; done) | (simp [*]; done)), (by first | rfl | (simp; done) | (simp [*]; done)), H', ⟨by have := HK1.out; have := HK2.out; have := HK3.out; omega⟩, ⟨rk_ HO_6.out⟩, ⟨by (with_reducible repeat (first | apply Kd.S_alloc | apply Kd.S_drewN | apply Kd.S_drew)); exact HO219.out⟩, ⟨bb_ HB.out⟩⟩
            ·rw [if_neg c50] at H
             exact absurd H (by simp)
        ·rw [if_neg c35] at H
         have c35b0 : decide (x13_2 < a0) = false := decide_eq_false c35
         clear c35
         simp only [Option.some.injEq, Prod.mk.injEq] at H
         obtain ⟨rfl, rfl⟩ := H
         go_wp2
         repeat (go_quiet (fail); try go_wp2)
         go_ret2
         exact ⟨_, by first | rfl | (simp [errW_none, errW_some] <;> rfl) | (simp only [← hji3]; first | rfl | (simp [errW_none, errW_some] <;> rfl)) | (simp [*, errW_none, errW_some] <;> rfl), by (with_reducible repeat (first | apply Kd.S_alloc | apply Kd.S_drewN | apply Kd.S_drew)); exact HO_11.out, bb_ HB.out⟩
  ·rw [if_neg c5] at H
   exact absurd H (by simp)
 ·rw [if_neg c4] at H
  exact absurd H (by simp)

end Go.Proofs.Ytbcdngjajjgmkaa.PFnExactStabilizerPresentation
