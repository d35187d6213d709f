/- Written by this session's program out of the kit's print and this session's contracts. -/
import Derived.Test.YtbcdngjajjgmkaaVFnExactStabilizerPresentationPx0
namespace Go.Proofs.Ytbcdngjajjgmkaa.PFnExactStabilizerPresentation
open Go.RowKit Go.Proofs.YtbcdngjajjgmkaaW.PrintWords Go.Proofs.YtbcdngjajjgmkaaW.PrintLast Go.Proofs.YtbcdngjajjgmkaaW.PrintMore
attribute [local go_sem] max2_int min2_int max_two min_two max_three min_three max_four min_four   -- for this text's walks alone
set_option linter.unusedVariables false
set_option linter.unusedSimpArgs false

/-! ### spec_l05Orbits: function 50 -/
mutual
def spec_l05Orbits.l0 : Nat → Int → List (List Int) → List Int → Int → Option ((List (List Int)))
 | 0, _, _, _, _ => none
 | k + 1, x0, x1, x5, x6 => if x6 < x0 then (if x5.length < 17592186044416 then (spec_l05Orbits.l0 k x0 x1 (x5 ++ [x6]) (wrap64 (x6 + 1))) else (none)) else (spec_l05Orbits.l1 k x0 x1 x5 0)
def spec_l05Orbits.l1 : Nat → Int → List (List Int) → List Int → Int → Option ((List (List Int)))
 | 0, _, _, _, _ => none
 | k + 1, x0, x1, x5, x7 => if x7 < (x1.length : Int) then (spec_l05Orbits.l2 k x0 x1 x5 x7 0) else (spec_l05Orbits.l4 k x0 x5 (([] : List (List Int))) 0)
def spec_l05Orbits.l2 : Nat → Int → List (List Int) → List Int → Int → Int → Option ((List (List Int)))
 | 0, _, _, _, _, _ => none
 | k + 1, x0, x1, x5, x7, x8 => if x8 < x0 then (if 0 ≤ x8 then (if x8 < (x5.length : Int) then (if 0 ≤ x7 then (if x7 < (x1.length : Int) then (if x8 < ((rd_L1 x1 x7).length : Int) then (if 0 ≤ (rd (rd_L1 x1 x7) x8) then (if (rd (rd_L1 x1 x7) x8) < (x5.length : Int) then (spec_l05Orbits.l3 k x0 x1 x5 x7 x8 (rd x5 x8) (rd x5 (rd (rd_L1 x1 x7) x8)) 0) else (none)) else (none)) else (none)) else (none)) else (none)) else (none)) else (none)) else (spec_l05Orbits.l1 k x0 x1 x5 (wrap64 (x7 + 1)))
def spec_l05Orbits.l3 : Nat → Int → List (List Int) → List Int → Int → Int → Int → Int → Int → Option ((List (List Int)))
 | 0, _, _, _, _, _, _, _, _ => none
 | k + 1, x0, x1, x5, x7, x8, x9, x10, x11 => if x11 < (x5.length : Int) then (if 0 ≤ x11 then (if (rd x5 x11) = (mx x9 x10) then (spec_l05Orbits.l3 k x0 x1 (x5.set (x11 : Int).toNat (mn x9 x10)) x7 x8 x9 x10 (wrap64 (x11 + 1))) else (spec_l05Orbits.l3 k x0 x1 x5 x7 x8 x9 x10 (wrap64 (x11 + 1)))) else (none)) else (spec_l05Orbits.l2 k x0 x1 x5 x7 (wrap64 (x8 + 1)))
def spec_l05Orbits.l4 : Nat → Int → List Int → List (List Int) → Int → Option ((List (List Int)))
 | 0, _, _, _, _ => none
 | k + 1, x0, x5, x12, x13 => if x13 < x0 then (spec_l05Orbits.l5 k x0 x5 x12 x13 (([] : List Int)) 0) else (some x12)
def spec_l05Orbits.l5 : Nat → Int → List Int → List (List Int) → Int → List Int → Int → Option ((List (List Int)))
 | 0, _, _, _, _, _, _ => none
 | k + 1, x0, x5, x12, x13, x14, x15 => if x15 < x0 then (if 0 ≤ x15 then (if x15 < (x5.length : Int) then (if (rd x5 x15) = x13 then (if x14.length < 17592186044416 then (spec_l05Orbits.l5 k x0 x5 x12 x13 (x14 ++ [x15]) (wrap64 (x15 + 1))) else (none)) else (spec_l05Orbits.l5 k x0 x5 x12 x13 x14 (wrap64 (x15 + 1)))) else (none)) else (none)) else (if (x14.length : Int) > 0 then (if x12.length < 5864062014805 then (spec_l05Orbits.l4 k x0 x5 (x12 ++ [x14]) (wrap64 (x13 + 1))) else (none)) else (spec_l05Orbits.l4 k x0 x5 x12 (wrap64 (x13 + 1))))
end
def spec_l05Orbits.f (k : Nat) (a0 : Int) (l1 : List (List Int)) : Option ((List (List Int))) := spec_l05Orbits.l0 k a0 l1 (([] : List Int)) 0
theorem spec_l05Orbits.mono_l : ∀ k, (∀ y0 y1 y2 y3, LeO (spec_l05Orbits.l0 k y0 y1 y2 y3) (spec_l05Orbits.l0 (k + 1) y0 y1 y2 y3)) ∧ (∀ y0 y1 y2 y3, LeO (spec_l05Orbits.l1 k y0 y1 y2 y3) (spec_l05Orbits.l1 (k + 1) y0 y1 y2 y3)) ∧ (∀ y0 y1 y2 y3 y4, LeO (spec_l05Orbits.l2 k y0 y1 y2 y3 y4) (spec_l05Orbits.l2 (k + 1) y0 y1 y2 y3 y4)) ∧ (∀ y0 y1 y2 y3 y4 y5 y6 y7, LeO (spec_l05Orbits.l3 k y0 y1 y2 y3 y4 y5 y6 y7) (spec_l05Orbits.l3 (k + 1) y0 y1 y2 y3 y4 y5 y6 y7)) ∧ (∀ y0 y1 y2 y3, LeO (spec_l05Orbits.l4 k y0 y1 y2 y3) (spec_l05Orbits.l4 (k + 1) y0 y1 y2 y3)) ∧ (∀ y0 y1 y2 y3 y4 y5, LeO (spec_l05Orbits.l5 k y0 y1 y2 y3 y4 y5) (spec_l05Orbits.l5 (k + 1) y0 y1 y2 y3 y4 y5))
 | 0 => ⟨fun _ _ _ _ r h => by simp [spec_l05Orbits.l0] at h, fun _ _ _ _ r h => by simp [spec_l05Orbits.l1] at h, fun _ _ _ _ _ r h => by simp [spec_l05Orbits.l2] at h, fun _ _ _ _ _ _ _ _ r h => by simp [spec_l05Orbits.l3] at h, fun _ _ _ _ r h => by simp [spec_l05Orbits.l4] at h, fun _ _ _ _ _ _ r h => by simp [spec_l05Orbits.l5] at h⟩
 | k + 1 => by
  obtain ⟨ih0, ih1, ih2, ih3, ih4, ih5⟩ := spec_l05Orbits.mono_l k
  refine ⟨?_, ?_, ?_, ?_, ?_, ?_⟩
  ·intro y0 y1 y2 y3
   unfold spec_l05Orbits.l0
   repeat' first
   | (with_reducible exact ih0 _ _ _ _)
   | (with_reducible exact ih1 _ _ _ _)
   | (with_reducible exact ih2 _ _ _ _ _)
   | (with_reducible exact ih3 _ _ _ _ _ _ _ _)
   | (with_reducible exact ih4 _ _ _ _)
   | (with_reducible exact ih5 _ _ _ _ _ _)
   | (with_reducible exact LeO.refl _)
   | (with_reducible exact LeO.none _)
   | (with_reducible refine LeO.ite ?_ ?_)
   | (with_reducible refine LeO.bind ?_ (fun _ => ?_))
   | exact ih0 _ _ _ _
   | exact ih1 _ _ _ _
   | exact ih2 _ _ _ _ _
   | exact ih3 _ _ _ _ _ _ _ _
   | exact ih4 _ _ _ _
   | exact ih5 _ _ _ _ _ _
   | exact LeO.none _
   | refine LeO.ite ?_ ?_
   | refine LeO.bind ?_ (fun _ => ?_)
  ·intro y0 y1 y2 y3
   unfold spec_l05Orbits.l1
   repeat' first
   | (with_reducible exact ih0 _ _ _ _)
   | (with_reducible exact ih1 _ _ _ _)
   | (with_reducible exact ih2 _ _ _ _ _)
   | (with_reducible exact ih3 _ _ _ _ _ _ _ _)
   | (with_reducible exact ih4 _ _ _ _)
   | (with_reducible exact ih5 _ _ _ _ _ _)
   | (with_reducible exact LeO.refl _)
   | (with_reducible exact LeO.none _)
   | (with_reducible refine LeO.ite ?_ ?_)
   | (with_reducible refine LeO.bind ?_ (fun _ => ?_))
   | exact ih0 _ _ _ _
   | exact ih1 _ _ _ _
   | exact ih2 _ _ _ _ _
   | exact ih3 _ _ _ _ _ _ _ _
   | exact ih4 _ _ _ _
   | exact ih5 _ _ _ _ _ _
   | exact LeO.none _
   | refine LeO.ite ?_ ?_
   | refine LeO.bind ?_ (fun _ => ?_)
  ·intro y0 y1 y2 y3 y4
   unfold spec_l05Orbits.l2
   repeat' first
   | (with_reducible exact ih0 _ _ _ _)
   | (with_reducible exact ih1 _ _ _ _)
   | (with_reducible exact ih2 _ _ _ _ _)
   | (with_reducible exact ih3 _ _ _ _ _ _ _ _)
   | (with_reducible exact ih4 _ _ _ _)
   | (with_reducible exact ih5 _ _ _ _ _ _)
   | (with_reducible exact LeO.refl _)
   | (with_reducible exact LeO.none _)
   | (with_reducible refine LeO.ite ?_ ?_)
   | (with_reducible refine LeO.bind ?_ (fun _ => ?_))
   | exact ih0 _ _ _ _
   | exact ih1 _ _ _ _
   | exact ih2 _ _ _ _ _
   | exact ih3 _ _ _ _ _ _ _ _
   | exact ih4 _ _ _ _
   | exact ih5 _ _ _ _ _ _
   | exact LeO.none _
   | refine LeO.ite ?_ ?_
   | refine LeO.bind ?_ (fun _ => ?_)
  ·intro y0 y1 y2 y3 y4 y5 y6 y7
   unfold spec_l05Orbits.l3
   repeat' first
   | (with_reducible exact ih0 _ _ _ _)
   | (with_reducible exact ih1 _ _ _ _)
   | (with_reducible exact ih2 _ _ _ _ _)
   | (with_reducible exact ih3 _ _ _ _ _ _ _ _)
   | (with_reducible exact ih4 _ _ _ _)
   | (with_reducible exact ih5 _ _ _ _ _ _)
   | (with_reducible exact LeO.refl _)
   | (with_reducible exact LeO.none _)
   | (with_reducible refine LeO.ite ?_ ?_)
   | (with_reducible refine LeO.bind ?_ (fun _ => ?_))
   | exact ih0 _ _ _ _
   | exact ih1 _ _ _ _
   | exact ih2 _ _ _ _ _
   | exact ih3 _ _ _ _ _ _ _ _
   | exact ih4 _ _ _ _
   | exact ih5 _ _ _ _ _ _
   | exact LeO.none _
   | refine LeO.ite ?_ ?_
   | refine LeO.bind ?_ (fun _ => ?_)
  ·intro y0 y1 y2 y3
   unfold spec_l05Orbits.l4
   repeat' first
   | (with_reducible exact ih0 _ _ _ _)
   | (with_reducible exact ih1 _ _ _ _)
   | (with_reducible exact ih2 _ _ _ _ _)
   | (with_reducible exact ih3 _ _ _ _ _ _ _ _)
   | (with_reducible exact ih4 _ _ _ _)
   | (with_reducible exact ih5 _ _ _ _ _ _)
   | (with_reducible exact LeO.refl _)
   | (with_reducible exact LeO.none _)
   | (with_reducible refine LeO.ite ?_ ?_)
   | (with_reducible refine LeO.bind ?_ (fun _ => ?_))
   | exact ih0 _ _ _ _
   | exact ih1 _ _ _ _
   | exact ih2 _ _ _ _ _
   | exact ih3 _ _ _ _ _ _ _ _
   | exact ih4 _ _ _ _
   | exact ih5 _ _ _ _ _ _
   | exact LeO.none _
   | refine LeO.ite ?_ ?_
   | refine LeO.bind ?_ (fun _ => ?_)
  ·intro y0 y1 y2 y3 y4 y5
   unfold spec_l05Orbits.l5
   repeat' first
   | (with_reducible exact ih0 _ _ _ _)
   | (with_reducible exact ih1 _ _ _ _)
   | (with_reducible exact ih2 _ _ _ _ _)
   | (with_reducible exact ih3 _ _ _ _ _ _ _ _)
   | (with_reducible exact ih4 _ _ _ _)
   | (with_reducible exact ih5 _ _ _ _ _ _)
   | (with_reducible exact LeO.refl _)
   | (with_reducible exact LeO.none _)
   | (with_reducible refine LeO.ite ?_ ?_)
   | (with_reducible refine LeO.bind ?_ (fun _ => ?_))
   | exact ih0 _ _ _ _
   | exact ih1 _ _ _ _
   | exact ih2 _ _ _ _ _
   | exact ih3 _ _ _ _ _ _ _ _
   | exact ih4 _ _ _ _
   | exact ih5 _ _ _ _ _ _
   | exact LeO.none _
   | refine LeO.ite ?_ ?_
   | refine LeO.bind ?_ (fun _ => ?_)
theorem spec_l05Orbits.mono : ∀ a0 a1 k, LeO (spec_l05Orbits.f k a0 a1) (spec_l05Orbits.f (k + 1) a0 a1) := by
 intro a0 a1 k
 obtain ⟨ih0, ih1, ih2, ih3, ih4, ih5⟩ := spec_l05Orbits.mono_l k
 unfold spec_l05Orbits.f
 repeat' first
   | (with_reducible exact ih0 _ _ _ _)
   | (with_reducible exact ih1 _ _ _ _)
   | (with_reducible exact ih2 _ _ _ _ _)
   | (with_reducible exact ih3 _ _ _ _ _ _ _ _)
   | (with_reducible exact ih4 _ _ _ _)
   | (with_reducible exact ih5 _ _ _ _ _ _)
   | (with_reducible exact LeO.refl _)
   | (with_reducible exact LeO.none _)
   | (with_reducible refine LeO.ite ?_ ?_)
   | (with_reducible refine LeO.bind ?_ (fun _ => ?_))
   | exact ih0 _ _ _ _
   | exact ih1 _ _ _ _
   | exact ih2 _ _ _ _ _
   | exact ih3 _ _ _ _ _ _ _ _
   | exact ih4 _ _ _ _
   | exact ih5 _ _ _ _ _ _
   | exact LeO.none _
   | refine LeO.ite ?_ ?_
   | refine LeO.bind ?_ (fun _ => ?_)
set_option maxHeartbeats 8000000 in
set_option maxRecDepth 100000 in
theorem spec_l05Orbits.calls (k : Nat) (a0 : Int) (A1 : Option Addr) (c1 : Nat) (l1 : List (List Int)) (r : List (List Int)) (w : World) (hr1 : Kd.C (Kd.slice 2 (Kd.int .i64)) w A1 l1.length l1) (hc1 : l1.length ≤ c1) (h : spec_l05Orbits.f k a0 l1 = some r) :
  Calls Try.prog 50 #[.int .i64 a0, .slice A1 l1.length c1] w fun e w' => ∃ v0_ : Value, e = .returned (v0_) ∧ Kd.S (Kd.slice 2 (Kd.int .i64)) 39 w' w.heap.size (fun _ => True) v0_ r ∧ Below w.heap.size w w' := by
 have HR1 := am_ hr1
 have HC1 := am_ hc1
 clear hr1 hc1
 have HB := am_ (Below.refl w.heap.size w)
 have H : (spec_l05Orbits.l0 k a0 l1 (([] : List Int)) 0) = some r := h
 clear h
 obtain ⟨y164, hy164⟩ : ∃ y_ : List Int, y_ = (([] : List Int)) := ⟨_, rfl⟩
 replace H : (spec_l05Orbits.l0 k a0 l1 y164 0) = some r := by first | (rw [hy164]; with_reducible exact H) | (have H2_ := (Option.bind_some _ _).symm.trans H; rw [hy164]; with_reducible exact H2_) | (have H2_ := (Option.bind_some _ _).symm.trans H; with_reducible exact H2_) | with_reducible exact H | (rw [hy164]; exact H) | exact H
 have Ny164 := am_ hy164
 clear hy164
 have H' := am_ H
 clear H
 go_enter Try.func50, Try.ntmps50
 go_wp2_with (first | ((with_reducible refine gate_dst (N := 16) rfl ?_); refine Kd.R_lit (Kd.int .i64) _ 2 ?hg (N := 16) ?hd (xs := ([] : List Int)) (inner := []) (ok := fun _ => True) (okp := fun _ => True) ?hr ?hp (fun _ hk => hk) trivial (Below.refl _ _) (Nat.le_refl _) (by simp) ?_; (case hd => rfl); (case hg => rfl); (case hr => first | (go_simp; done) | (go_simp; rfl)); (case hp => exact (Reps.none _ _)); intro v165 w3 ho4 hb hg_ hnew_; clear hg_ hnew_; (first | rw [← Ny164.out] at ho4 | (simp only [Int.reduceToNat] at ho4; rw [← Ny164.out] at ho4)); have n0_ := am_ (Kd.R_lower ho4 (below_size (bb_ HB.out))); have n1_ := am_ (below_step (bb_ HB.out) hb); clear HB; revert n0_ n1_; intro HO166 HB; clear hb ho4))
 repeat (go_quiet (first | ((with_reducible refine gate_dst (N := 16) rfl ?_); refine Kd.R_lit (Kd.int .i64) _ 2 ?hg (N := 16) ?hd (xs := ([] : List Int)) (inner := []) (ok := fun _ => True) (okp := fun _ => True) ?hr ?hp (fun _ hk => hk) trivial (Below.refl _ _) (Nat.le_refl _) (by simp) ?_; (case hd => rfl); (case hg => rfl); (case hr => first | (go_simp; done) | (go_simp; rfl)); (case hp => exact (Reps.none _ _)); intro v165 w3 ho4 hb hg_ hnew_; clear hg_ hnew_; (first | rw [← Ny164.out] at ho4 | (simp only [Int.reduceToNat] at ho4; rw [← Ny164.out] at ho4)); have n0_ := am_ (Kd.R_lower ho4 (below_size (bb_ HB.out))); have n1_ := am_ (below_step (bb_ HB.out) hb); clear HB; revert n0_ n1_; intro HO166 HB; clear hb ho4)); try go_wp2_with (first | ((with_reducible refine gate_dst (N := 16) rfl ?_); refine Kd.R_lit (Kd.int .i64) _ 2 ?hg (N := 16) ?hd (xs := ([] : List Int)) (inner := []) (ok := fun _ => True) (okp := fun _ => True) ?hr ?hp (fun _ hk => hk) trivial (Below.refl _ _) (Nat.le_refl _) (by simp) ?_; (case hd => rfl); (case hg => rfl); (case hr => first | (go_simp; done) | (go_simp; rfl)); (case hp => exact (Reps.none _ _)); intro v165 w3 ho4 hb hg_ hnew_; clear hg_ hnew_; (first | rw [← Ny164.out] at ho4 | (simp only [Int.reduceToNat] at ho4; rw [← Ny164.out] at ho4)); have n0_ := am_ (Kd.R_lower ho4 (below_size (bb_ HB.out))); have n1_ := am_ (below_step (bb_ HB.out) hb); clear HB; revert n0_ n1_; intro HO166 HB; clear hb ho4)))
 go_loopg [5, 6] k (fun kq v5 v6 w' => ∃ (x5_1 : List Int) (x6_1 : Int), v6 = .int .i64 x6_1 ∧ Aside0 (spec_l05Orbits.l0 kq a0 l1 x5_1 x6_1 = some r) ∧ Aside0 (kq ≤ k) ∧ Aside0 (Kd.R (Kd.int .i64) 2 w' w.heap.size (fun _ => True) v5 x5_1) ∧ Aside0 (Below w.heap.size w w'))
 case atStart => exact ⟨(y164), (0), (by first | rfl | (simp; done) | (simp [*]; done)), H', ⟨Nat.le_refl _⟩, ⟨rk_ HO166.out⟩, ⟨bb_ HB.out⟩⟩
 case round =>
  clear H'
  try clear c1
  try clear p2
  obtain ⟨x5_1, x6_1, rfl, HA, HK1, HO_5, HB⟩ := hrel
  cases gk with
  | zero => exact absurd HA.out (by simp [spec_l05Orbits.l0])
  | succ k1 =>
   have H := HA.out
   clear HA
   simp only [spec_l05Orbits.l0] at H
   by_cases c5 : x6_1 < a0
   ·rw [if_pos c5] at H
    have c5b0 : decide (x6_1 < a0) = true := decide_eq_true c5
    clear c5
    by_cases c6 : x5_1.length < 17592186044416
    ·rw [if_pos c6] at H
     have LMc6 := am_ c6
     clear c6
     obtain ⟨y167, hy167⟩ : ∃ y_ : List Int, y_ = (x5_1 ++ [x6_1]) := ⟨_, rfl⟩
     replace H : (spec_l05Orbits.l0 k1 a0 l1 y167 (wrap64 (x6_1 + 1))) = some r := by first | (rw [hy167]; with_reducible exact H) | (have H2_ := (Option.bind_some _ _).symm.trans H; rw [hy167]; with_reducible exact H2_) | (have H2_ := (Option.bind_some _ _).symm.trans H; with_reducible exact H2_) | with_reducible exact H | (rw [hy167]; exact H) | exact H
     have Ny167 := am_ hy167
     clear hy167
     have H' := am_ H
     clear H
     go_wp2_with (first | ((with_reducible refine gate_builtin (b := .append) (xs := #[.tmp 22, .tmp 24]) rfl ?_); at_builtin; refine Kd.R_append (Kd.int .i64) (w0 := w) w.heap.size rfl (.tmp 22) (.tmp 24) 39 2 (.int .i64 0) 8 rfl Try.underlying39 info2 rfl (by decide) (by omega) u5 x5_1 x6_1 [.int .i64 x6_1] (fun _ => True) (fun _ => False) rfl rfl ?aP (fun _ hk => hk.elim) ?aF ?aO ?aB ?aS ?aL ?_; (case aP => exact rfl); (case aB => exact (bb_ HB.out)); (case aF => exact (fun _ _ => trivial)); (case aO => exact (rk_ HO_5.out)); (case aS => exact (below_size (bb_ HB.out))); (case aL => have := LMc6.out; omega); intro v168 w7 ho hb hg hat; rw [← Ny167.out] at ho; have n0_ := am_ (hb); have n1_ := am_ (ho); clear HB HO_5; revert n0_ n1_; intro HB HO169; clear ho hb hg hat))
     repeat (go_quiet (first | ((with_reducible refine gate_builtin (b := .append) (xs := #[.tmp 22, .tmp 24]) rfl ?_); at_builtin; refine Kd.R_append (Kd.int .i64) (w0 := w) w.heap.size rfl (.tmp 22) (.tmp 24) 39 2 (.int .i64 0) 8 rfl Try.underlying39 info2 rfl (by decide) (by omega) u5 x5_1 x6_1 [.int .i64 x6_1] (fun _ => True) (fun _ => False) rfl rfl ?aP (fun _ hk => hk.elim) ?aF ?aO ?aB ?aS ?aL ?_; (case aP => exact rfl); (case aB => exact (bb_ HB.out)); (case aF => exact (fun _ _ => trivial)); (case aO => exact (rk_ HO_5.out)); (case aS => exact (below_size (bb_ HB.out))); (case aL => have := LMc6.out; omega); intro v168 w7 ho hb hg hat; rw [← Ny167.out] at ho; have n0_ := am_ (hb); have n1_ := am_ (ho); clear HB HO_5; revert n0_ n1_; intro HB HO169; clear ho hb hg hat)); try go_wp2_with (first | ((with_reducible refine gate_builtin (b := .append) (xs := #[.tmp 22, .tmp 24]) rfl ?_); at_builtin; refine Kd.R_append (Kd.int .i64) (w0 := w) w.heap.size rfl (.tmp 22) (.tmp 24) 39 2 (.int .i64 0) 8 rfl Try.underlying39 info2 rfl (by decide) (by omega) u5 x5_1 x6_1 [.int .i64 x6_1] (fun _ => True) (fun _ => False) rfl rfl ?aP (fun _ hk => hk.elim) ?aF ?aO ?aB ?aS ?aL ?_; (case aP => exact rfl); (case aB => exact (bb_ HB.out)); (case aF => exact (fun _ _ => trivial)); (case aO => exact (rk_ HO_5.out)); (case aS => exact (below_size (bb_ HB.out))); (case aL => have := LMc6.out; omega); intro v168 w7 ho hb hg hat; rw [← Ny167.out] at ho; have n0_ := am_ (hb); have n1_ := am_ (ho); clear HB HO_5; revert n0_ n1_; intro HB HO169; clear ho hb hg hat)))
     go_roundg k1
     case measure => have := HK1.out; omega
     case rel => exact ⟨(y167), (wrap64 (x6_1 + 1)), (by first | rfl | (simp; done) | (simp [*]; done)), H', ⟨by have := HK1.out; omega⟩, ⟨rk_ HO169.out⟩, ⟨bb_ HB.out⟩⟩
    ·rw [if_neg c6] at H
     exact absurd H (by simp)
   ·rw [if_neg c5] at H
    have c5b0 : decide (x6_1 < a0) = false := decide_eq_false c5
    clear c5
    have H' := am_ H
    clear H
    go_wp2
    repeat (go_quiet (fail); try go_wp2)
    go_loopg [7] k1 (fun kq v7 w' => ∃ (x5_2 : List Int) (x7_2 : Int), v7 = .int .i64 x7_2 ∧ Aside0 (spec_l05Orbits.l1 kq a0 l1 x5_2 x7_2 = some r) ∧ Aside0 (kq ≤ k1) ∧ Aside0 (Kd.R (Kd.int .i64) 2 w' w.heap.size (fun _ => True) u5 x5_2) ∧ Aside0 (Below w.heap.size w w'))
    case atStart => exact ⟨(x5_1), (0), (by first | rfl | (simp; done) | (simp [*]; done)), H', ⟨Nat.le_refl _⟩, ⟨rk_ HO_5.out⟩, ⟨bb_ HB.out⟩⟩
    case round =>
     clear H'
     try clear c1
     try clear p2
     try clear c5
     try clear c5b0
     try clear c6
     try clear p6
     try clear p2
     obtain ⟨x5_2, x7_2, rfl, HA, HK2, HO_5, HB⟩ := hrel
     cases gk with
     | zero => exact absurd HA.out (by simp [spec_l05Orbits.l1])
     | succ k2 =>
      have H := HA.out
      clear HA
      simp only [spec_l05Orbits.l1] at H
      by_cases c8 : x7_2 < (l1.length : Int)
      ·rw [if_pos c8] at H
       have c8b0 : decide (x7_2 < (l1.length : Int)) = true := decide_eq_true c8
       clear c8
       have H' := am_ H
       clear H
       go_wp2
       repeat (go_quiet (fail); try go_wp2)
       go_loopg [8] k2 (fun kq v8 w' => ∃ (x5_3 : List Int) (x8_3 : Int), v8 = .int .i64 x8_3 ∧ Aside0 (spec_l05Orbits.l2 kq a0 l1 x5_3 x7_2 x8_3 = some r) ∧ Aside0 (kq ≤ k2) ∧ Aside0 (Kd.R (Kd.int .i64) 2 w' w.heap.size (fun _ => True) u5 x5_3) ∧ Aside0 (Below w.heap.size w w'))
       case atStart => exact ⟨(x5_2), (0), (by first | rfl | (simp; done) | (simp [*]; done)), H', ⟨Nat.le_refl _⟩, ⟨rk_ HO_5.out⟩, ⟨bb_ HB.out⟩⟩
       case round =>
        clear H'
        try clear c1
        try clear p2
        try clear c5
        try clear c5b0
        try clear c6
        try clear p6
        try clear c8
        try clear c8b0
        try clear p2
        try clear p6
        obtain ⟨x5_3, x8_3, rfl, HA, HK3, HO_5, HB⟩ := hrel
        cases gk with
        | zero => exact absurd HA.out (by simp [spec_l05Orbits.l2])
        | succ k3 =>
         have H := HA.out
         clear HA
         simp only [spec_l05Orbits.l2] at H
         by_cases c9 : x8_3 < a0
         ·rw [if_pos c9] at H
          have c9b0 : decide (x8_3 < a0) = true := decide_eq_true c9
          clear c9
          by_cases c10 : 0 ≤ x8_3
          ·rw [if_pos c10] at H
           have c10b0 : decide (0 ≤ x8_3) = true := decide_eq_true c10
           clear c10
           by_cases c11 : x8_3 < (x5_3.length : Int)
           ·rw [if_pos c11] at H
            have c11b0 : decide (x8_3 < (x5_3.length : Int)) = true := decide_eq_true c11
            clear c11
            by_cases c12 : 0 ≤ x7_2
            ·rw [if_pos c12] at H
             have c12b0 : decide (0 ≤ x7_2) = true := decide_eq_true c12
             clear c12
             by_cases c13 : x7_2 < (l1.length : Int)
             ·rw [if_pos c13] at H
              have c13b0 : decide (x7_2 < (l1.length : Int)) = true := decide_eq_true c13
              clear c13
              by_cases c14 : x8_3 < ((rd_L1 l1 x7_2).length : Int)
              ·rw [if_pos c14] at H
               have c14b0 : decide (x8_3 < ((rd_L1 l1 x7_2).length : Int)) = true := decide_eq_true c14
               clear c14
               by_cases c15 : 0 ≤ (rd (rd_L1 l1 x7_2) x8_3)
               ·rw [if_pos c15] at H
                have c15b0 : decide (0 ≤ (rd (rd_L1 l1 x7_2) x8_3)) = true := decide_eq_true c15
                clear c15
                by_cases c16 : (rd (rd_L1 l1 x7_2) x8_3) < (x5_3.length : Int)
                ·rw [if_pos c16] at H
                 have c16b0 : decide ((rd (rd_L1 l1 x7_2) x8_3) < (x5_3.length : Int)) = true := decide_eq_true c16
                 clear c16
                 have H' := am_ H
                 clear H
                 obtain ⟨Ao17, co17, eo17⟩ := Kd.R_slice HO_5.out
                 subst eo17
                 have p170 : 0 ≤ (x8_3 : Int) := of_decide_eq_true (by first | (with_reducible assumption) | assumption)
                 have q170 : x8_3 < (x5_3.length : Int) := of_decide_eq_true (by first | (with_reducible assumption) | assumption)
                 obtain ⟨ad170, e170, hx170_0⟩ := Kd.at_int (Kd.R_reads' HO_5.out).2.2 x8_3 p170 q170
                 cases e170
                 replace p170 := eq_true p170
                 replace q170 := eq_true q170
                 have p171 : 0 ≤ (x7_2 : Int) := of_decide_eq_true (by first | (with_reducible assumption) | assumption)
                 have q171 : x7_2 < (l1.length : Int) := of_decide_eq_true (by first | (with_reducible assumption) | assumption)
                 obtain ⟨ad171, A171_0, c171_0, e171, hx171_0, hl171_0, hi171_0⟩ := at_L1 HR1.out x7_2 p171 q171
                 cases e171
                 replace hx171_0 := (HB.out.cell (World.block_lt_of_cell? w _ hx171_0)).trans hx171_0
                 have HR171_0 := am_ hi171_0
                 have HC171_0 := am_ hl171_0
                 clear hi171_0 hl171_0
                 replace p171 := eq_true p171
                 replace q171 := eq_true q171
                 have p172 : 0 ≤ (x8_3 : Int) := of_decide_eq_true (by first | (with_reducible assumption) | assumption)
                 have q172 : x8_3 < ((rd_L1 l1 x7_2).length : Int) := of_decide_eq_true (by first | (with_reducible assumption) | assumption)
                 obtain ⟨ad172, e172, hx172_0⟩ := Kd.at_int HR171_0.out x8_3 p172 q172
                 cases e172
                 replace hx172_0 := (HB.out.cell (World.block_lt_of_cell? w _ hx172_0)).trans hx172_0
                 replace p172 := eq_true p172
                 replace q172 := eq_true q172
                 have p173 : 0 ≤ ((rd (rd_L1 l1 x7_2) x8_3) : Int) := of_decide_eq_true (by first | (with_reducible assumption) | assumption)
                 have q173 : (rd (rd_L1 l1 x7_2) x8_3) < (x5_3.length : Int) := of_decide_eq_true (by first | (with_reducible assumption) | assumption)
                 obtain ⟨ad173, e173, hx173_0⟩ := Kd.at_int (Kd.R_reads' HO_5.out).2.2 (rd (rd_L1 l1 x7_2) x8_3) p173 q173
                 obtain rfl : ad170 = ad173 := (by injection e173)
                 obtain ⟨go23, cp_, ep_, _, _, _, _⟩ := Kd.R_form HO_5.out (by omega)
                 obtain rfl : ad170 = ⟨go23, 0, none⟩ := (by injection ep_ with ea_ _ _; injection ea_)
                 clear ep_
                 simp only [add_plain] at hx170_0
                 simp only [add_plain] at hx173_0
                 replace p173 := eq_true p173
                 replace q173 := eq_true q173
                 go_wp2
                 repeat (go_quiet (fail); try go_wp2)
                 go_loopg [11] k3 (fun kq v11 w' => ∃ (x5_4 : List Int) (x11_4 : Int), v11 = .int .i64 x11_4 ∧ Aside0 (spec_l05Orbits.l3 kq a0 l1 x5_4 x7_2 x8_3 (rd x5_3 x8_3) (rd x5_3 (rd (rd_L1 l1 x7_2) x8_3)) x11_4 = some r) ∧ Aside0 (kq ≤ k3) ∧ Aside0 (Kd.R (Kd.int .i64) 2 w' w.heap.size (fun _ => True) (.slice (some (⟨go23, 0, none⟩ : Addr)) x5_3.length co17) x5_4) ∧ Aside0 (Below w.heap.size w w'))
                 case atStart => exact ⟨(x5_3), (0), (by first | rfl | (simp; done) | (simp [*]; done)), H', ⟨Nat.le_refl _⟩, ⟨rk_ HO_5.out⟩, ⟨bb_ HB.out⟩⟩
                 case round =>
                  clear H'
                  try clear c1
                  try clear p1
                  try clear q1
                  try clear hx1
                  try clear p2
                  try clear c5
                  try clear c5b0
                  try clear c6
                  try clear p6
                  try clear c8
                  try clear c8b0
                  try clear c9
                  try clear c9b0
                  try clear c10
                  try clear c10b0
                  try clear c11
                  try clear c11b0
                  try clear c12
                  try clear c12b0
                  try clear c13
                  try clear c13b0
                  try clear c14
                  try clear c14b0
                  try clear c15
                  try clear c15b0
                  try clear c16
                  try clear c16b0
                  try clear c17
                  try clear p17
                  try clear q17
                  try clear hx17
                  try clear hx170_0
                  try clear hx171_0
                  try clear hx172_0
                  try clear hx173_0
                  try clear p170
                  try clear p171
                  try clear p172
                  try clear p173
                  try clear p2
                  try clear p6
                  try clear q170
                  try clear q171
                  try clear q172
                  try clear q173
                  obtain ⟨x5_4, x11_4, rfl, HA, HK4, HO_5, HB⟩ := hrel
                  have hl5_4 := (Kd.R_reads' HO_5.out).1
                  rw [hl5_4] at HO_5
                  (try simp only [hl5_4])
                  cases gk with
                  | zero => exact absurd HA.out (by simp [spec_l05Orbits.l3])
                  | succ k4 =>
                   have H := HA.out
                   clear HA
                   simp only [spec_l05Orbits.l3] at H
                   by_cases c18 : x11_4 < (x5_4.length : Int)
                   ·rw [if_pos c18] at H
                    have c18b0 : decide (x11_4 < (x5_4.length : Int)) = true := decide_eq_true c18
                    clear c18
                    by_cases c19 : 0 ≤ x11_4
                    ·rw [if_pos c19] at H
                     have c19b0 : decide (0 ≤ x11_4) = true := decide_eq_true c19
                     clear c19
                     obtain ⟨ji20, hji20⟩ : ∃ j_ : Int, (mx (rd x5_3 x8_3) (rd x5_3 (rd (rd_L1 l1 x7_2) x8_3))) = j_ := ⟨_, rfl⟩
                     replace H : (if (rd x5_4 x11_4) = (ji20) then (spec_l05Orbits.l3 k4 a0 l1 (x5_4.set (x11_4 : Int).toNat (mn (rd x5_3 x8_3) (rd x5_3 (rd (rd_L1 l1 x7_2) x8_3)))) x7_2 x8_3 (rd x5_3 x8_3) (rd x5_3 (rd (rd_L1 l1 x7_2) x8_3)) (wrap64 (x11_4 + 1))) else (spec_l05Orbits.l3 k4 a0 l1 x5_4 x7_2 x8_3 (rd x5_3 x8_3) (rd x5_3 (rd (rd_L1 l1 x7_2) x8_3)) (wrap64 (x11_4 + 1)))) = some r := by first | (rw [hji20] at H; exact H) | (simp only [hji20] at H ⊢; exact H)
                     have hji20_ : (if (rd x5_3 x8_3) < (rd x5_3 (rd (rd_L1 l1 x7_2) x8_3)) then (rd x5_3 (rd (rd_L1 l1 x7_2) x8_3)) else (rd x5_3 x8_3)) = ji20 := hji20
                     by_cases c21 : (rd x5_4 x11_4) = (ji20)
                     ·rw [if_pos c21] at H
                      have c21b0 : ((rd x5_4 x11_4) == (ji20)) = true := beq_iff_eq.mpr c21
                      have c21b1 : ((rd x5_4 x11_4) != (ji20)) = false := bne_eq_false_iff_eq.mpr c21
                      clear c21
                      obtain ⟨ji22, hji22⟩ : ∃ j_ : Int, (mn (rd x5_3 x8_3) (rd x5_3 (rd (rd_L1 l1 x7_2) x8_3))) = j_ := ⟨_, rfl⟩
                      replace H : (spec_l05Orbits.l3 k4 a0 l1 (x5_4.set (x11_4 : Int).toNat (ji22)) x7_2 x8_3 (rd x5_3 x8_3) (rd x5_3 (rd (rd_L1 l1 x7_2) x8_3)) (wrap64 (x11_4 + 1))) = some r := by first | (rw [hji22] at H; exact H) | (simp only [hji22] at H ⊢; exact H)
                      have hji22_ : (if (rd x5_3 (rd (rd_L1 l1 x7_2) x8_3)) < (rd x5_3 x8_3) then (rd x5_3 (rd (rd_L1 l1 x7_2) x8_3)) else (rd x5_3 x8_3)) = ji22 := hji22
                      obtain ⟨y175, hy175⟩ : ∃ y_ : List Int, y_ = (x5_4.set (x11_4 : Int).toNat (ji22)) := ⟨_, rfl⟩
                      replace H : (spec_l05Orbits.l3 k4 a0 l1 y175 x7_2 x8_3 (rd x5_3 x8_3) (rd x5_3 (rd (rd_L1 l1 x7_2) x8_3)) (wrap64 (x11_4 + 1))) = some r := by first | (rw [hy175]; with_reducible exact H) | (have H2_ := (Option.bind_some _ _).symm.trans H; rw [hy175]; with_reducible exact H2_) | (have H2_ := (Option.bind_some _ _).symm.trans H; with_reducible exact H2_) | with_reducible exact H | (rw [hy175]; exact H) | exact H
                      have Ny175 := am_ hy175
                      clear hy175
                      have H' := am_ H
                      clear H
                      have p174 : 0 ≤ (x11_4 : Int) := of_decide_eq_true (by first | (with_reducible assumption) | assumption)
                      have q174 : x11_4 < (x5_4.length : Int) := of_decide_eq_true (by first | (with_reducible assumption) | assumption)
                      obtain ⟨ad174, e174, hx174_0⟩ := Kd.at_int (Kd.R_reads' HO_5.out).2.2 x11_4 p174 q174
                      obtain rfl : (⟨go23, 0, none⟩ : Addr) = ad174 := (by injection e174)
                      (try simp only [add_plain] at hx174_0)
                      replace p174 := eq_true p174
                      replace q174 := eq_true q174
                      have p23 : 0 ≤ (x11_4 : Int) := of_decide_eq_true (by first | (with_reducible assumption) | assumption)
                      have q23 : (x11_4 : Int) < ((x5_4.length : Int) : Int) := of_decide_eq_true (by first | (with_reducible assumption) | assumption)
                      obtain ⟨go23, co23, eo23, gb23, gl23, cl23, HG23⟩ := Kd.R_form HO_5.out (by omega)
                      (first | cases eo23 | (injection eo23 with ea_ en_ ec_; (first | subst ea_ | (injection ea_ with ea_; subst ea_)); subst ec_; clear en_))
                      have GB23 := am_ gb23
                      have GG23 := am_ HG23
                      clear gb23 gl23 HG23
                      (first | simp only [add_plain] at hx170_0 | skip)
                      (first | simp only [add_plain] at hx173_0 | skip)
                      (first | simp only [add_plain] at hx174_0 | skip)
                      obtain ⟨hx23_0, hf23_0⟩ := Kd.R_celln 0 HO_5.out (x11_4 : Int) p23 q23
                      replace p23 := eq_true p23
                      replace q23 := eq_true q23
                      have HP24 := Kd.R_putg HO_5.out (x11_4 : Int) ji22
                      go_wp2_with (first | ((with_reducible refine gate_store (t := 2) (p := 70) rfl ?_); (try (rw [drewN_self wr]; generalize hq_ : World.drewN wr _ = wr; have n0_ := am_ (Kd.R_at hq_ HO_5.out); have n1_ := am_ (below_at hq_ HB.out); clear hq_ HO_5 HB; have HO_5 := n0_; have HB := n1_; clear n0_ n1_; (try (have HP24 := Kd.R_putg HO_5.out (x11_4 : Int) ji22)))); refine store_event (t := 2) (p := 70) (v := ?vo_w25) (w1 := (wr.setCell ⟨go23, (x11_4 : Int).toNat, none⟩ (.int .i64 ji22))) ?hg ?ho ?hn ?hr ?_; (case ho => rfl); (case hg => rfl); (case hn => rfl); (case hr => first | (go_simp; done) | (go_simp; rfl)); intro w25 hw; have hg : wr.grownBy w25 (some go23) := (by rw [hw]; exact HP24.2); have hp_ : Kd.R (Kd.int .i64) 2 w25 w.heap.size (fun _ => True) (.slice (some ⟨go23, 0, none⟩) x5_4.length co17) y175 := (by rw [hw, Ny175.out]; exact HP24.1); clear HP24; have n0_ := am_ (hp_); have n1_ := am_ ((by rw [hw]; exact below_set (HB.out) GB23.out : Below w.heap.size w w25)); clear HO_5 HB; revert n0_ n1_; intro HO_5 HB; clear hg hw hp_))
                      repeat (go_quiet (first | ((with_reducible refine gate_store (t := 2) (p := 70) rfl ?_); (try (rw [drewN_self wr]; generalize hq_ : World.drewN wr _ = wr; have n0_ := am_ (Kd.R_at hq_ HO_5.out); have n1_ := am_ (below_at hq_ HB.out); clear hq_ HO_5 HB; have HO_5 := n0_; have HB := n1_; clear n0_ n1_; (try (have HP24 := Kd.R_putg HO_5.out (x11_4 : Int) ji22)))); refine store_event (t := 2) (p := 70) (v := ?vo_w25) (w1 := (wr.setCell ⟨go23, (x11_4 : Int).toNat, none⟩ (.int .i64 ji22))) ?hg ?ho ?hn ?hr ?_; (case ho => rfl); (case hg => rfl); (case hn => rfl); (case hr => first | (go_simp; done) | (go_simp; rfl)); intro w25 hw; have hg : wr.grownBy w25 (some go23) := (by rw [hw]; exact HP24.2); have hp_ : Kd.R (Kd.int .i64) 2 w25 w.heap.size (fun _ => True) (.slice (some ⟨go23, 0, none⟩) x5_4.length co17) y175 := (by rw [hw, Ny175.out]; exact HP24.1); clear HP24; have n0_ := am_ (hp_); have n1_ := am_ ((by rw [hw]; exact below_set (HB.out) GB23.out : Below w.heap.size w w25)); clear HO_5 HB; revert n0_ n1_; intro HO_5 HB; clear hg hw hp_)); try go_wp2_with (first | ((with_reducible refine gate_store (t := 2) (p := 70) rfl ?_); (try (rw [drewN_self wr]; generalize hq_ : World.drewN wr _ = wr; have n0_ := am_ (Kd.R_at hq_ HO_5.out); have n1_ := am_ (below_at hq_ HB.out); clear hq_ HO_5 HB; have HO_5 := n0_; have HB := n1_; clear n0_ n1_; (try (have HP24 := Kd.R_putg HO_5.out (x11_4 : Int) ji22)))); refine store_event (t := 2) (p := 70) (v := ?vo_w25) (w1 := (wr.setCell ⟨go23, (x11_4 : Int).toNat, none⟩ (.int .i64 ji22))) ?hg ?ho ?hn ?hr ?_; (case ho => rfl); (case hg => rfl); (case hn => rfl); (case hr => first | (go_simp; done) | (go_simp; rfl)); intro w25 hw; have hg : wr.grownBy w25 (some go23) := (by rw [hw]; exact HP24.2); have hp_ : Kd.R (Kd.int .i64) 2 w25 w.heap.size (fun _ => True) (.slice (some ⟨go23, 0, none⟩) x5_4.length co17) y175 := (by rw [hw, Ny175.out]; exact HP24.1); clear HP24; have n0_ := am_ (hp_); have n1_ := am_ ((by rw [hw]; exact below_set (HB.out) GB23.out : Below w.heap.size w w25)); clear HO_5 HB; revert n0_ n1_; intro HO_5 HB; clear hg hw hp_)))
                      (try simp only [← hl5_4])
                      go_roundg k4
                      case measure => have := HK1.out; have := HK2.out; have := HK3.out; have := HK4.out; omega
                      case rel => exact ⟨(y175), (wrap64 (x11_4 + 1)), (by first | rfl | (simp; done) | (simp [*]; done)), H', ⟨by have := HK1.out; have := HK2.out; have := HK3.out; have := HK4.out; omega⟩, ⟨by (try simp only [hl5_4]); (with_reducible repeat (first | apply Kd.R_alloc | apply Kd.R_drewN | apply Kd.R_drew)); exact HO_5.out⟩, ⟨bb_ HB.out⟩⟩
                     ·rw [if_neg c21] at H
                      have c21b0 : ((rd x5_4 x11_4) == (ji20)) = false := beq_eq_false_iff_ne.mpr c21
                      have c21b1 : ((rd x5_4 x11_4) != (ji20)) = true := bne_iff_ne.mpr c21
                      have H' := am_ H
                      clear H
                      have p174 : 0 ≤ (x11_4 : Int) := of_decide_eq_true (by first | (with_reducible assumption) | assumption)
                      have q174 : x11_4 < (x5_4.length : Int) := of_decide_eq_true (by first | (with_reducible assumption) | assumption)
                      obtain ⟨ad174, e174, hx174_0⟩ := Kd.at_int (Kd.R_reads' HO_5.out).2.2 x11_4 p174 q174
                      obtain rfl : (⟨go23, 0, none⟩ : Addr) = ad174 := (by injection e174)
                      (try simp only [add_plain] at hx174_0)
                      replace p174 := eq_true p174
                      replace q174 := eq_true q174
                      go_wp2
                      repeat (go_quiet (fail); try go_wp2)
                      (try simp only [← hl5_4])
                      go_roundg k4
                      case measure => have := HK1.out; have := HK2.out; have := HK3.out; have := HK4.out; omega
                      case rel => exact ⟨(x5_4), (wrap64 (x11_4 + 1)), (by first | rfl | (simp; done) | (simp [*]; done)), H', ⟨by have := HK1.out; have := HK2.out; have := HK3.out; have := HK4.out; omega⟩, ⟨by (try simp only [hl5_4]); (with_reducible repeat (first | apply Kd.R_alloc | apply Kd.R_drewN | apply Kd.R_drew)); exact HO_5.out⟩, ⟨bb_ HB.out⟩⟩
                    ·rw [if_neg c19] at H
                     exact absurd H (by simp)
                   ·rw [if_neg c18] at H
                    have c18b0 : decide (x11_4 < (x5_4.length : Int)) = false := decide_eq_false c18
                    clear c18
                    have H' := am_ H
                    clear H
                    go_wp2
                    repeat (go_quiet (fail); try go_wp2)
                    (try simp only [← hl5_4])
                    go_roundg k4
                    case measure => have := HK1.out; have := HK2.out; have := HK3.out; have := HK4.out; omega
                    case rel => exact ⟨(x5_4), (wrap64 (x8_3 + 1)), (by first | rfl | (simp; done) | (simp [*]; done)), H', ⟨by have := HK1.out; have := HK2.out; have := HK3.out; have := HK4.out; omega⟩, ⟨by (try simp only [hl5_4]); (with_reducible repeat (first | apply Kd.R_alloc | apply Kd.R_drewN | apply Kd.R_drew)); exact HO_5.out⟩, ⟨bb_ HB.out⟩⟩
                ·rw [if_neg c16] at H
                 exact absurd H (by simp)
               ·rw [if_neg c15] at H
                exact absurd H (by simp)
              ·rw [if_neg c14] at H
               exact absurd H (by simp)
             ·rw [if_neg c13] at H
              exact absurd H (by simp)
            ·rw [if_neg c12] at H
             exact absurd H (by simp)
           ·rw [if_neg c11] at H
            exact absurd H (by simp)
          ·rw [if_neg c10] at H
           exact absurd H (by simp)
         ·rw [if_neg c9] at H
          have c9b0 : decide (x8_3 < a0) = false := decide_eq_false c9
          clear c9
          have H' := am_ H
          clear H
          go_wp2
          repeat (go_quiet (fail); try go_wp2)
          go_roundg k3
          case measure => have := HK1.out; have := HK2.out; have := HK3.out; omega
          case rel => exact ⟨(x5_3), (wrap64 (x7_2 + 1)), (by first | rfl | (simp; done) | (simp [*]; done)), H', ⟨by have := HK1.out; have := HK2.out; have := HK3.out; omega⟩, ⟨rk_ HO_5.out⟩, ⟨bb_ HB.out⟩⟩
      ·rw [if_neg c8] at H
       have c8b0 : decide (x7_2 < (l1.length : Int)) = false := decide_eq_false c8
       clear c8
       obtain ⟨y176, hy176⟩ : ∃ y_ : List (List Int), y_ = (([] : List (List Int))) := ⟨_, rfl⟩
       replace H : (spec_l05Orbits.l4 k2 a0 x5_2 y176 0) = some r := by first | (rw [hy176]; with_reducible exact H) | (have H2_ := (Option.bind_some _ _).symm.trans H; rw [hy176]; with_reducible exact H2_) | (have H2_ := (Option.bind_some _ _).symm.trans H; with_reducible exact H2_) | with_reducible exact H | (rw [hy176]; exact H) | exact H
       have Ny176 := am_ hy176
       clear hy176
       have H' := am_ H
       clear H
       go_wp2_with (first | ((with_reducible refine gate_dst (N := 71) rfl ?_); refine Kd.S_lit (Kd.slice 2 (Kd.int .i64)) _ 39 ?hg (N := 71) ?hd (xs := ([] : List (List Int))) (inner := []) (ok := fun _ => True) (okp := fun _ => True) ?hr ?hp (fun _ hk => hk) trivial (Below.refl _ _) (Nat.le_refl _) (by simp) ?_; (case hd => rfl); (case hg => rfl); (case hr => first | (go_simp; done) | (go_simp; rfl)); (case hp => exact (Reps.none _ _)); intro v177 w26 ho27 hb hg_ hnew_; clear hg_ hnew_; (first | rw [← Ny176.out] at ho27 | (simp only [Int.reduceToNat] at ho27; rw [← Ny176.out] at ho27)); have n0_ := am_ (Kd.R_below (rk_ HO_5.out) hb); have n1_ := am_ (Kd.S_lower (Kd.S_new' ho27 (Kd.R_lt (rk_ HO_5.out))) (below_size (bb_ HB.out))); have n2_ := am_ (below_step (bb_ HB.out) hb); clear HO_5 HB; revert n0_ n1_ n2_; intro HO_5 HO178 HB; clear hb ho27))
       repeat (go_quiet (first | ((with_reducible refine gate_dst (N := 71) rfl ?_); refine Kd.S_lit (Kd.slice 2 (Kd.int .i64)) _ 39 ?hg (N := 71) ?hd (xs := ([] : List (List Int))) (inner := []) (ok := fun _ => True) (okp := fun _ => True) ?hr ?hp (fun _ hk => hk) trivial (Below.refl _ _) (Nat.le_refl _) (by simp) ?_; (case hd => rfl); (case hg => rfl); (case hr => first | (go_simp; done) | (go_simp; rfl)); (case hp => exact (Reps.none _ _)); intro v177 w26 ho27 hb hg_ hnew_; clear hg_ hnew_; (first | rw [← Ny176.out] at ho27 | (simp only [Int.reduceToNat] at ho27; rw [← Ny176.out] at ho27)); have n0_ := am_ (Kd.R_below (rk_ HO_5.out) hb); have n1_ := am_ (Kd.S_lower (Kd.S_new' ho27 (Kd.R_lt (rk_ HO_5.out))) (below_size (bb_ HB.out))); have n2_ := am_ (below_step (bb_ HB.out) hb); clear HO_5 HB; revert n0_ n1_ n2_; intro HO_5 HO178 HB; clear hb ho27)); try go_wp2_with (first | ((with_reducible refine gate_dst (N := 71) rfl ?_); refine Kd.S_lit (Kd.slice 2 (Kd.int .i64)) _ 39 ?hg (N := 71) ?hd (xs := ([] : List (List Int))) (inner := []) (ok := fun _ => True) (okp := fun _ => True) ?hr ?hp (fun _ hk => hk) trivial (Below.refl _ _) (Nat.le_refl _) (by simp) ?_; (case hd => rfl); (case hg => rfl); (case hr => first | (go_simp; done) | (go_simp; rfl)); (case hp => exact (Reps.none _ _)); intro v177 w26 ho27 hb hg_ hnew_; clear hg_ hnew_; (first | rw [← Ny176.out] at ho27 | (simp only [Int.reduceToNat] at ho27; rw [← Ny176.out] at ho27)); have n0_ := am_ (Kd.R_below (rk_ HO_5.out) hb); have n1_ := am_ (Kd.S_lower (Kd.S_new' ho27 (Kd.R_lt (rk_ HO_5.out))) (below_size (bb_ HB.out))); have n2_ := am_ (below_step (bb_ HB.out) hb); clear HO_5 HB; revert n0_ n1_ n2_; intro HO_5 HO178 HB; clear hb ho27)))
       go_loopg [12, 13] k2 (fun kq v12 v13 w' => ∃ (x12_3 : List (List Int)) (x13_3 : Int), v13 = .int .i64 x13_3 ∧ Aside0 (spec_l05Orbits.l4 kq a0 x5_2 x12_3 x13_3 = some r) ∧ Aside0 (kq ≤ k2) ∧ Aside0 (Kd.R (Kd.int .i64) 2 w' w.heap.size (fun _ => True) u5 x5_2) ∧ Aside0 (Kd.S (Kd.slice 2 (Kd.int .i64)) 39 w' w.heap.size (fun k_ => some k_ ≠ (u5 : Value).ownBlock) v12 x12_3) ∧ Aside0 (Below w.heap.size w w'))
       case atStart => exact ⟨(y176), (0), (by first | rfl | (simp; done) | (simp [*]; done)), H', ⟨Nat.le_refl _⟩, ⟨rk_ HO_5.out⟩, ⟨by (with_reducible repeat (first | apply Kd.S_alloc | apply Kd.S_drewN | apply Kd.S_drew)); exact Kd.S_mono HO178.out (fun _ hk => hk.2)⟩, ⟨bb_ HB.out⟩⟩
       case round =>
        clear H'
        try clear c1
        try clear p1
        try clear q1
        try clear hx1
        try clear c2
        try clear p2
        try clear q2
        try clear hx2
        try clear hf2
        try clear c5
        try clear c5b0
        try clear c6
        try clear p6
        try clear c8
        try clear c8b0
        try clear c9
        try clear c9b0
        try clear c10
        try clear c10b0
        try clear c11
        try clear c11b0
        try clear c12
        try clear c12b0
        try clear c13
        try clear c13b0
        try clear c14
        try clear c14b0
        try clear c15
        try clear c15b0
        try clear c16
        try clear c16b0
        try clear c17
        try clear p17
        try clear q17
        try clear hx17
        try clear c18
        try clear c18b0
        try clear c19
        try clear c19b0
        try clear c21
        try clear c21b0
        try clear c21b1
        try clear p23
        try clear q23
        try clear hx23
        try clear hf23
        try clear hx170_0
        try clear hx171_0
        try clear hx172_0
        try clear hx173_0
        try clear hx174_0
        try clear hx23_0
        try clear p1
        try clear p17
        try clear p170
        try clear p171
        try clear p172
        try clear p173
        try clear p174
        try clear p2
        try clear p23
        try clear p6
        try clear q1
        try clear q17
        try clear q170
        try clear q171
        try clear q172
        try clear q173
        try clear q174
        try clear q23
        obtain ⟨x12_3, x13_3, rfl, HA, HK3, HO_5, HO_12, HB⟩ := hrel
        cases gk with
        | zero => exact absurd HA.out (by simp [spec_l05Orbits.l4])
        | succ k3 =>
         have H := HA.out
         clear HA
         simp only [spec_l05Orbits.l4] at H
         by_cases c28 : x13_3 < a0
         ·rw [if_pos c28] at H
          have c28b0 : decide (x13_3 < a0) = true := decide_eq_true c28
          clear c28
          obtain ⟨y179, hy179⟩ : ∃ y_ : List Int, y_ = (([] : List Int)) := ⟨_, rfl⟩
          replace H : (spec_l05Orbits.l5 k3 a0 x5_2 x12_3 x13_3 y179 0) = some r := by first | (rw [hy179]; with_reducible exact H) | (have H2_ := (Option.bind_some _ _).symm.trans H; rw [hy179]; with_reducible exact H2_) | (have H2_ := (Option.bind_some _ _).symm.trans H; with_reducible exact H2_) | with_reducible exact H | (rw [hy179]; exact H) | exact H
          have Ny179 := am_ hy179
          clear hy179
          have H' := am_ H
          clear H
          go_wp2_with (first | ((with_reducible refine gate_dst (N := 77) rfl ?_); refine Kd.R_lit (Kd.int .i64) _ 2 ?hg (N := 77) ?hd (xs := ([] : List Int)) (inner := []) (ok := fun _ => True) (okp := fun _ => True) ?hr ?hp (fun _ hk => hk) trivial (Below.refl _ _) (Nat.le_refl _) (by simp) ?_; (case hd => rfl); (case hg => rfl); (case hr => first | (go_simp; done) | (go_simp; rfl)); (case hp => exact (Reps.none _ _)); intro v180 w29 ho30 hb hg_ hnew_; clear hg_ hnew_; (first | rw [← Ny179.out] at ho30 | (simp only [Int.reduceToNat] at ho30; rw [← Ny179.out] at ho30)); have n0_ := am_ (Kd.R_elder' (rk_ HO_5.out) (Kd.R_base ho30) hb); have n1_ := am_ (Kd.S_elder' (by (with_reducible repeat (first | apply Kd.S_alloc | apply Kd.S_drewN | apply Kd.S_drew)); exact HO_12.out) (Kd.R_base ho30) hb); have n2_ := am_ (Kd.R_lower (Kd.R_new' ho30 (Kd.R_lt (rk_ HO_5.out))) (below_size (bb_ HB.out))); have n3_ := am_ (below_step (bb_ HB.out) hb); clear HO_5 HO_12 HB; revert n0_ n1_ n2_ n3_; intro HO_5 HO_12 HO181 HB; clear hb ho30))
          repeat (go_quiet (first | ((with_reducible refine gate_dst (N := 77) rfl ?_); refine Kd.R_lit (Kd.int .i64) _ 2 ?hg (N := 77) ?hd (xs := ([] : List Int)) (inner := []) (ok := fun _ => True) (okp := fun _ => True) ?hr ?hp (fun _ hk => hk) trivial (Below.refl _ _) (Nat.le_refl _) (by simp) ?_; (case hd => rfl); (case hg => rfl); (case hr => first | (go_simp; done) | (go_simp; rfl)); (case hp => exact (Reps.none _ _)); intro v180 w29 ho30 hb hg_ hnew_; clear hg_ hnew_; (first | rw [← Ny179.out] at ho30 | (simp only [Int.reduceToNat] at ho30; rw [← Ny179.out] at ho30)); have n0_ := am_ (Kd.R_elder' (rk_ HO_5.out) (Kd.R_base ho30) hb); have n1_ := am_ (Kd.S_elder' (by (with_reducible repeat (first | apply Kd.S_alloc | apply Kd.S_drewN | apply Kd.S_drew)); exact HO_12.out) (Kd.R_base ho30) hb); have n2_ := am_ (Kd.R_lower (Kd.R_new' ho30 (Kd.R_lt (rk_ HO_5.out))) (below_size (bb_ HB.out))); have n3_ := am_ (below_step (bb_ HB.out) hb); clear HO_5 HO_12 HB; revert n0_ n1_ n2_ n3_; intro HO_5 HO_12 HO181 HB; clear hb ho30)); try go_wp2_with (first | ((with_reducible refine gate_dst (N := 77) rfl ?_); refine Kd.R_lit (Kd.int .i64) _ 2 ?hg (N := 77) ?hd (xs := ([] : List Int)) (inner := []) (ok := fun _ => True) (okp := fun _ => True) ?hr ?hp (fun _ hk => hk) trivial (Below.refl _ _) (Nat.le_refl _) (by simp) ?_; (case hd => rfl); (case hg => rfl); (case hr => first | (go_simp; done) | (go_simp; rfl)); (case hp => exact (Reps.none _ _)); intro v180 w29 ho30 hb hg_ hnew_; clear hg_ hnew_; (first | rw [← Ny179.out] at ho30 | (simp only [Int.reduceToNat] at ho30; rw [← Ny179.out] at ho30)); have n0_ := am_ (Kd.R_elder' (rk_ HO_5.out) (Kd.R_base ho30) hb); have n1_ := am_ (Kd.S_elder' (by (with_reducible repeat (first | apply Kd.S_alloc | apply Kd.S_drewN | apply Kd.S_drew)); exact HO_12.out) (Kd.R_base ho30) hb); have n2_ := am_ (Kd.R_lower (Kd.R_new' ho30 (Kd.R_lt (rk_ HO_5.out))) (below_size (bb_ HB.out))); have n3_ := am_ (below_step (bb_ HB.out) hb); clear HO_5 HO_12 HB; revert n0_ n1_ n2_ n3_; intro HO_5 HO_12 HO181 HB; clear hb ho30)))
          go_loopg [14, 15] k3 (fun kq v14 v15 w' => ∃ (x14_4 : List Int) (x15_4 : Int), v15 = .int .i64 x15_4 ∧ Aside0 (spec_l05Orbits.l5 kq a0 x5_2 x12_3 x13_3 x14_4 x15_4 = some r) ∧ Aside0 (kq ≤ k3) ∧ Aside0 (Kd.R (Kd.int .i64) 2 w' w.heap.size (fun k_ => some k_ ≠ (v14 : Value).ownBlock) u5 x5_2) ∧ Aside0 (Kd.S (Kd.slice 2 (Kd.int .i64)) 39 w' w.heap.size (fun k_ => some k_ ≠ (u5 : Value).ownBlock ∧ some k_ ≠ (v14 : Value).ownBlock) u12 x12_3) ∧ Aside0 (Kd.R (Kd.int .i64) 2 w' w.heap.size (fun k_ => some k_ ≠ (u5 : Value).ownBlock) v14 x14_4) ∧ Aside0 (Below w.heap.size w w'))
          case atStart => exact ⟨(y179), (0), (by first | rfl | (simp; done) | (simp [*]; done)), H', ⟨Nat.le_refl _⟩, ⟨rm_ HO_5.out (fun _ hk => hk.2)⟩, ⟨by (with_reducible repeat (first | apply Kd.S_alloc | apply Kd.S_drewN | apply Kd.S_drew)); exact HO_12.out⟩, ⟨rm_ HO181.out (fun _ hk => hk.2)⟩, ⟨bb_ HB.out⟩⟩
          case round =>
           clear H'
           try clear c1
           try clear p1
           try clear q1
           try clear hx1
           try clear c2
           try clear p2
           try clear q2
           try clear hx2
           try clear hf2
           try clear c5
           try clear c5b0
           try clear c6
           try clear p6
           try clear c8
           try clear c8b0
           try clear c9
           try clear c9b0
           try clear c10
           try clear c10b0
           try clear c11
           try clear c11b0
           try clear c12
           try clear c12b0
           try clear c13
           try clear c13b0
           try clear c14
           try clear c14b0
           try clear c15
           try clear c15b0
           try clear c16
           try clear c16b0
           try clear c17
           try clear p17
           try clear q17
           try clear hx17
           try clear c18
           try clear c18b0
           try clear c19
           try clear c19b0
           try clear c21
           try clear c21b0
           try clear c21b1
           try clear p23
           try clear q23
           try clear hx23
           try clear hf23
           try clear c28
           try clear c28b0
           try clear hx170_0
           try clear hx171_0
           try clear hx172_0
           try clear hx173_0
           try clear hx174_0
           try clear hx23_0
           try clear p1
           try clear p17
           try clear p170
           try clear p171
           try clear p172
           try clear p173
           try clear p174
           try clear p2
           try clear p23
           try clear p6
           try clear q1
           try clear q17
           try clear q170
           try clear q171
           try clear q172
           try clear q173
           try clear q174
           try clear q2
           try clear q23
           obtain ⟨x14_4, x15_4, rfl, HA, HK4, HO_5, HO_12, HO_14, HB⟩ := hrel
           cases gk with
           | zero => exact absurd HA.out (by simp [spec_l05Orbits.l5])
           | succ k4 =>
            have H := HA.out
            clear HA
            simp only [spec_l05Orbits.l5] at H
            by_cases c31 : x15_4 < a0
            ·rw [if_pos c31] at H
             have c31b0 : decide (x15_4 < a0) = true := decide_eq_true c31
             clear c31
             by_cases c32 : 0 ≤ x15_4
             ·rw [if_pos c32] at H
              have c32b0 : decide (0 ≤ x15_4) = true := decide_eq_true c32
              clear c32
              by_cases c33 : x15_4 < (x5_2.length : Int)
              ·rw [if_pos c33] at H
               have c33b0 : decide (x15_4 < (x5_2.length : Int)) = true := decide_eq_true c33
               clear c33
               by_cases c34 : (rd x5_2 x15_4) = x13_3
               ·rw [if_pos c34] at H
                have c34b0 : ((rd x5_2 x15_4) == x13_3) = true := beq_iff_eq.mpr c34
                have c34b1 : ((rd x5_2 x15_4) != x13_3) = false := bne_eq_false_iff_eq.mpr c34
                clear c34
                by_cases c35 : x14_4.length < 17592186044416
                ·rw [if_pos c35] at H
                 have LMc35 := am_ c35
                 clear c35
                 obtain ⟨y183, hy183⟩ : ∃ y_ : List Int, y_ = (x14_4 ++ [x15_4]) := ⟨_, rfl⟩
                 replace H : (spec_l05Orbits.l5 k4 a0 x5_2 x12_3 x13_3 y183 (wrap64 (x15_4 + 1))) = some r := by first | (rw [hy183]; with_reducible exact H) | (have H2_ := (Option.bind_some _ _).symm.trans H; rw [hy183]; with_reducible exact H2_) | (have H2_ := (Option.bind_some _ _).symm.trans H; with_reducible exact H2_) | with_reducible exact H | (rw [hy183]; exact H) | exact H
                 have Ny183 := am_ hy183
                 clear hy183
                 have H' := am_ H
                 clear H
                 obtain ⟨Ao36, co36, eo36⟩ := Kd.R_slice HO_5.out
                 subst eo36
                 have p182 : 0 ≤ (x15_4 : Int) := of_decide_eq_true (by first | (with_reducible assumption) | assumption)
                 have q182 : x15_4 < (x5_2.length : Int) := of_decide_eq_true (by first | (with_reducible assumption) | assumption)
                 obtain ⟨ad182, e182, hx182_0⟩ := Kd.at_int (Kd.R_reads' HO_5.out).2.2 x15_4 p182 q182
                 cases e182
                 replace p182 := eq_true p182
                 replace q182 := eq_true q182
                 go_wp2_with (first | ((with_reducible refine gate_builtin (b := .append) (xs := #[.tmp 89, .tmp 91]) rfl ?_); at_builtin; refine Kd.R_append (Kd.int .i64) (w0 := w) w.heap.size rfl (.tmp 89) (.tmp 91) 39 2 (.int .i64 0) 8 rfl Try.underlying39 info2 rfl (by decide) (by omega) u14 x14_4 x15_4 [.int .i64 x15_4] (fun k_ => some k_ ≠ (.slice (some ad182) x5_2.length co36 : Value).ownBlock) (fun _ => False) rfl rfl ?aP (fun _ hk => hk.elim) ?aF ?aO ?aB ?aS ?aL ?_; (case aP => exact rfl); (case aB => exact (bb_ HB.out)); (case aF => exact (fun k_ hk => Kd.fresh' (Kd.R_lt (rk_ HO_5.out)) k_ hk)); (case aO => exact (rk_ HO_14.out)); (case aS => exact (below_size (bb_ HB.out))); (case aL => have := LMc35.out; omega); intro v184 w37 ho hb hg hat; rw [← Ny183.out] at ho; have n0_ := am_ (Kd.R_after (ok := (fun _ => True)) (rm_ HO_5.out (fun _ hk => ⟨trivial, hk⟩)) hg hat); have n1_ := am_ (Kd.S_after (ok := (fun k_ => some k_ ≠ (.slice (some ad182) x5_2.length co36 : Value).ownBlock)) (by (with_reducible repeat (first | apply Kd.S_alloc | apply Kd.S_drewN | apply Kd.S_drew)); exact HO_12.out) hg hat); have n2_ := am_ (hb); have n3_ := am_ (ho); clear HO_5 HO_12 HB HO_14; revert n0_ n1_ n2_ n3_; intro HO_5 HO_12 HB HO185; clear ho hb hg hat))
                 repeat (go_quiet (first | ((with_reducible refine gate_builtin (b := .append) (xs := #[.tmp 89, .tmp 91]) rfl ?_); at_builtin; refine Kd.R_append (Kd.int .i64) (w0 := w) w.heap.size rfl (.tmp 89) (.tmp 91) 39 2 (.int .i64 0) 8 rfl Try.underlying39 info2 rfl (by decide) (by omega) u14 x14_4 x15_4 [.int .i64 x15_4] (fun k_ => some k_ ≠ (.slice (some ad182) x5_2.length co36 : Value).ownBlock) (fun _ => False) rfl rfl ?aP (fun _ hk => hk.elim) ?aF ?aO ?aB ?aS ?aL ?_; (case aP => exact rfl); (case aB => exact (bb_ HB.out)); (case aF => exact (fun k_ hk => Kd.fresh' (Kd.R_lt (rk_ HO_5.out)) k_ hk)); (case aO => exact (rk_ HO_14.out)); (case aS => exact (below_size (bb_ HB.out))); (case aL => have := LMc35.out; omega); intro v184 w37 ho hb hg hat; rw [← Ny183.out] at ho; have n0_ := am_ (Kd.R_after (ok := (fun _ => True)) (rm_ HO_5.out (fun _ hk => ⟨trivial, hk⟩)) hg hat); have n1_ := am_ (Kd.S_after (ok := (fun k_ => some k_ ≠ (.slice (some ad182) x5_2.length co36 : Value).ownBlock)) (by (with_reducible repeat (first | apply Kd.S_alloc | apply Kd.S_drewN | apply Kd.S_drew)); exact HO_12.out) hg hat); have n2_ := am_ (hb); have n3_ := am_ (ho); clear HO_5 HO_12 HB HO_14; revert n0_ n1_ n2_ n3_; intro HO_5 HO_12 HB HO185; clear ho hb hg hat)); try go_wp2_with (first | ((with_reducible refine gate_builtin (b := .append) (xs := #[.tmp 89, .tmp 91]) rfl ?_); at_builtin; refine Kd.R_append (Kd.int .i64) (w0 := w) w.heap.size rfl (.tmp 89) (.tmp 91) 39 2 (.int .i64 0) 8 rfl Try.underlying39 info2 rfl (by decide) (by omega) u14 x14_4 x15_4 [.int .i64 x15_4] (fun k_ => some k_ ≠ (.slice (some ad182) x5_2.length co36 : Value).ownBlock) (fun _ => False) rfl rfl ?aP (fun _ hk => hk.elim) ?aF ?aO ?aB ?aS ?aL ?_; (case aP => exact rfl); (case aB => exact (bb_ HB.out)); (case aF => exact (fun k_ hk => Kd.fresh' (Kd.R_lt (rk_ HO_5.out)) k_ hk)); (case aO => exact (rk_ HO_14.out)); (case aS => exact (below_size (bb_ HB.out))); (case aL => have := LMc35.out; omega); intro v184 w37 ho hb hg hat; rw [← Ny183.out] at ho; have n0_ := am_ (Kd.R_after (ok := (fun _ => True)) (rm_ HO_5.out (fun _ hk => ⟨trivial, hk⟩)) hg hat); have n1_ := am_ (Kd.S_after (ok := (fun k_ => some k_ ≠ (.slice (some ad182) x5_2.length co36 : Value).ownBlock)) (by (with_reducible repeat (first | apply Kd.S_alloc | apply Kd.S_drewN | apply Kd.S_drew)); exact HO_12.out) hg hat); have n2_ := am_ (hb); have n3_ := am_ (ho); clear HO_5 HO_12 HB HO_14; revert n0_ n1_ n2_ n3_; intro HO_5 HO_12 HB HO185; clear ho hb hg hat)))
                 go_roundg k4
                 case measure => have := HK1.out; have := HK2.out; have := HK3.out; have := HK4.out; omega
                 case rel => exact ⟨(y183), (wrap64 (x15_4 + 1)), (by first | rfl | (simp; done) | (simp [*]; done)), H', ⟨by have := HK1.out; have := HK2.out; have := HK3.out; have := HK4.out; omega⟩, ⟨rm_ HO_5.out (fun _ hk => hk.2)⟩, ⟨by (with_reducible repeat (first | apply Kd.S_alloc | apply Kd.S_drewN | apply Kd.S_drew)); exact HO_12.out⟩, ⟨rk_ HO185.out⟩, ⟨bb_ HB.out⟩⟩
                ·rw [if_neg c35] at H
                 exact absurd H (by simp)
               ·rw [if_neg c34] at H
                have c34b0 : ((rd x5_2 x15_4) == x13_3) = false := beq_eq_false_iff_ne.mpr c34
                have c34b1 : ((rd x5_2 x15_4) != x13_3) = true := bne_iff_ne.mpr c34
                have H' := am_ H
                clear H
                obtain ⟨Ao38, co38, eo38⟩ := Kd.R_slice HO_5.out
                subst eo38
                have p182 : 0 ≤ (x15_4 : Int) := of_decide_eq_true (by first | (with_reducible assumption) | assumption)
                have q182 : x15_4 < (x5_2.length : Int) := of_decide_eq_true (by first | (with_reducible assumption) | assumption)
                obtain ⟨ad182, e182, hx182_0⟩ := Kd.at_int (Kd.R_reads' HO_5.out).2.2 x15_4 p182 q182
                cases e182
                replace p182 := eq_true p182
                replace q182 := eq_true q182
                go_wp2
                repeat (go_quiet (fail); try go_wp2)
                go_roundg k4
                case measure => have := HK1.out; have := HK2.out; have := HK3.out; have := HK4.out; omega
                case rel => exact ⟨(x14_4), (wrap64 (x15_4 + 1)), (by first | rfl | (simp; done) | (simp [*]; done)), H', ⟨by have := HK1.out; have := HK2.out; have := HK3.out; have := HK4.out; omega⟩, ⟨rk_ HO_5.out⟩, ⟨by (with_reducible repeat (first | apply Kd.S_alloc | apply Kd.S_drewN | apply Kd.S_drew)); exact HO_12.out⟩, ⟨rk_ HO_14.out⟩, ⟨bb_ HB.out⟩⟩
              ·rw [if_neg c33] at H
               exact absurd H (by simp)
             ·rw [if_neg c32] at H
              exact absurd H (by simp)
            ·rw [if_neg c31] at H
             have c31b0 : decide (x15_4 < a0) = false := decide_eq_false c31
             clear c31
             by_cases c39 : (x14_4.length : Int) > 0
             ·rw [if_pos c39] at H
              have c39b0 : decide (0 < (x14_4.length : Int)) = true := decide_eq_true c39
              have c39b1 : decide (0 < x14_4.length) = true := decide_eq_true (by omega)
              clear c39
              by_cases c40 : x12_3.length < 5864062014805
              ·rw [if_pos c40] at H
               have LMc40 := am_ c40
               clear c40
               obtain ⟨y186, hy186⟩ : ∃ y_ : List (List Int), y_ = (x12_3 ++ [x14_4]) := ⟨_, rfl⟩
               replace H : (spec_l05Orbits.l4 k4 a0 x5_2 y186 (wrap64 (x13_3 + 1))) = some r := by first | (rw [hy186]; with_reducible exact H) | (have H2_ := (Option.bind_some _ _).symm.trans H; rw [hy186]; with_reducible exact H2_) | (have H2_ := (Option.bind_some _ _).symm.trans H; with_reducible exact H2_) | with_reducible exact H | (rw [hy186]; exact H) | exact H
               have Ny186 := am_ hy186
               clear hy186
               have H' := am_ H
               clear H
               obtain ⟨Ao41, co41, eo41⟩ := Kd.R_slice HO_14.out
               subst eo41
               go_wp2_with (first | ((with_reducible refine gate_builtin (b := .append) (xs := #[.tmp 96, .tmp 98]) rfl ?_); at_builtin; refine Kd.S_append (Kd.slice 2 (Kd.int .i64)) (w0 := w) w.heap.size rfl (.tmp 96) (.tmp 98) 22 39 (.slice none 0 0) 24 rfl Try.underlying22 info39 rfl (by decide) (by omega) u12 x12_3 x14_4 [.slice Ao41 x14_4.length co41] (fun k_ => some k_ ≠ (u5 : Value).ownBlock) (fun k_ => some k_ = (.slice Ao41 x14_4.length co41 : Value).ownBlock) rfl rfl ?aP (fun k_ hk_ => ((Kd.R_mono (ok' := fun k_ => ((fun k_ => some k_ ≠ (u5 : Value).ownBlock)) k_ ∧ some k_ ≠ (u12 : Value).ownBlock) (Kd.R_apart' (HO_14.out) (Kd.S_typed HO_12.out) (by decide)) (fun k_ hk => ⟨hk.1, hk.2⟩))).1 k_ hk_.symm) ?aF ?aO ?aB ?aS ?aL ?_; (case aP => exact Kd.M_row (Kd.R_mono (Kd.R_tight rfl (Kd.R_mono (ok' := fun k_ => ((fun k_ => some k_ ≠ (u5 : Value).ownBlock)) k_ ∧ some k_ ≠ (u12 : Value).ownBlock) (Kd.R_apart' (HO_14.out) (Kd.S_typed HO_12.out) (by decide)) (fun k_ hk => ⟨hk.1, hk.2⟩))) (fun _ h_ => h_))); (case aB => exact (bb_ HB.out)); (case aF => exact (fun k_ hk => Kd.fresh' (Kd.R_lt (rk_ HO_5.out)) k_ hk)); (case aO => exact (by (with_reducible repeat (first | apply Kd.S_alloc | apply Kd.S_drewN | apply Kd.S_drew)); exact Kd.S_mono HO_12.out (fun k_ hk => ⟨hk.1, fun e_ => hk.2 e_⟩))); (case aS => exact (below_size (bb_ HB.out))); (case aL => have := LMc40.out; omega); intro v187 w42 ho hb hg hat; rw [← Ny186.out] at ho; have n0_ := am_ (Kd.R_over' (rk_ HO_5.out) (Kd.S_typed (by (with_reducible repeat (first | apply Kd.S_alloc | apply Kd.S_drewN | apply Kd.S_drew)); exact HO_12.out)) (by decide) hg); have n1_ := am_ (hb); have n2_ := am_ (ho); clear HO_5 HB HO_12 HO_14; revert n0_ n1_ n2_; intro HO_5 HB HO188; clear ho hb hg hat))
               repeat (go_quiet (first | ((with_reducible refine gate_builtin (b := .append) (xs := #[.tmp 96, .tmp 98]) rfl ?_); at_builtin; refine Kd.S_append (Kd.slice 2 (Kd.int .i64)) (w0 := w) w.heap.size rfl (.tmp 96) (.tmp 98) 22 39 (.slice none 0 0) 24 rfl Try.underlying22 info39 rfl (by decide) (by omega) u12 x12_3 x14_4 [.slice Ao41 x14_4.length co41] (fun k_ => some k_ ≠ (u5 : Value).ownBlock) (fun k_ => some k_ = (.slice Ao41 x14_4.length co41 : Value).ownBlock) rfl rfl ?aP (fun k_ hk_ => ((Kd.R_mono (ok' := fun k_ => ((fun k_ => some k_ ≠ (u5 : Value).ownBlock)) k_ ∧ some k_ ≠ (u12 : Value).ownBlock) (Kd.R_apart' (HO_14.out) (Kd.S_typed HO_12.out) (by decide)) (fun k_ hk => ⟨hk.1, hk.2⟩))).1 k_ hk_.symm) ?aF ?aO ?aB ?aS ?aL ?_; (case aP => exact Kd.M_row (Kd.R_mono (Kd.R_tight rfl (Kd.R_mono (ok' := fun k_ => ((fun k_ => some k_ ≠ (u5 : Value).ownBlock)) k_ ∧ some k_ ≠ (u12 : Value).ownBlock) (Kd.R_apart' (HO_14.out) (Kd.S_typed HO_12.out) (by decide)) (fun k_ hk => ⟨hk.1, hk.2⟩))) (fun _ h_ => h_))); (case aB => exact (bb_ HB.out)); (case aF => exact (fun k_ hk => Kd.fresh' (Kd.R_lt (rk_ HO_5.out)) k_ hk)); (case aO => exact (by (with_reducible repeat (first | apply Kd.S_alloc | apply Kd.S_drewN | apply Kd.S_drew)); exact Kd.S_mono HO_12.out (fun k_ hk => ⟨hk.1, fun e_ => hk.2 e_⟩))); (case aS => exact (below_size (bb_ HB.out))); (case aL => have := LMc40.out; omega); intro v187 w42 ho hb hg hat; rw [← Ny186.out] at ho; have n0_ := am_ (Kd.R_over' (rk_ HO_5.out) (Kd.S_typed (by (with_reducible repeat (first | apply Kd.S_alloc | apply Kd.S_drewN | apply Kd.S_drew)); exact HO_12.out)) (by decide) hg); have n1_ := am_ (hb); have n2_ := am_ (ho); clear HO_5 HB HO_12 HO_14; revert n0_ n1_ n2_; intro HO_5 HB HO188; clear ho hb hg hat)); try go_wp2_with (first | ((with_reducible refine gate_builtin (b := .append) (xs := #[.tmp 96, .tmp 98]) rfl ?_); at_builtin; refine Kd.S_append (Kd.slice 2 (Kd.int .i64)) (w0 := w) w.heap.size rfl (.tmp 96) (.tmp 98) 22 39 (.slice none 0 0) 24 rfl Try.underlying22 info39 rfl (by decide) (by omega) u12 x12_3 x14_4 [.slice Ao41 x14_4.length co41] (fun k_ => some k_ ≠ (u5 : Value).ownBlock) (fun k_ => some k_ = (.slice Ao41 x14_4.length co41 : Value).ownBlock) rfl rfl ?aP (fun k_ hk_ => ((Kd.R_mono (ok' := fun k_ => ((fun k_ => some k_ ≠ (u5 : Value).ownBlock)) k_ ∧ some k_ ≠ (u12 : Value).ownBlock) (Kd.R_apart' (HO_14.out) (Kd.S_typed HO_12.out) (by decide)) (fun k_ hk => ⟨hk.1, hk.2⟩))).1 k_ hk_.symm) ?aF ?aO ?aB ?aS ?aL ?_; (case aP => exact Kd.M_row (Kd.R_mono (Kd.R_tight rfl (Kd.R_mono (ok' := fun k_ => ((fun k_ => some k_ ≠ (u5 : Value).ownBlock)) k_ ∧ some k_ ≠ (u12 : Value).ownBlock) (Kd.R_apart' (HO_14.out) (Kd.S_typed HO_12.out) (by decide)) (fun k_ hk => ⟨hk.1, hk.2⟩))) (fun _ h_ => h_))); (case aB => exact (bb_ HB.out)); (case aF => exact (fun k_ hk => Kd.fresh' (Kd.R_lt (rk_ HO_5.out)) k_ hk)); (case aO => exact (by (with_reducible repeat (first | apply Kd.S_alloc | apply Kd.S_drewN | apply Kd.S_drew)); exact Kd.S_mono HO_12.out (fun k_ hk => ⟨hk.1, fun e_ => hk.2 e_⟩))); (case aS => exact (below_size (bb_ HB.out))); (case aL => have := LMc40.out; omega); intro v187 w42 ho hb hg hat; rw [← Ny186.out] at ho; have n0_ := am_ (Kd.R_over' (rk_ HO_5.out) (Kd.S_typed (by (with_reducible repeat (first | apply Kd.S_alloc | apply Kd.S_drewN | apply Kd.S_drew)); exact HO_12.out)) (by decide) hg); have n1_ := am_ (hb); have n2_ := am_ (ho); clear HO_5 HB HO_12 HO_14; revert n0_ n1_ n2_; intro HO_5 HB HO188; clear ho hb hg hat)))
               go_roundg k4
               case measure => have := HK1.out; have := HK2.out; have := HK3.out; have := HK4.out; omega
               case rel => exact ⟨(y186), (wrap64 (x13_3 + 1)), (by first | rfl | (simp; done) | (simp [*]; done)), H', ⟨by have := HK1.out; have := HK2.out; have := HK3.out; have := HK4.out; omega⟩, ⟨rm_ HO_5.out (fun _ hk => trivial)⟩, ⟨by (with_reducible repeat (first | apply Kd.S_alloc | apply Kd.S_drewN | apply Kd.S_drew)); exact HO188.out⟩, ⟨bb_ HB.out⟩⟩
              ·rw [if_neg c40] at H
               exact absurd H (by simp)
             ·rw [if_neg c39] at H
              have c39b0 : decide (0 < (x14_4.length : Int)) = false := decide_eq_false c39
              have c39b1 : decide (0 < x14_4.length) = false := decide_eq_false (by omega)
              clear c39
              have H' := am_ H
              clear H
              obtain ⟨Ao43, co43, eo43⟩ := Kd.R_slice HO_14.out
              subst eo43
              go_wp2
              repeat (go_quiet (fail); try go_wp2)
              go_roundg k4
              case measure => have := HK1.out; have := HK2.out; have := HK3.out; have := HK4.out; omega
              case rel => exact ⟨(x12_3), (wrap64 (x13_3 + 1)), (by first | rfl | (simp; done) | (simp [*]; done)), H', ⟨by have := HK1.out; have := HK2.out; have := HK3.out; have := HK4.out; omega⟩, ⟨rm_ HO_5.out (fun _ hk => trivial)⟩, ⟨by (with_reducible repeat (first | apply Kd.S_alloc | apply Kd.S_drewN | apply Kd.S_drew)); exact Kd.S_mono HO_12.out (fun _ hk => hk.1)⟩, ⟨bb_ HB.out⟩⟩
         ·rw [if_neg c28] at H
          have c28b0 : decide (x13_3 < a0) = false := decide_eq_false c28
          clear c28
          obtain rfl := Option.some.inj H
          go_wp2
          repeat (go_quiet (fail); try go_wp2)
          go_ret
          exact ⟨_, by first | rfl | (simp [errW_none, errW_some] <;> rfl) | (simp [*, errW_none, errW_some] <;> rfl), by (with_reducible repeat (first | apply Kd.S_alloc | apply Kd.S_drewN | apply Kd.S_drew)); exact Kd.S_mono HO_12.out (fun _ hk => trivial), bb_ HB.out⟩

end Go.Proofs.Ytbcdngjajjgmkaa.PFnExactStabilizerPresentation
