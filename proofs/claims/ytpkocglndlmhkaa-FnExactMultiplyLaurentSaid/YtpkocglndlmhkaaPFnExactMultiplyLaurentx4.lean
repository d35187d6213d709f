/- Written by this session's program out of the kit's print and this session's contracts. -/
import Derived.Test.YtpkocglndlmhkaaPFnExactMultiplyLaurentx0
import Derived.Test.YtpkocglndlmhkaaPFnExactMultiplyLaurentx3
namespace Go.Proofs.Ytpkocglndlmhkaa.PFnExactMultiplyLaurent
open Go.RowKit Go.Proofs.YtpkocglndlmhkaaW.PrintWords Go.Proofs.YtpkocglndlmhkaaW.PrintLast Go.Proofs.YtpkocglndlmhkaaW.PrintMore
attribute [local go_sem] max2_int min2_int max_two min_two max_three min_three max_four min_four   -- for this text's walks alone
set_option linter.unusedVariables false
set_option linter.unusedSimpArgs false

/-! ### spec_l03Product: function 27 -/
mutual
def spec_l03Product.j0 : Nat → Bool → Int → List Int → Int → List Int → Option (Int × List Int)
 | 0, _, _, _, _, _ => none
 | k + 1, x17, x158000, x158001, x159000, x159001 => if x17 = true then (some (0, ([] : List Int))) else (if 0 ≤ (wrap64 ((wrap64 ((x158001.length : Int) + (x159001.length : Int))) - 1)) then (if (wrap64 ((wrap64 ((x158001.length : Int) + (x159001.length : Int))) - 1) : Int).toNat ≤ 35184372088832 then (spec_l03Product.l0 k (List.replicate (wrap64 ((wrap64 ((x158001.length : Int) + (x159001.length : Int))) - 1) : Int).toNat 0) 0 x158000 x158001 x159000 x159001) else (none)) else (none))
def spec_l03Product.l0 : Nat → List Int → Int → Int → List Int → Int → List Int → Option (Int × List Int)
 | 0, _, _, _, _, _, _ => none
 | k + 1, x5, x6, x158000, x158001, x159000, x159001 => if x6 < (x158001.length : Int) then (spec_l03Product.l1 k x5 x6 0 x158000 x158001 x159000 x159001) else ((spec_l03Form.f k (wrap64 (x158000 + x159000)) x5).bind fun bt163 => (some (bt163.1, bt163.2)))
def spec_l03Product.l1 : Nat → List Int → Int → Int → Int → List Int → Int → List Int → Option (Int × List Int)
 | 0, _, _, _, _, _, _, _ => none
 | k + 1, x5, x6, x7, x158000, x158001, x159000, x159001 => if x7 < (x159001.length : Int) then (if 0 ≤ (wrap64 (x6 + x7)) then (if (wrap64 (x6 + x7)) < (x5.length : Int) then (if 0 ≤ x6 then (if x6 < (x158001.length : Int) then (if 0 ≤ x7 then (spec_l03Product.l1 k (x5.set ((wrap64 (x6 + x7)) : Int).toNat (wrap64 ((rd x5 (wrap64 (x6 + x7))) + (wrap64 ((rd x158001 x6) * (rd x159001 x7)))))) x6 (wrap64 (x7 + 1)) x158000 x158001 x159000 x159001) else (none)) else (none)) else (none)) else (none)) else (none)) else (spec_l03Product.l0 k x5 (wrap64 (x6 + 1)) x158000 x158001 x159000 x159001)
end
def spec_l03Product.f (k : Nat) (a0_0 : Int) (l0_1 : List Int) (a1_0 : Int) (l1_1 : List Int) : Option (Int × List Int) := if (l0_1.length : Int) = 0 then (spec_l03Product.j0 k true a0_0 l0_1 a1_0 l1_1) else (spec_l03Product.j0 k ((l1_1.length : Int) == 0) a0_0 l0_1 a1_0 l1_1)
theorem spec_l03Product.mono_l : ∀ k, (∀ y0 y1 y2 y3 y4, LeO (spec_l03Product.j0 k y0 y1 y2 y3 y4) (spec_l03Product.j0 (k + 1) y0 y1 y2 y3 y4)) ∧ (∀ y0 y1 y2 y3 y4 y5, LeO (spec_l03Product.l0 k y0 y1 y2 y3 y4 y5) (spec_l03Product.l0 (k + 1) y0 y1 y2 y3 y4 y5)) ∧ (∀ y0 y1 y2 y3 y4 y5 y6, LeO (spec_l03Product.l1 k y0 y1 y2 y3 y4 y5 y6) (spec_l03Product.l1 (k + 1) y0 y1 y2 y3 y4 y5 y6))
 | 0 => ⟨fun _ _ _ _ _ r h => by simp [spec_l03Product.j0] at h, fun _ _ _ _ _ _ r h => by simp [spec_l03Product.l0] at h, fun _ _ _ _ _ _ _ r h => by simp [spec_l03Product.l1] at h⟩
 | k + 1 => by
  obtain ⟨ih0, ih1, ih2⟩ := spec_l03Product.mono_l k
  refine ⟨?_, ?_, ?_⟩
  ·intro y0 y1 y2 y3 y4
   unfold spec_l03Product.j0
   repeat' first
   | (with_reducible exact ih0 _ _ _ _ _)
   | (with_reducible exact ih1 _ _ _ _ _ _)
   | (with_reducible exact ih2 _ _ _ _ _ _ _)
   | (with_reducible exact spec_l03Form.mono _ _ _)
   | (with_reducible exact LeO.refl _)
   | (with_reducible exact LeO.none _)
   | (with_reducible refine LeO.ite ?_ ?_)
   | (with_reducible refine LeO.bind ?_ (fun _ => ?_))
   | exact ih0 _ _ _ _ _
   | exact ih1 _ _ _ _ _ _
   | exact ih2 _ _ _ _ _ _ _
   | exact spec_l03Form.mono _ _ _
   | exact LeO.none _
   | refine LeO.ite ?_ ?_
   | refine LeO.bind ?_ (fun _ => ?_)
  ·intro y0 y1 y2 y3 y4 y5
   unfold spec_l03Product.l0
   repeat' first
   | (with_reducible exact ih0 _ _ _ _ _)
   | (with_reducible exact ih1 _ _ _ _ _ _)
   | (with_reducible exact ih2 _ _ _ _ _ _ _)
   | (with_reducible exact spec_l03Form.mono _ _ _)
   | (with_reducible exact LeO.refl _)
   | (with_reducible exact LeO.none _)
   | (with_reducible refine LeO.ite ?_ ?_)
   | (with_reducible refine LeO.bind ?_ (fun _ => ?_))
   | exact ih0 _ _ _ _ _
   | exact ih1 _ _ _ _ _ _
   | exact ih2 _ _ _ _ _ _ _
   | exact spec_l03Form.mono _ _ _
   | exact LeO.none _
   | refine LeO.ite ?_ ?_
   | refine LeO.bind ?_ (fun _ => ?_)
  ·intro y0 y1 y2 y3 y4 y5 y6
   unfold spec_l03Product.l1
   repeat' first
   | (with_reducible exact ih0 _ _ _ _ _)
   | (with_reducible exact ih1 _ _ _ _ _ _)
   | (with_reducible exact ih2 _ _ _ _ _ _ _)
   | (with_reducible exact spec_l03Form.mono _ _ _)
   | (with_reducible exact LeO.refl _)
   | (with_reducible exact LeO.none _)
   | (with_reducible refine LeO.ite ?_ ?_)
   | (with_reducible refine LeO.bind ?_ (fun _ => ?_))
   | exact ih0 _ _ _ _ _
   | exact ih1 _ _ _ _ _ _
   | exact ih2 _ _ _ _ _ _ _
   | exact spec_l03Form.mono _ _ _
   | exact LeO.none _
   | refine LeO.ite ?_ ?_
   | refine LeO.bind ?_ (fun _ => ?_)
theorem spec_l03Product.mono : ∀ a0 a1 a2 a3 k, LeO (spec_l03Product.f k a0 a1 a2 a3) (spec_l03Product.f (k + 1) a0 a1 a2 a3) := by
 intro a0 a1 a2 a3 k
 obtain ⟨ih0, ih1, ih2⟩ := spec_l03Product.mono_l k
 unfold spec_l03Product.f
 repeat' first
   | (with_reducible exact ih0 _ _ _ _ _)
   | (with_reducible exact ih1 _ _ _ _ _ _)
   | (with_reducible exact ih2 _ _ _ _ _ _ _)
   | (with_reducible exact spec_l03Form.mono _ _ _)
   | (with_reducible exact LeO.refl _)
   | (with_reducible exact LeO.none _)
   | (with_reducible refine LeO.ite ?_ ?_)
   | (with_reducible refine LeO.bind ?_ (fun _ => ?_))
   | exact ih0 _ _ _ _ _
   | exact ih1 _ _ _ _ _ _
   | exact ih2 _ _ _ _ _ _ _
   | exact spec_l03Form.mono _ _ _
   | exact LeO.none _
   | refine LeO.ite ?_ ?_
   | refine LeO.bind ?_ (fun _ => ?_)
def spec_l03Product.T10 : Bool × List (List Nat × List Nat) := (true, [([], []), ([], []), ([], []), ([1, 2], [1, 2]), ([0, 3], [0, 3]), ([4], [4]), ([], []), ([6], [6]), ([], []), ([7, 8], [7, 8]), ([9], [9]), ([], []), ([11], [11]), ([], []), ([12, 13], [12, 13]), ([14], [14]), ([10, 15], [10, 15]), ([5, 16], [5, 16]), ([0, 3, 0, 1, 2, 3, 4, 5, 6, 7, 8, 9, 10, 11, 12, 13, 14, 15, 16, 17], [0, 3]), ([18, 17, 0, 1, 2, 3, 4, 5, 6, 7, 8, 9, 10, 11, 12, 13, 14, 15, 16, 17], [17, 18])])
def spec_l03Product.B10 : List Nat := [0, 0, 0, 6, 15, 31, 0, 64, 0, 448, 960, 0, 2048, 0, 14336, 30720, 65472, 131071, 262143, 524287]
theorem spec_l03Product.tab10 : rtab .any (opsOf Try.f27 10) = spec_l03Product.T10 := by kernel_rfl
theorem spec_l03Product.bits10 : waitsOk spec_l03Product.T10.2 spec_l03Product.B10 = true := by kernel_rfl
set_option maxHeartbeats 8000000 in
set_option maxRecDepth 100000 in
theorem spec_l03Product.calls (k : Nat) (a0_0 : Int) (A0_1 : Option Addr) (c0_1 : Nat) (l0_1 : List Int) (a1_0 : Int) (A1_1 : Option Addr) (c1_1 : Nat) (l1_1 : List Int) (r1 : Int) (r2 : List Int) (w : World) (hr0_1 : Kd.C (Kd.int .i64) w A0_1 l0_1.length l0_1) (hc0_1 : l0_1.length ≤ c0_1) (hr1_1 : Kd.C (Kd.int .i64) w A1_1 l1_1.length l1_1) (hc1_1 : l1_1.length ≤ c1_1) (h : spec_l03Product.f k a0_0 l0_1 a1_0 l1_1 = some (r1, r2)) :
  Calls Try.prog 27 #[.agg #[.int .i64 a0_0, .slice A0_1 l0_1.length c0_1], .agg #[.int .i64 a1_0, .slice A1_1 l1_1.length c1_1]] w fun e w' => ∃ v1_ : Value, e = .returned (.agg #[.int .i64 r1, v1_]) ∧ Kd.R (Kd.int .i64) 2 w' w.heap.size (fun _ => True) v1_ r2 ∧ Below w.heap.size w w' := by
 have hu26 := Try.underlying26
 have HR0_1 := am_ hr0_1
 have HC0_1 := am_ hc0_1
 clear hr0_1 hc0_1
 have HR1_1 := am_ hr1_1
 have HC1_1 := am_ hc1_1
 clear hr1_1 hc1_1
 have HB := am_ (Below.refl w.heap.size w)
 have H : (if (l0_1.length : Int) = 0 then (spec_l03Product.j0 k true a0_0 l0_1 a1_0 l1_1) else (spec_l03Product.j0 k ((l1_1.length : Int) == 0) a0_0 l0_1 a1_0 l1_1)) = some (r1, r2) := h
 clear h
 have HC3 := am_ H
 clear H
 go_enter Try.func27, Try.ntmps27
 go_upto_region 1 with (first | ((with_reducible refine gate_dst (N := 2) rfl ?_); (try (refine gate_guard (by rfl) ?_; dsimp only)); refine box_event ?hg (N := 2) ?hd (cs := #[.int .i64 a0_0, .slice A0_1 l0_1.length c0_1]) (t := 26) ?hr ?_; (case hd => rfl); (case hg => rfl); (case hr => first | (go_simp; done) | (go_simp; rfl)); intro gb157 hg w4 hbox hb; have n0_ := am_ (below_step (bb_ HB.out) hb); have n1_ := am_ (hbox); have n2_ := am_ ((by rw [hg]; exact (below_size (bb_ HB.out)) : w.heap.size ≤ gb157)); have n3_ := am_ ((by rw [hg]; exact (below_size (bb_ HB.out)) : w.heap.size ≤ gb157)); clear HB; revert n0_ n1_ n2_ n3_; intro HB BK157 GW157 GE157; clear hb hbox hg) | ((with_reducible refine gate_dst (N := 3) rfl ?_); (try (refine gate_guard (by rfl) ?_; dsimp only)); refine box_event ?hg (N := 3) ?hd (cs := #[.int .i64 a1_0, .slice A1_1 l1_1.length c1_1]) (t := 26) ?hr ?_; (case hd => rfl); (case hg => rfl); (case hr => first | (go_simp; done) | (go_simp; rfl)); intro gb158 hg w5 hbox hb; have n0_ := am_ (bw_ BK157 hb); have n1_ := am_ (below_step (bb_ HB.out) hb); have n2_ := am_ (hbox); have n3_ := am_ ((by rw [hg]; exact (below_size (bb_ HB.out)) : w.heap.size ≤ gb158)); have n4_ := am_ ((by rw [hg]; exact (below_size (bb_ HB.out)) : w.heap.size ≤ gb158)); have n5_ := am_ ((by rw [hg]; exact Nat.ne_of_lt (bl_ BK157) : gb157 ≠ gb158)); have n6_ := am_ ((by rw [hg]; exact Nat.ne_of_gt (bl_ BK157) : gb158 ≠ gb157)); clear BK157 HB; revert n0_ n1_ n2_ n3_ n4_ n5_ n6_; intro BK157 HB BK158 GW158 GE158 NB157_158 NB158_157; clear hb hbox hg) | ((with_reducible refine gate_dst (N := 4) rfl ?_); (try (refine gate_guard (by rfl) ?_; dsimp only)); refine box_event ?hg (N := 4) ?hd (cs := #[.int .i64 0, .slice none 0 0]) (t := 26) ?hr ?_; (case hd => rfl); (case hg => rfl); (case hr => first | (go_simp; done) | (go_simp; rfl)); intro gb159 hg w6 hbox hb; have n0_ := am_ (bw_ BK157 hb); have n1_ := am_ (bw_ BK158 hb); have n2_ := am_ (below_step (bb_ HB.out) hb); have n3_ := am_ (hbox); have n4_ := am_ ((by rw [hg]; exact (below_size (bb_ HB.out)) : w.heap.size ≤ gb159)); have n5_ := am_ ((by rw [hg]; exact (below_size (bb_ HB.out)) : w.heap.size ≤ gb159)); have n6_ := am_ ((by rw [hg]; exact Nat.ne_of_lt (bl_ BK157) : gb157 ≠ gb159)); have n7_ := am_ ((by rw [hg]; exact Nat.ne_of_gt (bl_ BK157) : gb159 ≠ gb157)); have n8_ := am_ ((by rw [hg]; exact Nat.ne_of_lt (bl_ BK158) : gb158 ≠ gb159)); have n9_ := am_ ((by rw [hg]; exact Nat.ne_of_gt (bl_ BK158) : gb159 ≠ gb158)); clear BK157 BK158 HB; revert n0_ n1_ n2_ n3_ n4_ n5_ n6_ n7_ n8_ n9_; intro BK157 BK158 HB BK159 GW159 GE159 NB157_159 NB159_157 NB158_159 NB159_158; clear hb hbox hg))
 (try simp only [Act.put, List.setIfInBounds_toArray, List.set_cons_zero, List.set_cons_succ])
 go_cut [17] (fun v17 wc => ∃ (kq : Nat) (x17_2 : Bool), v17 = .bool x17_2 ∧ Aside0 (spec_l03Product.j0 kq x17_2 a0_0 l0_1 a1_0 l1_1 = some (r1, r2)) ∧ Aside0 (kq ≤ k) ∧ Aside0 (wc.heap[gb157]? = some (.cells #[.int .i64 a0_0, (.slice A0_1 l0_1.length c0_1)] 26 (0, 0))) ∧ Aside0 (wc.heap[gb158]? = some (.cells #[.int .i64 a1_0, (.slice A1_1 l1_1.length c1_1)] 26 (0, 0))) ∧ Aside0 (wc.heap[gb159]? = some (.cells #[.int .i64 0, (.slice none 0 0)] 26 (0, 0))) ∧ Aside0 (Below w.heap.size w wc))
 case first =>
  have H := HC3.out
  clear HC3
  by_cases c7 : (l0_1.length : Int) = 0
  ·rw [if_pos c7] at H
   have c7b0 : ((l0_1.length : Int) == 0) = true := beq_iff_eq.mpr c7
   have c7b1 : ((l0_1.length : Int) != 0) = false := bne_eq_false_iff_eq.mpr c7
   clear c7
   (first | rw [c7b0] | (simp only [i64_w, i32_w]; rw [c7b0]) | skip)
   have H' := am_ H
   clear H
   have hnb8 := NB157_158.out
   have hnc8 := NB158_157.out
   have hnb9 := NB157_159.out
   have hnc9 := NB159_157.out
   have hcz10_0 : w6.cell? ⟨gb157, 0, none⟩ = some (.int .i64 a0_0) := bc_ BK157 0
   have hcz10_1 : w6.cell? ⟨gb157, 1, none⟩ = some (.slice A0_1 l0_1.length c0_1) := bc_ BK157 1
   have hfz10_0 := blk_frozen BK157.out 0
   have hfz10_1 := blk_frozen BK157.out 1
   go_wp2
   go_meet
   case rel => exact ⟨_, (true), (by first | rfl | (simp; done) | (simp [*]; done)), H', ⟨by first | omega | exact Nat.le_refl _⟩, ⟨bk_ BK157.out⟩, ⟨bk_ BK158.out⟩, ⟨bk_ BK159.out⟩, ⟨bb_ HB.out⟩⟩
  ·rw [if_neg c7] at H
   have c7b0 : ((l0_1.length : Int) == 0) = false := beq_eq_false_iff_ne.mpr c7
   have c7b1 : ((l0_1.length : Int) != 0) = true := bne_iff_ne.mpr c7
   have c7b2 : ¬ (l0_1 = []) := fun h_ => c7 (by rw [h_]; rfl)
   (first | rw [c7b0] | (simp only [i64_w, i32_w]; rw [c7b0]) | skip)
   have H' := am_ H
   clear H
   have hnb11 := NB157_158.out
   have hnc11 := NB158_157.out
   have hnb12 := NB157_159.out
   have hnc12 := NB159_157.out
   have hcz13_0 : w6.cell? ⟨gb157, 0, none⟩ = some (.int .i64 a0_0) := bc_ BK157 0
   have hcz13_1 : w6.cell? ⟨gb157, 1, none⟩ = some (.slice A0_1 l0_1.length c0_1) := bc_ BK157 1
   have hfz13_0 := blk_frozen BK157.out 0
   have hfz13_1 := blk_frozen BK157.out 1
   have hnb14 := NB158_159.out
   have hnc14 := NB159_158.out
   have hcz15_0 : w6.cell? ⟨gb158, 0, none⟩ = some (.int .i64 a1_0) := bc_ BK158 0
   have hcz15_1 : w6.cell? ⟨gb158, 1, none⟩ = some (.slice A1_1 l1_1.length c1_1) := bc_ BK158 1
   have hfz15_0 := blk_frozen BK158.out 0
   have hfz15_1 := blk_frozen BK158.out 1
   go_wp2
   go_meet
   case rel => exact ⟨_, (((l1_1.length : Int) == 0)), (by first | rfl | (simp; done) | (simp [*]; done)), H', ⟨by first | omega | exact Nat.le_refl _⟩, ⟨bk_ BK157.out⟩, ⟨bk_ BK158.out⟩, ⟨bk_ BK159.out⟩, ⟨bb_ HB.out⟩⟩
 case rest =>
  clear HC3
  try clear c1
  try clear c2
  try clear p2
  try clear c7
  try clear c7b0
  try clear c7b1
  try clear c7b2
  try clear c8
  try clear c9
  try clear c11
  try clear c12
  try clear c14
  try clear hcz10_0
  try clear hcz10_1
  try clear hcz13_0
  try clear hcz13_1
  try clear hcz15_0
  try clear hcz15_1
  try clear hfz10_0
  try clear hfz10_1
  try clear hfz13_0
  try clear hfz13_1
  try clear hfz15_0
  try clear hfz15_1
  obtain ⟨kq, x17_2, rfl, HA, HJ2, BK157, BK158, BK159, HB⟩ := hcut
  cases kq with
  | zero => exact absurd HA.out (by simp [spec_l03Product.j0])
  | succ kj2 =>
   have H := HA.out
   clear HA
   simp only [spec_l03Product.j0] at H
   by_cases c16 : x17_2 = true
   ·subst c16
    have H1 : (some (0, ([] : List Int))) = some (r1, r2) := by rw [if_pos rfl] at H; exact H
    clear H
    have H := H1
    clear H1
    simp only [Option.some.injEq, Prod.mk.injEq] at H
    obtain ⟨rfl, rfl⟩ := H
    have hnb17 := NB159_157.out
    have hnc17 := NB157_159.out
    have hnb18 := NB159_158.out
    have hnc18 := NB158_159.out
    have hcz19_0 : wc.cell? ⟨gb159, 0, none⟩ = some (.int .i64 0) := bc_ BK159 0
    have hcz19_1 : wc.cell? ⟨gb159, 1, none⟩ = some (.slice none 0 0) := bc_ BK159 1
    have hfz19_0 := blk_frozen BK159.out 0
    have hfz19_1 := blk_frozen BK159.out 1
    go_wp2
    refine bodyPost_ret (results_cell_row rfl _ _ gb159 26 #[.int .i64 0, .slice none 0 0] (0, 0) _ rfl (by (with_reducible repeat (first | refine blk_drewN ?_ _ | refine blk_drew ?_ | refine blk_alloc ?_ _)); refine blk_put (cs := #[.int .i64 0, .slice none 0 0]) ?_ 1 _ rfl; (with_reducible repeat (first | refine blk_drewN ?_ _ | refine blk_drew ?_ | refine blk_alloc ?_ _)); refine blk_put (cs := #[.int .i64 0, .slice none 0 0]) ?_ 0 _ rfl; (with_reducible repeat (first | refine blk_drewN ?_ _ | refine blk_drew ?_ | refine blk_alloc ?_ _)); exact BK159.out) Try.underlying26 rfl (by kernel_rfl)) rfl ?_
    exact ⟨_, by first | rfl | (simp [errW_none, errW_some] <;> rfl) | (simp [*, errW_none, errW_some] <;> rfl), by first | exact Kd.R_nil _ _ _ _ _ | exact Kd.N_nil _ _ _ _ _ | exact Kd.V_nil _ _ _ _ _ | exact Kd.Q_nil _ _ _ _ _ | exact Kd.S_nil _ _ _ _ _, by repeat (first | (with_reducible first | exact HB.out | apply below_alloc | apply pw_below_drewN | apply below_drew1 | refine below_set ?_ GE157.out | refine below_set ?_ GE158.out | refine below_set ?_ GE159.out) | exact HB.out)⟩
   ·replace c16 := Bool.eq_false_iff.mpr c16
    subst c16
    have H1 : (if 0 ≤ (wrap64 ((wrap64 ((l0_1.length : Int) + (l1_1.length : Int))) - 1)) then (if (wrap64 ((wrap64 ((l0_1.length : Int) + (l1_1.length : Int))) - 1) : Int).toNat ≤ 35184372088832 then (spec_l03Product.l0 kj2 (List.replicate (wrap64 ((wrap64 ((l0_1.length : Int) + (l1_1.length : Int))) - 1) : Int).toNat 0) 0 a0_0 l0_1 a1_0 l1_1) else (none)) else (none)) = some (r1, r2) := by rw [if_neg (show ¬ (false = true) by decide)] at H; exact H
    clear H
    have H := H1
    clear H1
    obtain ⟨ji20, hji20⟩ : ∃ j_ : Int, (wrap64 ((wrap64 ((l0_1.length : Int) + (l1_1.length : Int))) - 1)) = j_ := ⟨_, rfl⟩
    replace H : (if 0 ≤ (ji20) then (if (ji20 : Int).toNat ≤ 35184372088832 then (spec_l03Product.l0 kj2 (List.replicate (ji20 : Int).toNat 0) 0 a0_0 l0_1 a1_0 l1_1) else (none)) else (none)) = some (r1, r2) := by first | (rw [hji20] at H; exact H) | (simp only [hji20] at H ⊢; exact H)
    have hji20w : (IntKind.i64.wrap ((wrap64 ((l0_1.length : Int) + (l1_1.length : Int))) - 1)) = ji20 := (i64_w _).trans hji20
    by_cases c21 : 0 ≤ (ji20)
    ·rw [if_pos c21] at H
     have c21b0 := eq_true c21
     have c21b1 : decide (0 ≤ (ji20)) = true := decide_eq_true c21
     clear c21
     by_cases c22 : (ji20 : Int).toNat ≤ 35184372088832
     ·rw [if_pos c22] at H
      have c22b0 := eq_true c22
      have c22b1 : decide ((ji20 : Int).toNat ≤ 35184372088832) = true := decide_eq_true c22
      clear c22
      obtain ⟨y160, hy160⟩ : ∃ y_ : List Int, y_ = (List.replicate (ji20 : Int).toNat 0) := ⟨_, rfl⟩
      replace H : (spec_l03Product.l0 kj2 y160 0 a0_0 l0_1 a1_0 l1_1) = some (r1, r2) := by first | (rw [hy160]; with_reducible exact H) | (have H2_ := (Option.bind_some _ _).symm.trans H; rw [hy160]; with_reducible exact H2_) | (have H2_ := (Option.bind_some _ _).symm.trans H; with_reducible exact H2_) | with_reducible exact H | (rw [hy160]; exact H) | exact H
      have Ny160 := am_ hy160
      clear hy160
      have H' := am_ H
      clear H
      have hnb23 := NB157_158.out
      have hnc23 := NB158_157.out
      have hnb24 := NB157_159.out
      have hnc24 := NB159_157.out
      have hcz25_0 : wc.cell? ⟨gb157, 0, none⟩ = some (.int .i64 a0_0) := bc_ BK157 0
      have hcz25_1 : wc.cell? ⟨gb157, 1, none⟩ = some (.slice A0_1 l0_1.length c0_1) := bc_ BK157 1
      have hfz25_0 := blk_frozen BK157.out 0
      have hfz25_1 := blk_frozen BK157.out 1
      have hnb26 := NB158_159.out
      have hnc26 := NB159_158.out
      have hcz27_0 : wc.cell? ⟨gb158, 0, none⟩ = some (.int .i64 a1_0) := bc_ BK158 0
      have hcz27_1 : wc.cell? ⟨gb158, 1, none⟩ = some (.slice A1_1 l1_1.length c1_1) := bc_ BK158 1
      have hfz27_0 := blk_frozen BK158.out 0
      have hfz27_1 := blk_frozen BK158.out 1
      go_wp2_with (first | ((with_reducible refine gate_dst (N := 27) rfl ?_); (try (refine gate_guard (by rfl) ?_; dsimp only)); refine Kd.R_make (Kd.int .i64) _ 2 rfl (N := 27) rfl 22 _ _ rfl ji20 rfl rfl Try.underlying22 (.int .i64 0) 8 info2 rfl (by decide) (by omega) 0 (ok := fun _ => True) (okp := fun _ => True) rfl (fun _ hk => hk) trivial (of_decide_eq_true (by first | (with_reducible assumption) | assumption)) (Nat.le_trans (Nat.mul_le_mul_right _ (of_decide_eq_true (by first | (with_reducible assumption) | assumption) : ji20.toNat ≤ 35184372088832)) (by omega)) (Below.refl _ _) (Nat.le_refl _) ?_; intro v161 w28 ho29 hb hg_ hnew_; clear hg_ hnew_; (first | rw [← Ny160.out] at ho29 | (simp only [Int.reduceToNat] at ho29; rw [← Ny160.out] at ho29)); have n0_ := am_ (Kd.R_lower ho29 (below_size (bb_ HB.out))); have n1_ := am_ (bw_ BK157 hb); have n2_ := am_ (bw_ BK158 hb); have n3_ := am_ (bw_ BK159 hb); have n4_ := am_ (below_step (bb_ HB.out) hb); clear BK157 BK158 BK159 HB; revert n0_ n1_ n2_ n3_ n4_; intro HO162 BK157 BK158 BK159 HB; clear hb ho29))
      go_loopg [6] kj2 (fun kq v6 w' => ∃ (x5_2 : List Int) (x6_2 : Int), v6 = .int .i64 x6_2 ∧ Aside0 (spec_l03Product.l0 kq x5_2 x6_2 a0_0 l0_1 a1_0 l1_1 = some (r1, r2)) ∧ Aside0 (kq ≤ kj2) ∧ Aside0 (Kd.R (Kd.int .i64) 2 w' w.heap.size (fun _ => True) v161 x5_2) ∧ Aside0 (w'.heap[gb157]? = some (.cells #[.int .i64 a0_0, (.slice A0_1 l0_1.length c0_1)] 26 (0, 0))) ∧ Aside0 (w'.heap[gb158]? = some (.cells #[.int .i64 a1_0, (.slice A1_1 l1_1.length c1_1)] 26 (0, 0))) ∧ Aside0 (w'.heap[gb159]? = some (.cells #[.int .i64 0, (.slice none 0 0)] 26 (0, 0))) ∧ Aside0 (Below w.heap.size w w'))
      case atStart => exact ⟨(y160), (0), (by first | rfl | (simp; done) | (simp [*]; done)), H', ⟨Nat.le_refl _⟩, ⟨rk_ HO162.out⟩, ⟨bk_ BK157.out⟩, ⟨bk_ BK158.out⟩, ⟨bk_ BK159.out⟩, ⟨bb_ HB.out⟩⟩
      case round =>
       clear H'
       try clear c1
       try clear c2
       try clear p2
       try clear p6
       try clear c7
       try clear c7b0
       try clear c7b1
       try clear c7b2
       try clear c8
       try clear c9
       try clear c11
       try clear c12
       try clear c14
       try clear c16
       try clear c17
       try clear c18
       try clear c21
       try clear c21b0
       try clear c21b1
       try clear c22
       try clear c22b0
       try clear c22b1
       try clear c23
       try clear c24
       try clear c26
       try clear c27
       try clear hcz10_0
       try clear hcz10_1
       try clear hcz13_0
       try clear hcz13_1
       try clear hcz15_0
       try clear hcz15_1
       try clear hcz19_0
       try clear hcz19_1
       try clear hcz25_0
       try clear hcz25_1
       try clear hcz27_0
       try clear hcz27_1
       try clear hfz10_0
       try clear hfz10_1
       try clear hfz13_0
       try clear hfz13_1
       try clear hfz15_0
       try clear hfz15_1
       try clear hfz19_0
       try clear hfz19_1
       try clear hfz25_0
       try clear hfz25_1
       try clear hfz27_0
       try clear hfz27_1
       try clear p2
       (try clear HO_5)
       (try clear BK157)
       (try clear BK158)
       (try clear BK159)
       (try clear HB)
       obtain ⟨x5_2, x6_2, rfl, HA, HK2, HO_5, BK157, BK158, BK159, HB⟩ := hrel
       cases gk with
       | zero => exact absurd HA.out (by simp [spec_l03Product.l0])
       | succ k2 =>
        have H := HA.out
        clear HA
        simp only [spec_l03Product.l0] at H
        by_cases c30 : x6_2 < (l0_1.length : Int)
        ·rw [if_pos c30] at H
         have c30b0 : decide (x6_2 < (l0_1.length : Int)) = true := decide_eq_true c30
         (try (have c30b945_1 := c30b0; rw [hl45_1] at c30b945_1))
         (try (have c30b953_2 := c30b0; rw [hl53_2] at c30b953_2))
         clear c30
         have H' := am_ H
         clear H
         have hnb31 := NB157_158.out
         have hnc31 := NB158_157.out
         have hnb32 := NB157_159.out
         have hnc32 := NB159_157.out
         have hcz33_0 : wr.cell? ⟨gb157, 0, none⟩ = some (.int .i64 a0_0) := bc_ BK157 0
         have hcz33_1 : wr.cell? ⟨gb157, 1, none⟩ = some (.slice A0_1 l0_1.length c0_1) := bc_ BK157 1
         have hfz33_0 := blk_frozen BK157.out 0
         have hfz33_1 := blk_frozen BK157.out 1
         go_wp2
         go_loopg [7] k2 (fun kq v7 w' => ∃ (x5_3 : List Int) (x7_3 : Int), v7 = .int .i64 x7_3 ∧ Aside0 (spec_l03Product.l1 kq x5_3 x6_2 x7_3 a0_0 l0_1 a1_0 l1_1 = some (r1, r2)) ∧ Aside0 (kq ≤ k2) ∧ Aside0 (Kd.R (Kd.int .i64) 2 w' w.heap.size (fun _ => True) v161 x5_3) ∧ Aside0 (w'.heap[gb157]? = some (.cells #[.int .i64 a0_0, (.slice A0_1 l0_1.length c0_1)] 26 (0, 0))) ∧ Aside0 (w'.heap[gb158]? = some (.cells #[.int .i64 a1_0, (.slice A1_1 l1_1.length c1_1)] 26 (0, 0))) ∧ Aside0 (w'.heap[gb159]? = some (.cells #[.int .i64 0, (.slice none 0 0)] 26 (0, 0))) ∧ Aside0 (Below w.heap.size w w'))
         case atStart => exact ⟨(x5_2), (0), (by first | rfl | (simp; done) | (simp [*]; done)), H', ⟨Nat.le_refl _⟩, ⟨rk_ HO_5.out⟩, ⟨bk_ BK157.out⟩, ⟨bk_ BK158.out⟩, ⟨bk_ BK159.out⟩, ⟨bb_ HB.out⟩⟩
         case round =>
          clear H'
          try clear c1
          try clear c2
          try clear p2
          try clear c3
          try clear p6
          try clear c7
          try clear c7b0
          try clear c7b1
          try clear c7b2
          try clear c8
          try clear c9
          try clear c11
          try clear c12
          try clear c14
          try clear c16
          try clear c17
          try clear c18
          try clear c21
          try clear c21b0
          try clear c21b1
          try clear c22
          try clear c22b0
          try clear c22b1
          try clear c23
          try clear c24
          try clear c26
          try clear c27
          try clear c30
          try clear c30b0
          try clear c31
          try clear c32
          try clear hcz10_0
          try clear hcz10_1
          try clear hcz13_0
          try clear hcz13_1
          try clear hcz15_0
          try clear hcz15_1
          try clear hcz19_0
          try clear hcz19_1
          try clear hcz25_0
          try clear hcz25_1
          try clear hcz27_0
          try clear hcz27_1
          try clear hcz33_0
          try clear hcz33_1
          try clear hfz10_0
          try clear hfz10_1
          try clear hfz13_0
          try clear hfz13_1
          try clear hfz15_0
          try clear hfz15_1
          try clear hfz19_0
          try clear hfz19_1
          try clear hfz25_0
          try clear hfz25_1
          try clear hfz27_0
          try clear hfz27_1
          try clear hfz33_0
          try clear hfz33_1
          try clear p2
          try clear p6
          (try clear HO_5)
          (try clear BK157)
          (try clear BK158)
          (try clear BK159)
          (try clear HB)
          obtain ⟨x5_3, x7_3, rfl, HA, HK3, HO_5, BK157, BK158, BK159, HB⟩ := hrel
          cases gk with
          | zero => exact absurd HA.out (by simp [spec_l03Product.l1])
          | succ k3 =>
           have H := HA.out
           clear HA
           simp only [spec_l03Product.l1] at H
           by_cases c34 : x7_3 < (l1_1.length : Int)
           ·rw [if_pos c34] at H
            have c34b0 : decide (x7_3 < (l1_1.length : Int)) = true := decide_eq_true c34
            (try (have c34b945_1 := c34b0; rw [hl45_1] at c34b945_1))
            (try (have c34b953_2 := c34b0; rw [hl53_2] at c34b953_2))
            clear c34
            obtain ⟨ji35, hji35⟩ : ∃ j_ : Int, (wrap64 (x6_2 + x7_3)) = j_ := ⟨_, rfl⟩
            replace H : (if 0 ≤ (ji35) then (if (ji35) < (x5_3.length : Int) then (if 0 ≤ x6_2 then (if x6_2 < (l0_1.length : Int) then (if 0 ≤ x7_3 then (spec_l03Product.l1 k3 (x5_3.set ((ji35) : Int).toNat (wrap64 ((rd x5_3 (ji35)) + (wrap64 ((rd l0_1 x6_2) * (rd l1_1 x7_3)))))) x6_2 (wrap64 (x7_3 + 1)) a0_0 l0_1 a1_0 l1_1) else (none)) else (none)) else (none)) else (none)) else (none)) = some (r1, r2) := by first | (rw [hji35] at H; exact H) | (simp only [hji35] at H ⊢; exact H)
            have hji35w : (IntKind.i64.wrap (x6_2 + x7_3)) = ji35 := (i64_w _).trans hji35
            by_cases c36 : 0 ≤ (ji35)
            ·rw [if_pos c36] at H
             have c36b0 : decide (0 ≤ (ji35)) = true := decide_eq_true c36
             clear c36
             by_cases c37 : (ji35) < (x5_3.length : Int)
             ·rw [if_pos c37] at H
              have c37b0 : decide ((ji35) < (x5_3.length : Int)) = true := decide_eq_true c37
              clear c37
              by_cases c38 : 0 ≤ x6_2
              ·rw [if_pos c38] at H
               have c38b0 : decide (0 ≤ x6_2) = true := decide_eq_true c38
               clear c38
               by_cases c39 : x6_2 < (l0_1.length : Int)
               ·rw [if_pos c39] at H
                have c39b0 : decide (x6_2 < (l0_1.length : Int)) = true := decide_eq_true c39
                (try (have c39b945_1 := c39b0; rw [hl45_1] at c39b945_1))
                (try (have c39b953_2 := c39b0; rw [hl53_2] at c39b953_2))
                clear c39
                by_cases c40 : 0 ≤ x7_3
                ·rw [if_pos c40] at H
                 have c40b0 : decide (0 ≤ x7_3) = true := decide_eq_true c40
                 clear c40
                 obtain ⟨y170, hy170⟩ : ∃ y_ : List Int, y_ = (x5_3.set ((ji35) : Int).toNat (wrap64 ((rd x5_3 (ji35)) + (wrap64 ((rd l0_1 x6_2) * (rd l1_1 x7_3)))))) := ⟨_, rfl⟩
                 replace H : (spec_l03Product.l1 k3 y170 x6_2 (wrap64 (x7_3 + 1)) a0_0 l0_1 a1_0 l1_1) = some (r1, r2) := by first | (rw [hy170]; with_reducible exact H) | (have H2_ := (Option.bind_some _ _).symm.trans H; rw [hy170]; with_reducible exact H2_) | (have H2_ := (Option.bind_some _ _).symm.trans H; with_reducible exact H2_) | with_reducible exact H | (rw [hy170]; exact H) | exact H
                 have Ny170 := am_ hy170
                 clear hy170
                 have H' := am_ H
                 clear H
                 have hnb42 := NB158_157.out
                 have hnc42 := NB157_158.out
                 have hnb43 := NB158_159.out
                 have hnc43 := NB159_158.out
                 have hcz44_0 : wr.cell? ⟨gb158, 0, none⟩ = some (.int .i64 a1_0) := bc_ BK158 0
                 have hcz44_1 : wr.cell? ⟨gb158, 1, none⟩ = some (.slice A1_1 l1_1.length c1_1) := bc_ BK158 1
                 have hfz44_0 := blk_frozen BK158.out 0
                 have hfz44_1 := blk_frozen BK158.out 1
                 try go_wp2
                 have n0_ := am_ (Kd.R_drew HO_5.out)
                 have n1_ := am_ (blk_drew BK157.out)
                 have n2_ := am_ (blk_drew BK158.out)
                 have n3_ := am_ (blk_drew BK159.out)
                 have n4_ := am_ (below_drew1 HB.out)
                 clear HO_5 BK157 BK158 BK159 HB; revert n0_ n1_ n2_ n3_ n4_; intro HO_5 BK157 BK158 BK159 HB
                 obtain ⟨Ao46, co46, eo46⟩ := Kd.R_slice HO_5.out
                 (first | subst eo46 | (injection eo46 with f1_ f2_ f3_; have f4_ := f1_.symm; have f5_ := f3_.symm; clear f1_ f2_ f3_; subst f4_; subst f5_))
                 have p167 : 0 ≤ ((ji35) : Int) := of_decide_eq_true (by first | (with_reducible assumption) | assumption)
                 have q167 : (ji35) < (x5_3.length : Int) := of_decide_eq_true (by first | (with_reducible assumption) | assumption)
                 obtain ⟨ad167, e167, hx167_0⟩ := Kd.at_int (Kd.R_reads' HO_5.out).2.2 (ji35) p167 q167
                 cases e167
                 replace p167 := eq_true p167
                 replace q167 := eq_true q167
                 have p168 : 0 ≤ (x6_2 : Int) := of_decide_eq_true (by first | (with_reducible assumption) | assumption)
                 have q168 : x6_2 < (l0_1.length : Int) := of_decide_eq_true (by first | (with_reducible assumption) | assumption)
                 obtain ⟨ad168, e168, hx168_0⟩ := Kd.at_int HR0_1.out x6_2 p168 q168
                 have hw168_0 := hx168_0
                 cases e168
                 replace hx168_0 := (HB.out.cell (World.block_lt_of_cell? w _ hx168_0)).trans hx168_0
                 replace p168 := eq_true p168
                 replace q168 := eq_true q168
                 have p169 : 0 ≤ (x7_3 : Int) := of_decide_eq_true (by first | (with_reducible assumption) | assumption)
                 have q169 : x7_3 < (l1_1.length : Int) := of_decide_eq_true (by first | (with_reducible assumption) | assumption)
                 obtain ⟨ad169, e169, hx169_0⟩ := Kd.at_int HR1_1.out x7_3 p169 q169
                 have hw169_0 := hx169_0
                 cases e169
                 replace hx169_0 := (HB.out.cell (World.block_lt_of_cell? w _ hx169_0)).trans hx169_0
                 replace p169 := eq_true p169
                 replace q169 := eq_true q169
                 have p41 : 0 ≤ ((ji35) : Int) := of_decide_eq_true (by first | (with_reducible assumption) | assumption)
                 have q41 : ((ji35) : Int) < ((x5_3.length : Int) : Int) := of_decide_eq_true (by first | (with_reducible assumption) | assumption)
                 obtain ⟨go41, co41, eo41, gb41, gl41, cl41, HG41⟩ := Kd.R_form HO_5.out (by omega)
                 (first | cases eo41 | (injection eo41 with ea_ en_ ec_; (first | subst ea_ | (injection ea_ with ea_; subst ea_)); subst ec_; clear en_))
                 have GB41 := am_ gb41
                 have GG41 := am_ HG41
                 clear gb41 gl41 HG41
                 (first | simp only [add_plain] at hx167_0 | skip)
                 obtain ⟨hx41_0, hf41_0⟩ := Kd.R_celln 0 HO_5.out ((ji35) : Int) p41 q41
                 replace p41 := eq_true p41
                 replace q41 := eq_true q41
                 have HP47 := Kd.R_putn HO_5.out ((ji35) : Int) (wrap64 ((rd x5_3 (ji35)) + (wrap64 ((rd l0_1 x6_2) * (rd l1_1 x7_3)))))
                 rw [← Ny170.out] at HP47
                 have HQ47 := am_ HP47
                 clear HP47
                 refine start_ (n := 20) (S := fun w' => w'.cell? ⟨gb157, 0, none⟩ = some (.int .i64 a0_0) ∧ w'.cell? ⟨gb157, 1, none⟩ = some (.slice (some ad168) l0_1.length c0_1) ∧ w'.cell? ⟨gb158, 0, none⟩ = some (.int .i64 a1_0) ∧ w'.cell? ⟨gb158, 1, none⟩ = some (.slice (some ad169) l1_1.length c1_1) ∧ w'.cell? ⟨go41, ((ji35)).toNat, none⟩ = some (.int .i64 (rd x5_3 (ji35))) ∧ w'.cell? (ad168.add (x6_2).toNat) = some (.int .i64 (rd l0_1 x6_2)) ∧ w'.cell? (ad169.add (x7_3).toNat) = some (.int .i64 (rd l1_1 x7_3))) (ds := [19]) #[false, false, false, false, false, false, false, false, false, false, false, false, false, false, false, false, false, false, false, false] (by kernel_rfl) rfl rfl ⟨bc_ BK157 0, bc_ BK157 1, bc_ BK158 0, bc_ BK158 1, hx167_0, ((HB.out.cell (World.block_lt_of_cell? w _ hw168_0)).trans hw168_0), ((HB.out.cell (World.block_lt_of_cell? w _ hw169_0)).trans hw169_0)⟩ (fun hHeld => ?_); refine with_tabW spec_l03Product.tab10 spec_l03Product.bits10 (fun HT_ HW_ => ?_)
                 generalize wr.drew = w45 at HO_5 BK157 BK158 BK159 HB GG41 HQ47 hf41_0 hx167_0 hx168_0 hx169_0 hx41_0 hHeld ⊢
                 refine pure_ (i := 0) (N := some 42) (v := ?_) (a' := ?_) #[true, false, false, false, false, false, false, false, false, false, false, false, false, false, false, false, false, false, false, false] rfl rfl (any_of HT_.out (by kernel_rfl)) (fun _ _ _ h => h) (Or.inl ⟨by rfl, ?_⟩) ?_ ?_
                 rotate_left
                 ·intro w'
                  go_simp
                  with_reducible rfl
                 rotate_left
                 ·simp only [Act.put, List.setIfInBounds_toArray, List.set_cons_zero, List.set_cons_succ, i64_w, i32_w]
                  rfl
                 refine pure_ (i := 1) (N := some 43) (v := ?_) (a' := ?_) #[true, true, false, false, false, false, false, false, false, false, false, false, false, false, false, false, false, false, false, false] rfl rfl (any_of HT_.out (by kernel_rfl)) (fun _ _ _ h => h) (Or.inl ⟨by rfl, ?_⟩) ?_ ?_
                 rotate_left
                 ·intro w'
                  go_simp
                  with_reducible rfl
                 rotate_left
                 ·simp only [Act.put, List.setIfInBounds_toArray, List.set_cons_zero, List.set_cons_succ, i64_w, i32_w]
                  rfl
                 refine pure_ (i := 2) (N := some 44) (v := ?_) (a' := ?_) #[true, true, true, false, false, false, false, false, false, false, false, false, false, false, false, false, false, false, false, false] rfl rfl (any_of HT_.out (by kernel_rfl)) (fun _ _ _ h => h) (Or.inl ⟨by rfl, ?_⟩) ?_ ?_
                 rotate_left
                 ·intro w'
                  go_simp
                  with_reducible rfl
                 rotate_left
                 ·simp only [Act.put, List.setIfInBounds_toArray, List.set_cons_zero, List.set_cons_succ, i64_w, i32_w]
                  rfl
                 refine pure_ (i := 3) (N := some 45) (v := ?_) (a' := ?_) #[true, true, true, true, false, false, false, false, false, false, false, false, false, false, false, false, false, false, false, false] rfl rfl (any_of HT_.out (by kernel_rfl)) (fun _ _ _ h => h) (Or.inl ⟨by rfl, ?_⟩) ?_ ?_
                 rotate_left
                 ·intro w'
                  go_simp
                  with_reducible rfl
                 rotate_left
                 ·simp only [Act.put, List.setIfInBounds_toArray, List.set_cons_zero, List.set_cons_succ, i64_w, i32_w]
                  rfl
                 refine pure_ (i := 4) (N := some 46) (v := ?_) (a' := ?_) #[true, true, true, true, true, false, false, false, false, false, false, false, false, false, false, false, false, false, false, false] rfl rfl (any_of HT_.out (by kernel_rfl)) (fun _ _ _ h => h) (Or.inl ⟨by rfl, ?_⟩) ?_ ?_
                 rotate_left
                 ·intro w'
                  go_simp
                  with_reducible rfl
                 rotate_left
                 ·simp only [Act.put, List.setIfInBounds_toArray, List.set_cons_zero, List.set_cons_succ, i64_w, i32_w]
                  rfl
                 refine pure_ (i := 6) (N := some 48) (v := ?_) (a' := ?_) #[true, true, true, true, true, false, true, false, false, false, false, false, false, false, false, false, false, false, false, false] rfl rfl (any_of HT_.out (by kernel_rfl)) (fun _ _ _ h => h) (Or.inl ⟨by rfl, ?_⟩) ?_ ?_
                 rotate_left
                 ·intro w'
                  go_simp
                  with_reducible rfl
                 rotate_left
                 ·simp only [Act.put, List.setIfInBounds_toArray, List.set_cons_zero, List.set_cons_succ, i64_w, i32_w]
                  rfl
                 refine pure_ (i := 8) (N := some 50) (v := ?_) (a' := ?_) #[true, true, true, true, true, false, true, false, true, false, false, false, false, false, false, false, false, false, false, false] rfl rfl (any_of HT_.out (by kernel_rfl)) (fun _ _ _ h => h) (Or.inl ⟨by rfl, ?_⟩) ?_ ?_
                 rotate_left
                 ·intro w'
                  go_simp
                  with_reducible rfl
                 rotate_left
                 ·simp only [Act.put, List.setIfInBounds_toArray, List.set_cons_zero, List.set_cons_succ, i64_w, i32_w]
                  rfl
                 refine pure_ (i := 11) (N := some 53) (v := ?_) (a' := ?_) #[true, true, true, true, true, false, true, false, true, false, false, true, false, false, false, false, false, false, false, false] rfl rfl (any_of HT_.out (by kernel_rfl)) (fun _ _ _ h => h) (Or.inl ⟨by rfl, ?_⟩) ?_ ?_
                 rotate_left
                 ·intro w'
                  go_simp
                  with_reducible rfl
                 rotate_left
                 ·simp only [Act.put, List.setIfInBounds_toArray, List.set_cons_zero, List.set_cons_succ, i64_w, i32_w]
                  rfl
                 refine pure_ (i := 13) (N := some 55) (v := ?_) (a' := ?_) #[true, true, true, true, true, false, true, false, true, false, false, true, false, true, false, false, false, false, false, false] rfl rfl (any_of HT_.out (by kernel_rfl)) (fun _ _ _ h => h) (Or.inl ⟨by rfl, ?_⟩) ?_ ?_
                 rotate_left
                 ·intro w'
                  go_simp
                  with_reducible rfl
                 rotate_left
                 ·simp only [Act.put, List.setIfInBounds_toArray, List.set_cons_zero, List.set_cons_succ, i64_w, i32_w]
                  rfl
                 refine take_ (i := 5) (N := some 47) (v := ?_) (a' := ?_) #[true, true, true, true, true, true, true, false, true, false, false, true, false, true, false, false, false, false, false, false] rfl rfl (take_ofW HT_.out HW_.out (by kernel_rfl)) (fun _ _ _ h => h) (Or.inl ⟨by rfl, ?_⟩) hHeld ?_ ?_
                 rotate_left
                 ·rintro w' ⟨s0, s1, s2, s3, s4, s5, s6⟩
                  go_simp
                  with_reducible rfl
                 rotate_left
                 ·simp only [Act.put, List.setIfInBounds_toArray, List.set_cons_zero, List.set_cons_succ, i64_w, i32_w]
                  rfl
                 refine take_ (i := 7) (N := some 49) (v := ?_) (a' := ?_) #[true, true, true, true, true, true, true, true, true, false, false, true, false, true, false, false, false, false, false, false] rfl rfl (take_ofW HT_.out HW_.out (by kernel_rfl)) (fun _ _ _ h => h) (Or.inl ⟨by rfl, ?_⟩) hHeld ?_ ?_
                 rotate_left
                 ·rintro w' ⟨s0, s1, s2, s3, s4, s5, s6⟩
                  go_simp
                  with_reducible rfl
                 rotate_left
                 ·simp only [Act.put, List.setIfInBounds_toArray, List.set_cons_zero, List.set_cons_succ, i64_w, i32_w]
                  rfl
                 refine pure_ (i := 9) (N := some 51) (v := ?_) (a' := ?_) #[true, true, true, true, true, true, true, true, true, true, false, true, false, true, false, false, false, false, false, false] rfl rfl (any_of HT_.out (by kernel_rfl)) (fun _ _ _ h => h) (Or.inl ⟨by rfl, ?_⟩) ?_ ?_
                 rotate_left
                 ·intro w'
                  go_simp
                  with_reducible rfl
                 rotate_left
                 ·simp only [Act.put, List.setIfInBounds_toArray, List.set_cons_zero, List.set_cons_succ, i64_w, i32_w]
                  rfl
                 refine take_ (i := 10) (N := some 52) (v := ?_) (a' := ?_) #[true, true, true, true, true, true, true, true, true, true, true, true, false, true, false, false, false, false, false, false] rfl rfl (take_ofW HT_.out HW_.out (by kernel_rfl)) (fun _ _ _ h => h) (Or.inl ⟨by rfl, ?_⟩) hHeld ?_ ?_
                 rotate_left
                 ·rintro w' ⟨s0, s1, s2, s3, s4, s5, s6⟩
                  go_simp
                  with_reducible rfl
                 rotate_left
                 ·simp only [Act.put, List.setIfInBounds_toArray, List.set_cons_zero, List.set_cons_succ, i64_w, i32_w]
                  rfl
                 refine take_ (i := 12) (N := some 54) (v := ?_) (a' := ?_) #[true, true, true, true, true, true, true, true, true, true, true, true, true, true, false, false, false, false, false, false] rfl rfl (take_ofW HT_.out HW_.out (by kernel_rfl)) (fun _ _ _ h => h) (Or.inl ⟨by rfl, ?_⟩) hHeld ?_ ?_
                 rotate_left
                 ·rintro w' ⟨s0, s1, s2, s3, s4, s5, s6⟩
                  go_simp
                  with_reducible rfl
                 rotate_left
                 ·simp only [Act.put, List.setIfInBounds_toArray, List.set_cons_zero, List.set_cons_succ, i64_w, i32_w]
                  rfl
                 refine pure_ (i := 14) (N := some 56) (v := ?_) (a' := ?_) #[true, true, true, true, true, true, true, true, true, true, true, true, true, true, true, false, false, false, false, false] rfl rfl (any_of HT_.out (by kernel_rfl)) (fun _ _ _ h => h) (Or.inl ⟨by rfl, ?_⟩) ?_ ?_
                 rotate_left
                 ·intro w'
                  go_simp
                  with_reducible rfl
                 rotate_left
                 ·simp only [Act.put, List.setIfInBounds_toArray, List.set_cons_zero, List.set_cons_succ, i64_w, i32_w]
                  rfl
                 refine take_ (i := 15) (N := some 57) (v := ?_) (a' := ?_) #[true, true, true, true, true, true, true, true, true, true, true, true, true, true, true, true, false, false, false, false] rfl rfl (take_ofW HT_.out HW_.out (by kernel_rfl)) (fun _ _ _ h => h) (Or.inl ⟨by rfl, ?_⟩) hHeld ?_ ?_
                 rotate_left
                 ·rintro w' ⟨s0, s1, s2, s3, s4, s5, s6⟩
                  go_simp
                  with_reducible rfl
                 rotate_left
                 ·simp only [Act.put, List.setIfInBounds_toArray, List.set_cons_zero, List.set_cons_succ, i64_w, i32_w]
                  rfl
                 refine pure_ (i := 16) (N := some 58) (v := ?_) (a' := ?_) #[true, true, true, true, true, true, true, true, true, true, true, true, true, true, true, true, true, false, false, false] rfl rfl (any_of HT_.out (by kernel_rfl)) (fun _ _ _ h => h) (Or.inl ⟨by rfl, ?_⟩) ?_ ?_
                 rotate_left
                 ·intro w'
                  go_simp
                  with_reducible rfl
                 rotate_left
                 ·simp only [Act.put, List.setIfInBounds_toArray, List.set_cons_zero, List.set_cons_succ, i64_w, i32_w]
                  rfl
                 refine pure_ (i := 17) (N := some 59) (v := ?_) (a' := ?_) #[true, true, true, true, true, true, true, true, true, true, true, true, true, true, true, true, true, true, false, false] rfl rfl (any_of HT_.out (by kernel_rfl)) (fun _ _ _ h => h) (Or.inl ⟨by rfl, ?_⟩) ?_ ?_
                 rotate_left
                 ·intro w'
                  go_simp
                  with_reducible rfl
                 rotate_left
                 ·simp only [Act.put, List.setIfInBounds_toArray, List.set_cons_zero, List.set_cons_succ, i64_w, i32_w]
                  rfl
                 refine pure_ (i := 18) (N := some 60) (v := ?_) (a' := ?_) #[true, true, true, true, true, true, true, true, true, true, true, true, true, true, true, true, true, true, true, false] rfl rfl (any_of HT_.out (by kernel_rfl)) (fun _ _ _ h => h) (Or.inl ⟨by rfl, ?_⟩) ?_ ?_
                 rotate_left
                 ·intro w'
                  go_simp
                  with_reducible rfl
                 rotate_left
                 ·simp only [Act.put, List.setIfInBounds_toArray, List.set_cons_zero, List.set_cons_succ, i64_w, i32_w]
                  rfl
                 refine last_ (i := 19) (N := none) #[true, true, true, true, true, true, true, true, true, true, true, true, true, true, true, true, true, true, true, true] rfl rfl (one_of HT_.out (by kernel_rfl)) (by decide) (fun K hK => ?_)
                 refine skip_ (w1 := ?_) (by rfl) rfl ?_ ?_
                 rotate_left
                 ·go_simp
                  rfl
                 refine hK.out _ _ ?_
                 clear hK K
                 refine done_ (done_of HT_.out (by kernel_rfl)) ?_
                 try go_wp2
                 go_roundg k3
                 case measure => have := HJ2.out; have := HK2.out; have := HK3.out; omega
                 case rel => exact ⟨(y170), (wrap64 (x7_3 + 1)), (by first | rfl | (simp; done) | (simp [*]; done)), H', ⟨by have := HJ2.out; have := HK2.out; have := HK3.out; omega⟩, ⟨rk_ HQ47.out⟩, ⟨by (with_reducible repeat (first | refine blk_drewN ?_ _ | refine blk_drew ?_ | refine blk_alloc ?_ _)); refine blk_far ?_ (by have h_ := Kd.R_ne HO_5.out BK157.out (by decide); intro e_; exact h_ (by rw [e_]; rfl)) _; (with_reducible repeat (first | refine blk_drewN ?_ _ | refine blk_drew ?_ | refine blk_alloc ?_ _)); exact BK157.out⟩, ⟨by (with_reducible repeat (first | refine blk_drewN ?_ _ | refine blk_drew ?_ | refine blk_alloc ?_ _)); refine blk_far ?_ (by have h_ := Kd.R_ne HO_5.out BK158.out (by decide); intro e_; exact h_ (by rw [e_]; rfl)) _; (with_reducible repeat (first | refine blk_drewN ?_ _ | refine blk_drew ?_ | refine blk_alloc ?_ _)); exact BK158.out⟩, ⟨by (with_reducible repeat (first | refine blk_drewN ?_ _ | refine blk_drew ?_ | refine blk_alloc ?_ _)); refine blk_far ?_ (by have h_ := Kd.R_ne HO_5.out BK159.out (by decide); intro e_; exact h_ (by rw [e_]; rfl)) _; (with_reducible repeat (first | refine blk_drewN ?_ _ | refine blk_drew ?_ | refine blk_alloc ?_ _)); exact BK159.out⟩, ⟨bb_ HB.out⟩⟩
                ·rw [if_neg c40] at H
                 exact absurd H (by simp)
               ·rw [if_neg c39] at H
                exact absurd H (by simp)
              ·rw [if_neg c38] at H
               exact absurd H (by simp)
             ·rw [if_neg c37] at H
              exact absurd H (by simp)
            ·rw [if_neg c36] at H
             exact absurd H (by simp)
           ·rw [if_neg c34] at H
            have c34b0 : decide (x7_3 < (l1_1.length : Int)) = false := decide_eq_false c34
            (try (have c34b945_1 := c34b0; rw [hl45_1] at c34b945_1))
            (try (have c34b953_2 := c34b0; rw [hl53_2] at c34b953_2))
            clear c34
            have H' := am_ H
            clear H
            have hnb48 := NB158_157.out
            have hnc48 := NB157_158.out
            have hnb49 := NB158_159.out
            have hnc49 := NB159_158.out
            have hcz50_0 : wr.cell? ⟨gb158, 0, none⟩ = some (.int .i64 a1_0) := bc_ BK158 0
            have hcz50_1 : wr.cell? ⟨gb158, 1, none⟩ = some (.slice A1_1 l1_1.length c1_1) := bc_ BK158 1
            have hfz50_0 := blk_frozen BK158.out 0
            have hfz50_1 := blk_frozen BK158.out 1
            go_wp2
            go_roundg k3
            case measure => have := HJ2.out; have := HK2.out; have := HK3.out; omega
            case rel => exact ⟨(x5_3), (wrap64 (x6_2 + 1)), (by first | rfl | (simp; done) | (simp [*]; done)), H', ⟨by have := HJ2.out; have := HK2.out; have := HK3.out; omega⟩, ⟨rk_ HO_5.out⟩, ⟨bk_ BK157.out⟩, ⟨bk_ BK158.out⟩, ⟨bk_ BK159.out⟩, ⟨bb_ HB.out⟩⟩
        ·rw [if_neg c30] at H
         have c30b0 : decide (x6_2 < (l0_1.length : Int)) = false := decide_eq_false c30
         (try (have c30b945_1 := c30b0; rw [hl45_1] at c30b945_1))
         (try (have c30b953_2 := c30b0; rw [hl53_2] at c30b953_2))
         clear c30
         replace H := Option.bind_eq_some_iff.mp H
         obtain ⟨⟨t163, t164⟩, A510, H⟩ := H
         replace H : (some (t163, t164)) = some (r1, r2) := H
         have A51 := am_ A510
         clear A510
         simp only [Option.some.injEq, Prod.mk.injEq] at H
         obtain ⟨rfl, rfl⟩ := H
         have hnb52 := NB157_158.out
         have hnc52 := NB158_157.out
         have hnb53 := NB157_159.out
         have hnc53 := NB159_157.out
         have hcz54_0 : wr.cell? ⟨gb157, 0, none⟩ = some (.int .i64 a0_0) := bc_ BK157 0
         have hcz54_1 : wr.cell? ⟨gb157, 1, none⟩ = some (.slice A0_1 l0_1.length c0_1) := bc_ BK157 1
         have hfz54_0 := blk_frozen BK157.out 0
         have hfz54_1 := blk_frozen BK157.out 1
         have hnb55 := NB158_159.out
         have hnc55 := NB159_158.out
         have hcz56_0 : wr.cell? ⟨gb158, 0, none⟩ = some (.int .i64 a1_0) := bc_ BK158 0
         have hcz56_1 : wr.cell? ⟨gb158, 1, none⟩ = some (.slice A1_1 l1_1.length c1_1) := bc_ BK158 1
         have hfz56_0 := blk_frozen BK158.out 0
         have hfz56_1 := blk_frozen BK158.out 1
         obtain ⟨Ao57, co57, eo57⟩ := Kd.R_slice HO_5.out
         subst eo57
         go_wp2_with (first | ((with_reducible refine gate_callee (f := 31) rfl ?_); refine goesL_ (some 67) rfl rfl Try.func31 (by kernel_rfl) rfl #[.int .i64 (wrap64 (a0_0 + a1_0)), .slice Ao57 x5_2.length co57] rfl lm_ ?_; (with_reducible refine (spec_l03Form.calls k2 (wrap64 (a0_0 + a1_0)) _ _ x5_2 t163 t164 _ ?side1 ?side2 A51.out).mono ?_); (case side1 => repeat (first | exact (Kd.R_reads' HO_5.out).2.2 | (with_reducible refine Kd.C_alloc ?_ _) | (with_reducible refine Kd.C_drewN ?_ _) | (with_reducible refine Kd.C_drew ?_))); (case side2 => exact (Kd.R_reads' HO_5.out).2.1); rintro e w58 ⟨v165, rfl, ho0, hb⟩; refine ⟨_, rfl, ?_⟩; have n0_ := am_ (Kd.R_elder' (rk_ HO_5.out) (Kd.R_base ho0) hb); have n1_ := am_ (Kd.R_lower (Kd.R_new' ho0 (Kd.R_lt (rk_ HO_5.out))) (below_size (bb_ HB.out))); have n2_ := am_ (bw_ BK157 hb); have n3_ := am_ (bw_ BK158 hb); have n4_ := am_ (bw_ BK159 hb); have n5_ := am_ (below_step (bb_ HB.out) hb); clear HO_5 BK157 BK158 BK159 HB; revert n0_ n1_ n2_ n3_ n4_ n5_; intro HO_5 HO166 BK157 BK158 BK159 HB; (try clear hb); (try clear hb2); (try clear hk); (try clear hi); (try clear ho0); have hcz59_0 : w58.cell? ⟨gb159, 0, none⟩ = some (.int .i64 0) := bc_ BK159 0; have hcz59_1 : w58.cell? ⟨gb159, 1, none⟩ = some (.slice none 0 0) := bc_ BK159 1; have hfz59_0 := blk_frozen BK159.out 0; have hfz59_1 := blk_frozen BK159.out 1; obtain ⟨Ao60, co60, eo60⟩ := Kd.R_slice HO166.out; subst eo60))
         refine bodyPost_ret (results_cell_row rfl _ _ gb159 26 #[.int .i64 t163, .slice Ao60 t164.length co60] (0, 0) _ rfl (by (with_reducible repeat (first | refine blk_drewN ?_ _ | refine blk_drew ?_ | refine blk_alloc ?_ _)); refine blk_put (cs := #[.int .i64 t163, .slice none 0 0]) ?_ 1 _ rfl; (with_reducible repeat (first | refine blk_drewN ?_ _ | refine blk_drew ?_ | refine blk_alloc ?_ _)); refine blk_put (cs := #[.int .i64 0, .slice none 0 0]) ?_ 0 _ rfl; (with_reducible repeat (first | refine blk_drewN ?_ _ | refine blk_drew ?_ | refine blk_alloc ?_ _)); exact BK159.out) Try.underlying26 rfl (by kernel_rfl)) rfl ?_
         exact ⟨_, by first | rfl | (simp [errW_none, errW_some] <;> rfl) | (simp only [← hji20]; first | rfl | (simp [errW_none, errW_some] <;> rfl)) | (simp [*, errW_none, errW_some] <;> rfl), rm_ (Kd.R_far (p := ⟨gb159, 1, none⟩) (Kd.R_far (p := ⟨gb159, 0, none⟩) (Kd.R_types HO166.out BK159.out (by decide)) (fun _ hk => hk.2) (.int .i64 t163)) (fun _ hk => hk.2) (.slice Ao60 t164.length co60)) (fun _ hk => trivial), by repeat (first | (with_reducible first | exact HB.out | apply below_alloc | apply pw_below_drewN | apply below_drew1 | refine below_set ?_ GE157.out | refine below_set ?_ GE158.out | refine below_set ?_ GE159.out) | exact HB.out)⟩
     ·rw [if_neg c22] at H
      exact absurd H (by simp)
    ·rw [if_neg c21] at H
     exact absurd H (by simp)

end Go.Proofs.Ytpkocglndlmhkaa.PFnExactMultiplyLaurent
