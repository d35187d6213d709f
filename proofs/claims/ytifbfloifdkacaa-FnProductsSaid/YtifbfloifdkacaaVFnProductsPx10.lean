/- Written by this session's program out of the kit's print and this session's contracts. -/
import Derived.Test.YtifbfloifdkacaaVFnProductsPx0
import Derived.Test.YtifbfloifdkacaaVFnProductsPx1
import Derived.Test.YtifbfloifdkacaaVFnProductsPx6
import Derived.Test.YtifbfloifdkacaaVFnProductsPx8
import Derived.Test.YtifbfloifdkacaaVFnProductsPx9
namespace Go.Proofs.Ytifbfloifdkacaa.PFnProducts
open Go.RowKit Go.Proofs.YtifbfloifdkacaaW.PrintWords Go.Proofs.YtifbfloifdkacaaW.PrintLast Go.Proofs.YtifbfloifdkacaaW.PrintMore
attribute [local go_sem] max2_int min2_int max_two min_two max_three min_three max_four min_four   -- for this text's walks alone
set_option linter.unusedVariables false
set_option linter.unusedSimpArgs false

/-! ### spec_MultiplyMatrices: function 14 -/
def spec_MultiplyMatrices.j0 : Nat → Bool → Int → Int → List Int → Int → Int → List Int → Option (Int × Int × List Int × Int)
 | 0, _, _, _, _, _, _, _ => none
 | k + 1, x15, x293000, x293001, x293002, x294000, x294001, x294002 => if x15 = true then (some (0, 0, ([] : List Int), 1)) else (if x293001 = x294000 then ((spec_l01Multiply.f k x293000 x293001 x293002 x294000 x294001 x294002).bind fun bt297 => (if bt297.2.2.2 = true then (some (bt297.1, bt297.2.1, bt297.2.2.1, 0)) else (some (0, 0, ([] : List Int), 3)))) else (some (0, 0, ([] : List Int), 2)))
def spec_MultiplyMatrices.f (k : Nat) (a0_0 : Int) (a0_1 : Int) (l0_2 : List Int) (a1_0 : Int) (a1_1 : Int) (l1_2 : List Int) : Option (Int × Int × List Int × Int) := (spec_IsMatrix.f k a0_0 a0_1 l0_2).bind fun t295 => (if t295 = true then ((spec_IsMatrix.f k a1_0 a1_1 l1_2).bind fun t296 => (spec_MultiplyMatrices.j0 k (!t296) a0_0 a0_1 l0_2 a1_0 a1_1 l1_2)) else (spec_MultiplyMatrices.j0 k true a0_0 a0_1 l0_2 a1_0 a1_1 l1_2))
theorem spec_MultiplyMatrices.mono_l : ∀ k, (∀ y0 y1 y2 y3 y4 y5 y6, LeO (spec_MultiplyMatrices.j0 k y0 y1 y2 y3 y4 y5 y6) (spec_MultiplyMatrices.j0 (k + 1) y0 y1 y2 y3 y4 y5 y6))
 | 0 => fun _ _ _ _ _ _ _ r h => by simp [spec_MultiplyMatrices.j0] at h
 | k + 1 => by
  have ih0 := spec_MultiplyMatrices.mono_l k
  ·intro y0 y1 y2 y3 y4 y5 y6
   unfold spec_MultiplyMatrices.j0
   repeat' first
   | (with_reducible exact ih0 _ _ _ _ _ _ _)
   | (with_reducible exact spec_IsMatrix.mono _ _ _ _)
   | (with_reducible exact spec_l01Multiply.mono _ _ _ _ _ _ _)
   | (with_reducible exact LeO.refl _)
   | (with_reducible exact LeO.none _)
   | (with_reducible refine LeO.ite ?_ ?_)
   | (with_reducible refine LeO.bind ?_ (fun _ => ?_))
   | exact ih0 _ _ _ _ _ _ _
   | exact spec_IsMatrix.mono _ _ _ _
   | exact spec_l01Multiply.mono _ _ _ _ _ _ _
   | exact LeO.none _
   | refine LeO.ite ?_ ?_
   | refine LeO.bind ?_ (fun _ => ?_)
theorem spec_MultiplyMatrices.mono : ∀ a0 a1 a2 a3 a4 a5 k, LeO (spec_MultiplyMatrices.f k a0 a1 a2 a3 a4 a5) (spec_MultiplyMatrices.f (k + 1) a0 a1 a2 a3 a4 a5) := by
 intro a0 a1 a2 a3 a4 a5 k
 have ih0 := spec_MultiplyMatrices.mono_l k
 unfold spec_MultiplyMatrices.f
 repeat' first
   | (with_reducible exact ih0 _ _ _ _ _ _ _)
   | (with_reducible exact spec_IsMatrix.mono _ _ _ _)
   | (with_reducible exact spec_l01Multiply.mono _ _ _ _ _ _ _)
   | (with_reducible exact LeO.refl _)
   | (with_reducible exact LeO.none _)
   | (with_reducible refine LeO.ite ?_ ?_)
   | (with_reducible refine LeO.bind ?_ (fun _ => ?_))
   | exact ih0 _ _ _ _ _ _ _
   | exact spec_IsMatrix.mono _ _ _ _
   | exact spec_l01Multiply.mono _ _ _ _ _ _ _
   | exact LeO.none _
   | refine LeO.ite ?_ ?_
   | refine LeO.bind ?_ (fun _ => ?_)
set_option maxHeartbeats 8000000 in
set_option maxRecDepth 100000 in
theorem spec_MultiplyMatrices.calls (k : Nat) (a0_0 : Int) (a0_1 : Int) (A0_2 : Option Addr) (c0_2 : Nat) (l0_2 : List Int) (a1_0 : Int) (a1_1 : Int) (A1_2 : Option Addr) (c1_2 : Nat) (l1_2 : List Int) (r1 : Int) (r2 : Int) (r3 : List Int) (r4 : Int) (w : World) (hr0_2 : Kd.C (Kd.int .i64) w A0_2 l0_2.length l0_2) (hc0_2 : l0_2.length ≤ c0_2) (hr1_2 : Kd.C (Kd.int .i64) w A1_2 l1_2.length l1_2) (hc1_2 : l1_2.length ≤ c1_2) (h : spec_MultiplyMatrices.f k a0_0 a0_1 l0_2 a1_0 a1_1 l1_2 = some (r1, r2, r3, r4)) :
  Calls Try.prog 14 #[.agg #[.int .i64 a0_0, .int .i64 a0_1, .slice A0_2 l0_2.length c0_2], .agg #[.int .i64 a1_0, .int .i64 a1_1, .slice A1_2 l1_2.length c1_2]] w fun e w' => ∃ v2_ : Value, e = .returned (.tuple #[.agg #[.int .i64 r1, .int .i64 r2, v2_], .int .i64 r4]) ∧ Kd.R (Kd.int .i64) 2 w' w.heap.size (fun _ => True) v2_ r3 ∧ Below w.heap.size w w' := by
 have hu28 := Try.underlying28
 have HR0_2 := am_ hr0_2
 have HC0_2 := am_ hc0_2
 clear hr0_2 hc0_2
 have HR1_2 := am_ hr1_2
 have HC1_2 := am_ hc1_2
 clear hr1_2 hc1_2
 have HB := am_ (Below.refl w.heap.size w)
 have H : ((spec_IsMatrix.f k a0_0 a0_1 l0_2).bind fun t295 => (if t295 = true then ((spec_IsMatrix.f k a1_0 a1_1 l1_2).bind fun t296 => (spec_MultiplyMatrices.j0 k (!t296) a0_0 a0_1 l0_2 a1_0 a1_1 l1_2)) else (spec_MultiplyMatrices.j0 k true a0_0 a0_1 l0_2 a1_0 a1_1 l1_2))) = some (r1, r2, r3, r4) := h
 clear h
 have HC3 := am_ H
 clear H
 go_enter Try.func14, Try.ntmps14
 go_upto_region 1 with (first | ((with_reducible refine gate_dst (N := 2) rfl ?_); refine box_event ?hg (N := 2) ?hd (cs := #[.int .i64 a0_0, .int .i64 a0_1, .slice A0_2 l0_2.length c0_2]) (t := 28) ?hr ?_; (case hd => rfl); (case hg => rfl); (case hr => first | (go_simp; done) | (go_simp; rfl)); intro gb292 hg w4 hbox hb; have n0_ := am_ (below_step (bb_ HB.out) hb); have n1_ := am_ (hbox); have n2_ := am_ ((by rw [hg]; exact (below_size (bb_ HB.out)) : w.heap.size ≤ gb292)); have n3_ := am_ ((by rw [hg]; exact (below_size (bb_ HB.out)) : w.heap.size ≤ gb292)); clear HB; revert n0_ n1_ n2_ n3_; intro HB BK292 GW292 GE292; clear hb hbox hg) | ((with_reducible refine gate_dst (N := 3) rfl ?_); refine box_event ?hg (N := 3) ?hd (cs := #[.int .i64 a1_0, .int .i64 a1_1, .slice A1_2 l1_2.length c1_2]) (t := 28) ?hr ?_; (case hd => rfl); (case hg => rfl); (case hr => first | (go_simp; done) | (go_simp; rfl)); intro gb293 hg w5 hbox hb; have n0_ := am_ (bw_ BK292 hb); have n1_ := am_ (below_step (bb_ HB.out) hb); have n2_ := am_ (hbox); have n3_ := am_ ((by rw [hg]; exact (below_size (bb_ HB.out)) : w.heap.size ≤ gb293)); have n4_ := am_ ((by rw [hg]; exact (below_size (bb_ HB.out)) : w.heap.size ≤ gb293)); have n5_ := am_ (nl_ BK292 hg); have n6_ := am_ (ng_ BK292 hg); clear BK292 HB; revert n0_ n1_ n2_ n3_ n4_ n5_ n6_; intro BK292 HB BK293 GW293 GE293 NB292_293 NB293_292; clear hb hbox hg) | ((with_reducible refine gate_dst (N := 4) rfl ?_); refine box_event ?hg (N := 4) ?hd (cs := #[.int .i64 0, .int .i64 0, .slice none 0 0]) (t := 28) ?hr ?_; (case hd => rfl); (case hg => rfl); (case hr => first | (go_simp; done) | (go_simp; rfl)); intro gb294 hg w6 hbox hb; have n0_ := am_ (bw_ BK292 hb); have n1_ := am_ (bw_ BK293 hb); have n2_ := am_ (below_step (bb_ HB.out) hb); have n3_ := am_ (hbox); have n4_ := am_ ((by rw [hg]; exact (below_size (bb_ HB.out)) : w.heap.size ≤ gb294)); have n5_ := am_ ((by rw [hg]; exact (below_size (bb_ HB.out)) : w.heap.size ≤ gb294)); have n6_ := am_ (nl_ BK292 hg); have n7_ := am_ (ng_ BK292 hg); have n8_ := am_ (nl_ BK293 hg); have n9_ := am_ (ng_ BK293 hg); clear BK292 BK293 HB; revert n0_ n1_ n2_ n3_ n4_ n5_ n6_ n7_ n8_ n9_; intro BK292 BK293 HB BK294 GW294 GE294 NB292_294 NB294_292 NB293_294 NB294_293; clear hb hbox hg))
 (try simp only [Act.put, List.setIfInBounds_toArray, List.set_cons_zero, List.set_cons_succ])
 go_cut [15] (fun v15 wc => ∃ (kq : Nat) (x15_2 : Bool), v15 = .bool x15_2 ∧ Aside0 (spec_MultiplyMatrices.j0 kq x15_2 a0_0 a0_1 l0_2 a1_0 a1_1 l1_2 = some (r1, r2, r3, r4)) ∧ Aside0 (kq ≤ k) ∧ Aside0 (wc.heap[gb292]? = some (.cells #[.int .i64 a0_0, .int .i64 a0_1, (.slice A0_2 l0_2.length c0_2)] 28 (0, 0))) ∧ Aside0 (wc.heap[gb293]? = some (.cells #[.int .i64 a1_0, .int .i64 a1_1, (.slice A1_2 l1_2.length c1_2)] 28 (0, 0))) ∧ Aside0 (wc.heap[gb294]? = some (.cells #[.int .i64 0, .int .i64 0, (.slice none 0 0)] 28 (0, 0))) ∧ Aside0 (Below w.heap.size w wc))
 case first =>
  have H := HC3.out
  clear HC3
  replace H := Option.bind_eq_some_iff.mp H
  obtain ⟨t295, A70, H⟩ := H
  replace H : (if t295 = true then ((spec_IsMatrix.f k a1_0 a1_1 l1_2).bind fun t296 => (spec_MultiplyMatrices.j0 k (!t296) a0_0 a0_1 l0_2 a1_0 a1_1 l1_2)) else (spec_MultiplyMatrices.j0 k true a0_0 a0_1 l0_2 a1_0 a1_1 l1_2)) = some (r1, r2, r3, r4) := H
  have A7 := am_ A70
  clear A70
  by_cases c8 : t295 = true
  ·subst c8
   have H1 : ((spec_IsMatrix.f k a1_0 a1_1 l1_2).bind fun t296 => (spec_MultiplyMatrices.j0 k (!t296) a0_0 a0_1 l0_2 a1_0 a1_1 l1_2)) = some (r1, r2, r3, r4) := by rw [if_pos rfl] at H; exact H
   clear H
   have H := H1
   clear H1
   replace H := Option.bind_eq_some_iff.mp H
   obtain ⟨t296, A90, H⟩ := H
   replace H : (spec_MultiplyMatrices.j0 k (!t296) a0_0 a0_1 l0_2 a1_0 a1_1 l1_2) = some (r1, r2, r3, r4) := H
   have A9 := am_ A90
   clear A90
   have H' := am_ H
   clear H
   have hnb10 := NB292_293.out
   have hnc10 := NB293_292.out
   have hnb11 := NB292_294.out
   have hnc11 := NB294_292.out
   have hcz12_0 : w6.cell? ⟨gb292, 0, none⟩ = some (.int .i64 a0_0) := bc_ BK292 0
   have hcz12_1 : w6.cell? ⟨gb292, 1, none⟩ = some (.int .i64 a0_1) := bc_ BK292 1
   have hcz12_2 : w6.cell? ⟨gb292, 2, none⟩ = some (.slice A0_2 l0_2.length c0_2) := bc_ BK292 2
   have hfz12_0 := blk_frozen BK292.out 0
   have hfz12_1 := blk_frozen BK292.out 1
   have hfz12_2 := blk_frozen BK292.out 2
   go_wp2_with (first | ((with_reducible refine gate_callee (f := 23) rfl ?_); refine goesL_ (some 9) rfl rfl Try.func23 (by kernel_rfl) rfl #[.agg #[.int .i64 a0_0, .int .i64 a0_1, .slice A0_2 l0_2.length c0_2]] rfl lm_ ?_; (with_reducible refine (spec_IsMatrix.calls k a0_0 a0_1 _ _ l0_2 true _ ?side1 ?side2 A7.out).mono ?_); (case side1 => repeat (first | exact (Kd.C_below HR0_2.out HB.out) | (with_reducible refine Kd.C_alloc ?_ _) | (with_reducible refine Kd.C_drewN ?_ _) | (with_reducible refine Kd.C_drew ?_))); (case side2 => exact HC0_2.out); rintro e w13 ⟨rfl, hb⟩; refine ⟨_, rfl, ?_⟩; have n0_ := am_ (bw_ BK292 hb); have n1_ := am_ (bw_ BK293 hb); have n2_ := am_ (bw_ BK294 hb); have n3_ := am_ (below_step (bb_ HB.out) hb); clear BK292 BK293 BK294 HB; revert n0_ n1_ n2_ n3_; intro BK292 BK293 BK294 HB; (try clear hb); (try clear hb2); (try clear hk); (try clear hi); have hnb14 := NB293_294.out; have hnc14 := NB294_293.out; have hcz15_0 : w13.cell? ⟨gb293, 0, none⟩ = some (.int .i64 a1_0) := bc_ BK293 0; have hcz15_1 : w13.cell? ⟨gb293, 1, none⟩ = some (.int .i64 a1_1) := bc_ BK293 1; have hcz15_2 : w13.cell? ⟨gb293, 2, none⟩ = some (.slice A1_2 l1_2.length c1_2) := bc_ BK293 2; have hfz15_0 := blk_frozen BK293.out 0; have hfz15_1 := blk_frozen BK293.out 1; have hfz15_2 := blk_frozen BK293.out 2) | (go_at_call 23; (with_reducible refine (spec_IsMatrix.calls k a1_0 a1_1 _ _ l1_2 t296 _ ?side1 ?side2 A9.out).mono ?_); (case side1 => repeat (first | exact (Kd.C_below HR1_2.out HB.out) | (with_reducible refine Kd.C_alloc ?_ _) | (with_reducible refine Kd.C_drewN ?_ _) | (with_reducible refine Kd.C_drew ?_))); (case side2 => exact HC1_2.out); rintro e w16 ⟨rfl, hb⟩; have n0_ := am_ (bw_ BK292 hb); have n1_ := am_ (bw_ BK293 hb); have n2_ := am_ (bw_ BK294 hb); have n3_ := am_ (below_step (bb_ HB.out) hb); clear BK292 BK293 BK294 HB; revert n0_ n1_ n2_ n3_; intro BK292 BK293 BK294 HB; (try clear hb); (try clear hb2); (try clear hk); (try clear hi)))
   go_meet
   case rel => exact ⟨_, (!t296), (by first | rfl | (simp; done) | (simp [*]; done)), H', ⟨by first | omega | exact Nat.le_refl _⟩, ⟨bk_ BK292.out⟩, ⟨bk_ BK293.out⟩, ⟨bk_ BK294.out⟩, ⟨bb_ HB.out⟩⟩
  ·replace c8 := Bool.eq_false_iff.mpr c8
   subst c8
   have H1 : (spec_MultiplyMatrices.j0 k true a0_0 a0_1 l0_2 a1_0 a1_1 l1_2) = some (r1, r2, r3, r4) := by rw [if_neg (show ¬ (false = true) by decide)] at H; exact H
   clear H
   have H := H1
   clear H1
   have H' := am_ H
   clear H
   have hnb17 := NB292_293.out
   have hnc17 := NB293_292.out
   have hnb18 := NB292_294.out
   have hnc18 := NB294_292.out
   have hcz19_0 : w6.cell? ⟨gb292, 0, none⟩ = some (.int .i64 a0_0) := bc_ BK292 0
   have hcz19_1 : w6.cell? ⟨gb292, 1, none⟩ = some (.int .i64 a0_1) := bc_ BK292 1
   have hcz19_2 : w6.cell? ⟨gb292, 2, none⟩ = some (.slice A0_2 l0_2.length c0_2) := bc_ BK292 2
   have hfz19_0 := blk_frozen BK292.out 0
   have hfz19_1 := blk_frozen BK292.out 1
   have hfz19_2 := blk_frozen BK292.out 2
   go_wp2_with (first | ((with_reducible refine gate_callee (f := 23) rfl ?_); refine goesL_ (some 9) rfl rfl Try.func23 (by kernel_rfl) rfl #[.agg #[.int .i64 a0_0, .int .i64 a0_1, .slice A0_2 l0_2.length c0_2]] rfl lm_ ?_; (with_reducible refine (spec_IsMatrix.calls k a0_0 a0_1 _ _ l0_2 false _ ?side1 ?side2 A7.out).mono ?_); (case side1 => repeat (first | exact (Kd.C_below HR0_2.out HB.out) | (with_reducible refine Kd.C_alloc ?_ _) | (with_reducible refine Kd.C_drewN ?_ _) | (with_reducible refine Kd.C_drew ?_))); (case side2 => exact HC0_2.out); rintro e w20 ⟨rfl, hb⟩; refine ⟨_, rfl, ?_⟩; have n0_ := am_ (bw_ BK292 hb); have n1_ := am_ (bw_ BK293 hb); have n2_ := am_ (bw_ BK294 hb); have n3_ := am_ (below_step (bb_ HB.out) hb); clear BK292 BK293 BK294 HB; revert n0_ n1_ n2_ n3_; intro BK292 BK293 BK294 HB; (try clear hb); (try clear hb2); (try clear hk); (try clear hi)))
   go_meet
   case rel => exact ⟨_, (true), (by first | rfl | (simp; done) | (simp [*]; done)), H', ⟨by first | omega | exact Nat.le_refl _⟩, ⟨bk_ BK292.out⟩, ⟨bk_ BK293.out⟩, ⟨bk_ BK294.out⟩, ⟨bb_ HB.out⟩⟩
 case rest =>
  clear HC3
  try clear c1
  try clear c2
  try clear p2
  try clear c8
  try clear c10
  try clear c11
  try clear c14
  try clear c17
  try clear c18
  try clear hcz12_0
  try clear hcz12_1
  try clear hcz12_2
  try clear hcz15_0
  try clear hcz15_1
  try clear hcz15_2
  try clear hcz19_0
  try clear hcz19_1
  try clear hcz19_2
  try clear hfz12_0
  try clear hfz12_1
  try clear hfz12_2
  try clear hfz15_0
  try clear hfz15_1
  try clear hfz15_2
  try clear hfz19_0
  try clear hfz19_1
  try clear hfz19_2
  obtain ⟨kq, x15_2, rfl, HA, HJ2, BK292, BK293, BK294, HB⟩ := hcut
  cases kq with
  | zero => exact absurd HA.out (by simp [spec_MultiplyMatrices.j0])
  | succ kj2 =>
   have H := HA.out
   clear HA
   simp only [spec_MultiplyMatrices.j0] at H
   by_cases c21 : x15_2 = true
   ·subst c21
    have H1 : (some (0, 0, ([] : List Int), 1)) = some (r1, r2, r3, r4) := by rw [if_pos rfl] at H; exact H
    clear H
    have H := H1
    clear H1
    simp only [Option.some.injEq, Prod.mk.injEq] at H
    obtain ⟨rfl, rfl, rfl, rfl⟩ := H
    have hnb22 := NB294_292.out
    have hnc22 := NB292_294.out
    have hnb23 := NB294_293.out
    have hnc23 := NB293_294.out
    have hcz24_0 : wc.cell? ⟨gb294, 0, none⟩ = some (.int .i64 0) := bc_ BK294 0
    have hcz24_1 : wc.cell? ⟨gb294, 1, none⟩ = some (.int .i64 0) := bc_ BK294 1
    have hcz24_2 : wc.cell? ⟨gb294, 2, none⟩ = some (.slice none 0 0) := bc_ BK294 2
    have hfz24_0 := blk_frozen BK294.out 0
    have hfz24_1 := blk_frozen BK294.out 1
    have hfz24_2 := blk_frozen BK294.out 2
    go_wp2
    refine bodyPost_ret (results_ct rfl _ _ gb294 28 #[.int .i64 0, .int .i64 0, .slice none 0 0] (0, 0) _ rfl (by (with_reducible repeat (first | refine blk_drewN ?_ _ | refine blk_drew ?_ | refine blk_alloc ?_ _)); refine blk_put (cs := #[.int .i64 0, .int .i64 0, .slice none 0 0]) ?_ 2 _ rfl; (with_reducible repeat (first | refine blk_drewN ?_ _ | refine blk_drew ?_ | refine blk_alloc ?_ _)); refine blk_put (cs := #[.int .i64 0, .int .i64 0, .slice none 0 0]) ?_ 1 _ rfl; (with_reducible repeat (first | refine blk_drewN ?_ _ | refine blk_drew ?_ | refine blk_alloc ?_ _)); refine blk_put (cs := #[.int .i64 0, .int .i64 0, .slice none 0 0]) ?_ 0 _ rfl; (with_reducible repeat (first | refine blk_drewN ?_ _ | refine blk_drew ?_ | refine blk_alloc ?_ _)); exact BK294.out) Try.underlying28 rfl (by kernel_rfl)) rfl ?_
    exact ⟨_, by first | rfl | (simp [errW_none, errW_some] <;> rfl) | (simp [*, errW_none, errW_some] <;> rfl), by first | exact Kd.R_nil _ _ _ _ _ | exact Kd.N_nil _ _ _ _ _ | exact Kd.V_nil _ _ _ _ _ | exact Kd.Q_nil _ _ _ _ _ | exact Kd.S_nil _ _ _ _ _, bb_ HB.out⟩
   ·replace c21 := Bool.eq_false_iff.mpr c21
    subst c21
    have H1 : (if a0_1 = a1_0 then ((spec_l01Multiply.f kj2 a0_0 a0_1 l0_2 a1_0 a1_1 l1_2).bind fun bt297 => (if bt297.2.2.2 = true then (some (bt297.1, bt297.2.1, bt297.2.2.1, 0)) else (some (0, 0, ([] : List Int), 3)))) else (some (0, 0, ([] : List Int), 2))) = some (r1, r2, r3, r4) := by rw [if_neg (show ¬ (false = true) by decide)] at H; exact H
    clear H
    have H := H1
    clear H1
    by_cases c25 : a0_1 = a1_0
    ·rw [if_pos c25] at H
     have c25b0 : (a0_1 == a1_0) = true := beq_iff_eq.mpr c25
     have c25b1 : (a0_1 != a1_0) = false := bne_eq_false_iff_eq.mpr c25
     clear c25
     replace H := Option.bind_eq_some_iff.mp H
     obtain ⟨⟨t297, t298, t299, t302⟩, A260, H⟩ := H
     replace H : (if t302 = true then (some (t297, t298, t299, 0)) else (some (0, 0, ([] : List Int), 3))) = some (r1, r2, r3, r4) := H
     have A26 := am_ A260
     clear A260
     by_cases c27 : t302 = true
     ·subst c27
      have H1 : (some (t297, t298, t299, 0)) = some (r1, r2, r3, r4) := by rw [if_pos rfl] at H; exact H
      clear H
      have H := H1
      clear H1
      simp only [Option.some.injEq, Prod.mk.injEq] at H
      obtain ⟨rfl, rfl, rfl, rfl⟩ := H
      have hnb28 := NB292_293.out
      have hnc28 := NB293_292.out
      have hnb29 := NB292_294.out
      have hnc29 := NB294_292.out
      have hcz30_0 : wc.cell? ⟨gb292, 0, none⟩ = some (.int .i64 a0_0) := bc_ BK292 0
      have hcz30_1 : wc.cell? ⟨gb292, 1, none⟩ = some (.int .i64 a0_1) := bc_ BK292 1
      have hcz30_2 : wc.cell? ⟨gb292, 2, none⟩ = some (.slice A0_2 l0_2.length c0_2) := bc_ BK292 2
      have hfz30_0 := blk_frozen BK292.out 0
      have hfz30_1 := blk_frozen BK292.out 1
      have hfz30_2 := blk_frozen BK292.out 2
      have hnb31 := NB293_294.out
      have hnc31 := NB294_293.out
      have hcz32_0 : wc.cell? ⟨gb293, 0, none⟩ = some (.int .i64 a1_0) := bc_ BK293 0
      have hcz32_1 : wc.cell? ⟨gb293, 1, none⟩ = some (.int .i64 a1_1) := bc_ BK293 1
      have hcz32_2 : wc.cell? ⟨gb293, 2, none⟩ = some (.slice A1_2 l1_2.length c1_2) := bc_ BK293 2
      have hfz32_0 := blk_frozen BK293.out 0
      have hfz32_1 := blk_frozen BK293.out 1
      have hfz32_2 := blk_frozen BK293.out 2
      go_wp2_with (first | ((with_reducible refine gate_callee (f := 39) rfl ?_); refine goesL_ (some 26) rfl rfl Try.func39 (by kernel_rfl) rfl #[.agg #[.int .i64 a0_0, .int .i64 a0_1, .slice A0_2 l0_2.length c0_2], .agg #[.int .i64 a1_0, .int .i64 a1_1, .slice A1_2 l1_2.length c1_2]] rfl lm_ ?_; (with_reducible refine (spec_l01Multiply.calls kj2 a0_0 a0_1 _ _ l0_2 a1_0 a1_1 _ _ l1_2 t297 t298 t299 true _ ?side1 ?side2 ?side3 ?side4 A26.out).mono ?_); (case side1 => repeat (first | exact (Kd.C_below HR0_2.out HB.out) | (with_reducible refine Kd.C_alloc ?_ _) | (with_reducible refine Kd.C_drewN ?_ _) | (with_reducible refine Kd.C_drew ?_))); (case side2 => exact HC0_2.out); (case side3 => repeat (first | exact (Kd.C_below HR1_2.out HB.out) | (with_reducible refine Kd.C_alloc ?_ _) | (with_reducible refine Kd.C_drewN ?_ _) | (with_reducible refine Kd.C_drew ?_))); (case side4 => exact HC1_2.out); rintro e w33 ⟨v300, rfl, ho0, hb⟩; refine ⟨_, rfl, ?_⟩; have n0_ := am_ (Kd.R_lower ho0 (below_size (bb_ HB.out))); have n1_ := am_ (bw_ BK292 hb); have n2_ := am_ (bw_ BK293 hb); have n3_ := am_ (bw_ BK294 hb); have n4_ := am_ (below_step (bb_ HB.out) hb); clear BK292 BK293 BK294 HB; revert n0_ n1_ n2_ n3_ n4_; intro HO301 BK292 BK293 BK294 HB; (try clear hb); (try clear hb2); (try clear hk); (try clear hi); (try clear ho0)) | ((with_reducible refine gate_dst (N := 6) rfl ?_); refine box_event ?hg (N := 6) ?hd (cs := #[.int .i64 0, .int .i64 0, .slice none 0 0]) (t := 28) ?hr ?_; (case hd => rfl); (case hg => rfl); (case hr => first | (go_simp; done) | (go_simp; rfl)); intro gb303 hg w34 hbox hb; have n0_ := am_ (Kd.R_below (rk_ HO301.out) hb); have n1_ := am_ (bw_ BK292 hb); have n2_ := am_ (bw_ BK293 hb); have n3_ := am_ (bw_ BK294 hb); have n4_ := am_ (below_step (bb_ HB.out) hb); have n5_ := am_ (hbox); have n6_ := am_ ((by rw [hg]; exact (below_size (bb_ HB.out)) : w.heap.size ≤ gb303)); have n7_ := am_ ((by rw [hg]; exact (below_size (bb_ HB.out)) : w.heap.size ≤ gb303)); have n8_ := am_ (nl_ BK292 hg); have n9_ := am_ (ng_ BK292 hg); have n10_ := am_ (nl_ BK293 hg); have n11_ := am_ (ng_ BK293 hg); have n12_ := am_ (nl_ BK294 hg); have n13_ := am_ (ng_ BK294 hg); clear HO301 BK292 BK293 BK294 HB; revert n0_ n1_ n2_ n3_ n4_ n5_ n6_ n7_ n8_ n9_ n10_ n11_ n12_ n13_; intro HO301 BK292 BK293 BK294 HB BK303 GW303 GE303 NB292_303 NB303_292 NB293_303 NB303_293 NB294_303 NB303_294; clear hb hbox hg; have hnb35 := NB303_292.out; have hnc35 := NB292_303.out; have hnb36 := NB303_293.out; have hnc36 := NB293_303.out; have hnb37 := NB303_294.out; have hnc37 := NB294_303.out; have hcz38_0 : w34.cell? ⟨gb303, 0, none⟩ = some (.int .i64 0) := bc_ BK303 0; have hcz38_1 : w34.cell? ⟨gb303, 1, none⟩ = some (.int .i64 0) := bc_ BK303 1; have hcz38_2 : w34.cell? ⟨gb303, 2, none⟩ = some (.slice none 0 0) := bc_ BK303 2; have hfz38_0 := blk_frozen BK303.out 0; have hfz38_1 := blk_frozen BK303.out 1; have hfz38_2 := blk_frozen BK303.out 2; obtain ⟨Ao39, co39, eo39⟩ := Kd.R_slice HO301.out; subst eo39; have hcz40_0 : w34.cell? ⟨gb294, 0, none⟩ = some (.int .i64 0) := bc_ BK294 0; have hcz40_1 : w34.cell? ⟨gb294, 1, none⟩ = some (.int .i64 0) := bc_ BK294 1; have hcz40_2 : w34.cell? ⟨gb294, 2, none⟩ = some (.slice none 0 0) := bc_ BK294 2; have hfz40_0 := blk_frozen BK294.out 0; have hfz40_1 := blk_frozen BK294.out 1; have hfz40_2 := blk_frozen BK294.out 2))
      refine bodyPost_ret (results_ct rfl _ _ gb294 28 #[.int .i64 t297, .int .i64 t298, .slice Ao39 t299.length co39] (0, 0) _ rfl (by (with_reducible repeat (first | refine blk_drewN ?_ _ | refine blk_drew ?_ | refine blk_alloc ?_ _)); refine blk_put (cs := #[.int .i64 t297, .int .i64 t298, .slice none 0 0]) ?_ 2 _ rfl; (with_reducible repeat (first | refine blk_drewN ?_ _ | refine blk_drew ?_ | refine blk_alloc ?_ _)); refine blk_put (cs := #[.int .i64 t297, .int .i64 0, .slice none 0 0]) ?_ 1 _ rfl; (with_reducible repeat (first | refine blk_drewN ?_ _ | refine blk_drew ?_ | refine blk_alloc ?_ _)); refine blk_put (cs := #[.int .i64 0, .int .i64 0, .slice none 0 0]) ?_ 0 _ rfl; (with_reducible repeat (first | refine blk_drewN ?_ _ | refine blk_drew ?_ | refine blk_alloc ?_ _)); refine blk_far ?_ NB294_303.out _; (with_reducible repeat (first | refine blk_drewN ?_ _ | refine blk_drew ?_ | refine blk_alloc ?_ _)); refine blk_far ?_ NB294_303.out _; (with_reducible repeat (first | refine blk_drewN ?_ _ | refine blk_drew ?_ | refine blk_alloc ?_ _)); refine blk_far ?_ NB294_303.out _; (with_reducible repeat (first | refine blk_drewN ?_ _ | refine blk_drew ?_ | refine blk_alloc ?_ _)); exact BK294.out) Try.underlying28 rfl (by kernel_rfl)) rfl ?_
      exact ⟨_, by first | rfl | (simp [errW_none, errW_some] <;> rfl) | (simp [*, errW_none, errW_some] <;> rfl), rm_ (Kd.R_far (p := ⟨gb294, 2, none⟩) (Kd.R_far (p := ⟨gb294, 1, none⟩) (Kd.R_far (p := ⟨gb294, 0, none⟩) (Kd.R_far (p := ⟨gb303, 2, none⟩) (Kd.R_far (p := ⟨gb303, 1, none⟩) (Kd.R_far (p := ⟨gb303, 0, none⟩) (Kd.R_types (Kd.R_types HO301.out BK303.out (by decide)) BK294.out (by decide)) (fun _ hk => hk.1.2) (.int .i64 t297)) (fun _ hk => hk.1.2) (.int .i64 t298)) (fun _ hk => hk.1.2) (.slice Ao39 t299.length co39)) (fun _ hk => hk.2) (.int .i64 t297)) (fun _ hk => hk.2) (.int .i64 t298)) (fun _ hk => hk.2) (.slice Ao39 t299.length co39)) (fun _ hk => trivial), bb_ HB.out⟩
     ·replace c27 := Bool.eq_false_iff.mpr c27
      subst c27
      have H1 : (some (0, 0, ([] : List Int), 3)) = some (r1, r2, r3, r4) := by rw [if_neg (show ¬ (false = true) by decide)] at H; exact H
      clear H
      have H := H1
      clear H1
      simp only [Option.some.injEq, Prod.mk.injEq] at H
      obtain ⟨rfl, rfl, rfl, rfl⟩ := H
      have hnb41 := NB292_293.out
      have hnc41 := NB293_292.out
      have hnb42 := NB292_294.out
      have hnc42 := NB294_292.out
      have hcz43_0 : wc.cell? ⟨gb292, 0, none⟩ = some (.int .i64 a0_0) := bc_ BK292 0
      have hcz43_1 : wc.cell? ⟨gb292, 1, none⟩ = some (.int .i64 a0_1) := bc_ BK292 1
      have hcz43_2 : wc.cell? ⟨gb292, 2, none⟩ = some (.slice A0_2 l0_2.length c0_2) := bc_ BK292 2
      have hfz43_0 := blk_frozen BK292.out 0
      have hfz43_1 := blk_frozen BK292.out 1
      have hfz43_2 := blk_frozen BK292.out 2
      have hnb44 := NB293_294.out
      have hnc44 := NB294_293.out
      have hcz45_0 : wc.cell? ⟨gb293, 0, none⟩ = some (.int .i64 a1_0) := bc_ BK293 0
      have hcz45_1 : wc.cell? ⟨gb293, 1, none⟩ = some (.int .i64 a1_1) := bc_ BK293 1
      have hcz45_2 : wc.cell? ⟨gb293, 2, none⟩ = some (.slice A1_2 l1_2.length c1_2) := bc_ BK293 2
      have hfz45_0 := blk_frozen BK293.out 0
      have hfz45_1 := blk_frozen BK293.out 1
      have hfz45_2 := blk_frozen BK293.out 2
      go_wp2_with (first | ((with_reducible refine gate_callee (f := 39) rfl ?_); refine goesL_ (some 26) rfl rfl Try.func39 (by kernel_rfl) rfl #[.agg #[.int .i64 a0_0, .int .i64 a0_1, .slice A0_2 l0_2.length c0_2], .agg #[.int .i64 a1_0, .int .i64 a1_1, .slice A1_2 l1_2.length c1_2]] rfl lm_ ?_; (with_reducible refine (spec_l01Multiply.calls kj2 a0_0 a0_1 _ _ l0_2 a1_0 a1_1 _ _ l1_2 t297 t298 t299 false _ ?side1 ?side2 ?side3 ?side4 A26.out).mono ?_); (case side1 => repeat (first | exact (Kd.C_below HR0_2.out HB.out) | (with_reducible refine Kd.C_alloc ?_ _) | (with_reducible refine Kd.C_drewN ?_ _) | (with_reducible refine Kd.C_drew ?_))); (case side2 => exact HC0_2.out); (case side3 => repeat (first | exact (Kd.C_below HR1_2.out HB.out) | (with_reducible refine Kd.C_alloc ?_ _) | (with_reducible refine Kd.C_drewN ?_ _) | (with_reducible refine Kd.C_drew ?_))); (case side4 => exact HC1_2.out); rintro e w46 ⟨v300, rfl, ho0, hb⟩; refine ⟨_, rfl, ?_⟩; have n0_ := am_ (Kd.R_lower ho0 (below_size (bb_ HB.out))); have n1_ := am_ (bw_ BK292 hb); have n2_ := am_ (bw_ BK293 hb); have n3_ := am_ (bw_ BK294 hb); have n4_ := am_ (below_step (bb_ HB.out) hb); clear BK292 BK293 BK294 HB; revert n0_ n1_ n2_ n3_ n4_; intro HO301 BK292 BK293 BK294 HB; (try clear hb); (try clear hb2); (try clear hk); (try clear hi); (try clear ho0)) | ((with_reducible refine gate_dst (N := 6) rfl ?_); refine box_event ?hg (N := 6) ?hd (cs := #[.int .i64 0, .int .i64 0, .slice none 0 0]) (t := 28) ?hr ?_; (case hd => rfl); (case hg => rfl); (case hr => first | (go_simp; done) | (go_simp; rfl)); intro gb303 hg w47 hbox hb; have n0_ := am_ (Kd.R_below (rk_ HO301.out) hb); have n1_ := am_ (bw_ BK292 hb); have n2_ := am_ (bw_ BK293 hb); have n3_ := am_ (bw_ BK294 hb); have n4_ := am_ (below_step (bb_ HB.out) hb); have n5_ := am_ (hbox); have n6_ := am_ ((by rw [hg]; exact (below_size (bb_ HB.out)) : w.heap.size ≤ gb303)); have n7_ := am_ ((by rw [hg]; exact (below_size (bb_ HB.out)) : w.heap.size ≤ gb303)); have n8_ := am_ (nl_ BK292 hg); have n9_ := am_ (ng_ BK292 hg); have n10_ := am_ (nl_ BK293 hg); have n11_ := am_ (ng_ BK293 hg); have n12_ := am_ (nl_ BK294 hg); have n13_ := am_ (ng_ BK294 hg); clear HO301 BK292 BK293 BK294 HB; revert n0_ n1_ n2_ n3_ n4_ n5_ n6_ n7_ n8_ n9_ n10_ n11_ n12_ n13_; intro HO301 BK292 BK293 BK294 HB BK303 GW303 GE303 NB292_303 NB303_292 NB293_303 NB303_293 NB294_303 NB303_294; clear hb hbox hg; have hnb48 := NB303_292.out; have hnc48 := NB292_303.out; have hnb49 := NB303_293.out; have hnc49 := NB293_303.out; have hnb50 := NB303_294.out; have hnc50 := NB294_303.out; have hcz51_0 : w47.cell? ⟨gb303, 0, none⟩ = some (.int .i64 0) := bc_ BK303 0; have hcz51_1 : w47.cell? ⟨gb303, 1, none⟩ = some (.int .i64 0) := bc_ BK303 1; have hcz51_2 : w47.cell? ⟨gb303, 2, none⟩ = some (.slice none 0 0) := bc_ BK303 2; have hfz51_0 := blk_frozen BK303.out 0; have hfz51_1 := blk_frozen BK303.out 1; have hfz51_2 := blk_frozen BK303.out 2; obtain ⟨Ao52, co52, eo52⟩ := Kd.R_slice HO301.out; subst eo52; have hcz53_0 : w47.cell? ⟨gb294, 0, none⟩ = some (.int .i64 0) := bc_ BK294 0; have hcz53_1 : w47.cell? ⟨gb294, 1, none⟩ = some (.int .i64 0) := bc_ BK294 1; have hcz53_2 : w47.cell? ⟨gb294, 2, none⟩ = some (.slice none 0 0) := bc_ BK294 2; have hfz53_0 := blk_frozen BK294.out 0; have hfz53_1 := blk_frozen BK294.out 1; have hfz53_2 := blk_frozen BK294.out 2))
      refine bodyPost_ret (results_ct rfl _ _ gb294 28 #[.int .i64 0, .int .i64 0, .slice none 0 0] (0, 0) _ rfl (by (with_reducible repeat (first | refine blk_drewN ?_ _ | refine blk_drew ?_ | refine blk_alloc ?_ _)); refine blk_put (cs := #[.int .i64 0, .int .i64 0, .slice none 0 0]) ?_ 2 _ rfl; (with_reducible repeat (first | refine blk_drewN ?_ _ | refine blk_drew ?_ | refine blk_alloc ?_ _)); refine blk_put (cs := #[.int .i64 0, .int .i64 0, .slice none 0 0]) ?_ 1 _ rfl; (with_reducible repeat (first | refine blk_drewN ?_ _ | refine blk_drew ?_ | refine blk_alloc ?_ _)); refine blk_put (cs := #[.int .i64 0, .int .i64 0, .slice none 0 0]) ?_ 0 _ rfl; (with_reducible repeat (first | refine blk_drewN ?_ _ | refine blk_drew ?_ | refine blk_alloc ?_ _)); refine blk_far ?_ NB294_303.out _; (with_reducible repeat (first | refine blk_drewN ?_ _ | refine blk_drew ?_ | refine blk_alloc ?_ _)); refine blk_far ?_ NB294_303.out _; (with_reducible repeat (first | refine blk_drewN ?_ _ | refine blk_drew ?_ | refine blk_alloc ?_ _)); refine blk_far ?_ NB294_303.out _; (with_reducible repeat (first | refine blk_drewN ?_ _ | refine blk_drew ?_ | refine blk_alloc ?_ _)); exact BK294.out) Try.underlying28 rfl (by kernel_rfl)) rfl ?_
      exact ⟨_, by first | rfl | (simp [errW_none, errW_some] <;> rfl) | (simp [*, errW_none, errW_some] <;> rfl), by first | exact Kd.R_nil _ _ _ _ _ | exact Kd.N_nil _ _ _ _ _ | exact Kd.V_nil _ _ _ _ _ | exact Kd.Q_nil _ _ _ _ _ | exact Kd.S_nil _ _ _ _ _, bb_ HB.out⟩
    ·rw [if_neg c25] at H
     have c25b0 : (a0_1 == a1_0) = false := beq_eq_false_iff_ne.mpr c25
     have c25b1 : (a0_1 != a1_0) = true := bne_iff_ne.mpr c25
     simp only [Option.some.injEq, Prod.mk.injEq] at H
     obtain ⟨rfl, rfl, rfl, rfl⟩ := H
     have hnb54 := NB292_293.out
     have hnc54 := NB293_292.out
     have hnb55 := NB292_294.out
     have hnc55 := NB294_292.out
     have hcz56_0 : wc.cell? ⟨gb292, 0, none⟩ = some (.int .i64 a0_0) := bc_ BK292 0
     have hcz56_1 : wc.cell? ⟨gb292, 1, none⟩ = some (.int .i64 a0_1) := bc_ BK292 1
     have hcz56_2 : wc.cell? ⟨gb292, 2, none⟩ = some (.slice A0_2 l0_2.length c0_2) := bc_ BK292 2
     have hfz56_0 := blk_frozen BK292.out 0
     have hfz56_1 := blk_frozen BK292.out 1
     have hfz56_2 := blk_frozen BK292.out 2
     have hnb57 := NB293_294.out
     have hnc57 := NB294_293.out
     have hcz58_0 : wc.cell? ⟨gb293, 0, none⟩ = some (.int .i64 a1_0) := bc_ BK293 0
     have hcz58_1 : wc.cell? ⟨gb293, 1, none⟩ = some (.int .i64 a1_1) := bc_ BK293 1
     have hcz58_2 : wc.cell? ⟨gb293, 2, none⟩ = some (.slice A1_2 l1_2.length c1_2) := bc_ BK293 2
     have hfz58_0 := blk_frozen BK293.out 0
     have hfz58_1 := blk_frozen BK293.out 1
     have hfz58_2 := blk_frozen BK293.out 2
     have hcz59_0 : wc.cell? ⟨gb294, 0, none⟩ = some (.int .i64 0) := bc_ BK294 0
     have hcz59_1 : wc.cell? ⟨gb294, 1, none⟩ = some (.int .i64 0) := bc_ BK294 1
     have hcz59_2 : wc.cell? ⟨gb294, 2, none⟩ = some (.slice none 0 0) := bc_ BK294 2
     have hfz59_0 := blk_frozen BK294.out 0
     have hfz59_1 := blk_frozen BK294.out 1
     have hfz59_2 := blk_frozen BK294.out 2
     go_wp2
     refine bodyPost_ret (results_ct rfl _ _ gb294 28 #[.int .i64 0, .int .i64 0, .slice none 0 0] (0, 0) _ rfl (by (with_reducible repeat (first | refine blk_drewN ?_ _ | refine blk_drew ?_ | refine blk_alloc ?_ _)); refine blk_put (cs := #[.int .i64 0, .int .i64 0, .slice none 0 0]) ?_ 2 _ rfl; (with_reducible repeat (first | refine blk_drewN ?_ _ | refine blk_drew ?_ | refine blk_alloc ?_ _)); refine blk_put (cs := #[.int .i64 0, .int .i64 0, .slice none 0 0]) ?_ 1 _ rfl; (with_reducible repeat (first | refine blk_drewN ?_ _ | refine blk_drew ?_ | refine blk_alloc ?_ _)); refine blk_put (cs := #[.int .i64 0, .int .i64 0, .slice none 0 0]) ?_ 0 _ rfl; (with_reducible repeat (first | refine blk_drewN ?_ _ | refine blk_drew ?_ | refine blk_alloc ?_ _)); exact BK294.out) Try.underlying28 rfl (by kernel_rfl)) rfl ?_
     exact ⟨_, by first | rfl | (simp [errW_none, errW_some] <;> rfl) | (simp [*, errW_none, errW_some] <;> rfl), by first | exact Kd.R_nil _ _ _ _ _ | exact Kd.N_nil _ _ _ _ _ | exact Kd.V_nil _ _ _ _ _ | exact Kd.Q_nil _ _ _ _ _ | exact Kd.S_nil _ _ _ _ _, bb_ HB.out⟩

/-! ### impl_Transpose: function 15 -/
mutual
def impl_Transpose.l0 : Nat → Int → Int → Int → Int → List Int → Int → Int → List Int → Option (Int × Int × List Int)
 | 0, _, _, _, _, _, _, _, _ => none
 | k + 1, x16, x17, x305000, x305001, x305002, x313000, x313001, x313002 => if x17 < x16 then (impl_Transpose.l1 k x17 x16 x17 x305001 0 x305000 x305001 x305002 x313000 x313001 x313002) else (some (x313000, x313001, x313002))
def impl_Transpose.l1 : Nat → Int → Int → Int → Int → Int → Int → Int → List Int → Int → Int → List Int → Option (Int × Int × List Int)
 | 0, _, _, _, _, _, _, _, _, _, _, _ => none
 | k + 1, x4, x16, x17, x21, x22, x305000, x305001, x305002, x313000, x313001, x313002 => if x22 < x21 then ((impl_Matrix_at.f x313000 x313001 x313002 x22 x4).bind fun t313 => ((impl_Matrix_at.f x305000 x305001 x305002 x4 x22).bind fun t314 => (if 0 ≤ t314 then (if t314 < (x305002.length : Int) then (if 0 ≤ t313 then (if t313 < (x313002.length : Int) then (impl_Transpose.l1 k x4 x16 x17 x21 (wrap64 (x22 + 1)) x305000 x305001 x305002 x313000 x313001 (x313002.set (t313 : Int).toNat (rd x305002 t314))) else (none)) else (none)) else (none)) else (none)))) else (impl_Transpose.l0 k x16 (wrap64 (x17 + 1)) x305000 x305001 x305002 x313000 x313001 x313002)
end
def impl_Transpose.f (k : Nat) (a0_0 : Int) (a0_1 : Int) (l0_2 : List Int) : Option (Int × Int × List Int) := (impl_isMatrix.f a0_0 a0_1 l0_2).bind fun t306 => (if t306 = true then ((impl_zeroMatrix.f a0_1 a0_0).bind fun bt307 => (impl_Transpose.l0 k a0_0 0 a0_0 a0_1 l0_2 bt307.1 bt307.2.1 bt307.2.2)) else (some (0, 0, ([] : List Int))))
theorem impl_Transpose.mono_l : ∀ k, (∀ y0 y1 y2 y3 y4 y5 y6 y7, LeO (impl_Transpose.l0 k y0 y1 y2 y3 y4 y5 y6 y7) (impl_Transpose.l0 (k + 1) y0 y1 y2 y3 y4 y5 y6 y7)) ∧ (∀ y0 y1 y2 y3 y4 y5 y6 y7 y8 y9 y10, LeO (impl_Transpose.l1 k y0 y1 y2 y3 y4 y5 y6 y7 y8 y9 y10) (impl_Transpose.l1 (k + 1) y0 y1 y2 y3 y4 y5 y6 y7 y8 y9 y10))
 | 0 => ⟨fun _ _ _ _ _ _ _ _ r h => by simp [impl_Transpose.l0] at h, fun _ _ _ _ _ _ _ _ _ _ _ r h => by simp [impl_Transpose.l1] at h⟩
 | k + 1 => by
  obtain ⟨ih0, ih1⟩ := impl_Transpose.mono_l k
  refine ⟨?_, ?_⟩
  ·intro y0 y1 y2 y3 y4 y5 y6 y7
   unfold impl_Transpose.l0
   repeat' first
   | (with_reducible exact ih0 _ _ _ _ _ _ _ _)
   | (with_reducible exact ih1 _ _ _ _ _ _ _ _ _ _ _)
   | (with_reducible exact LeO.refl _)
   | (with_reducible exact LeO.none _)
   | (with_reducible refine LeO.ite ?_ ?_)
   | (with_reducible refine LeO.bind ?_ (fun _ => ?_))
   | exact ih0 _ _ _ _ _ _ _ _
   | exact ih1 _ _ _ _ _ _ _ _ _ _ _
   | exact LeO.none _
   | refine LeO.ite ?_ ?_
   | refine LeO.bind ?_ (fun _ => ?_)
  ·intro y0 y1 y2 y3 y4 y5 y6 y7 y8 y9 y10
   unfold impl_Transpose.l1
   repeat' first
   | (with_reducible exact ih0 _ _ _ _ _ _ _ _)
   | (with_reducible exact ih1 _ _ _ _ _ _ _ _ _ _ _)
   | (with_reducible exact LeO.refl _)
   | (with_reducible exact LeO.none _)
   | (with_reducible refine LeO.ite ?_ ?_)
   | (with_reducible refine LeO.bind ?_ (fun _ => ?_))
   | exact ih0 _ _ _ _ _ _ _ _
   | exact ih1 _ _ _ _ _ _ _ _ _ _ _
   | exact LeO.none _
   | refine LeO.ite ?_ ?_
   | refine LeO.bind ?_ (fun _ => ?_)
theorem impl_Transpose.mono : ∀ a0 a1 a2 k, LeO (impl_Transpose.f k a0 a1 a2) (impl_Transpose.f (k + 1) a0 a1 a2) := by
 intro a0 a1 a2 k
 obtain ⟨ih0, ih1⟩ := impl_Transpose.mono_l k
 unfold impl_Transpose.f
 repeat' first
   | (with_reducible exact ih0 _ _ _ _ _ _ _ _)
   | (with_reducible exact ih1 _ _ _ _ _ _ _ _ _ _ _)
   | (with_reducible exact LeO.refl _)
   | (with_reducible exact LeO.none _)
   | (with_reducible refine LeO.ite ?_ ?_)
   | (with_reducible refine LeO.bind ?_ (fun _ => ?_))
   | exact ih0 _ _ _ _ _ _ _ _
   | exact ih1 _ _ _ _ _ _ _ _ _ _ _
   | exact LeO.none _
   | refine LeO.ite ?_ ?_
   | refine LeO.bind ?_ (fun _ => ?_)
def impl_Transpose.T10 : Bool × List (List Nat × List Nat) := (true, [([], []), ([], []), ([], []), ([0, 1, 2], [0, 1, 2]), ([], []), ([], []), ([], []), ([4, 5, 6, 3], [4, 5, 6]), ([7], [7]), ([8], [8]), ([3, 0, 1, 2, 3, 4, 5, 6, 7, 8, 9], [3]), ([10, 9, 7, 0, 1, 2, 3, 4, 5, 6, 7, 8, 9], [9, 10])])
def impl_Transpose.B10 : List Nat := [0, 0, 0, 7, 0, 0, 0, 127, 255, 511, 1023, 2047]
theorem impl_Transpose.tab10 : rtab .any (opsOf Try.f15 10) = impl_Transpose.T10 := by kernel_rfl
theorem impl_Transpose.bits10 : waitsOk impl_Transpose.T10.2 impl_Transpose.B10 = true := by kernel_rfl
set_option maxHeartbeats 8000000 in
set_option maxRecDepth 100000 in
theorem impl_Transpose.calls (k : Nat) (a0_0 : Int) (a0_1 : Int) (A0_2 : Option Addr) (c0_2 : Nat) (l0_2 : List Int) (r1 : Int) (r2 : Int) (r3 : List Int) (w : World) (hr0_2 : Kd.C (Kd.int .i64) w A0_2 l0_2.length l0_2) (hc0_2 : l0_2.length ≤ c0_2) (h : impl_Transpose.f k a0_0 a0_1 l0_2 = some (r1, r2, r3)) :
  Calls Try.prog 15 #[.agg #[.int .i64 a0_0, .int .i64 a0_1, .slice A0_2 l0_2.length c0_2]] w fun e w' => ∃ v2_ : Value, e = .returned (.agg #[.int .i64 r1, .int .i64 r2, v2_]) ∧ Kd.R (Kd.int .i64) 2 w' w.heap.size (fun _ => True) v2_ r3 ∧ Below w.heap.size w w' := by
 have hu28 := Try.underlying28
 have HR0_2 := am_ hr0_2
 have HC0_2 := am_ hc0_2
 clear hr0_2 hc0_2
 have HB := am_ (Below.refl w.heap.size w)
 have H : ((impl_isMatrix.f a0_0 a0_1 l0_2).bind fun t306 => (if t306 = true then ((impl_zeroMatrix.f a0_1 a0_0).bind fun bt307 => (impl_Transpose.l0 k a0_0 0 a0_0 a0_1 l0_2 bt307.1 bt307.2.1 bt307.2.2)) else (some (0, 0, ([] : List Int))))) = some (r1, r2, r3) := h
 clear h
 replace H := Option.bind_eq_some_iff.mp H
 obtain ⟨t306, A20, H⟩ := H
 replace H : (if t306 = true then ((impl_zeroMatrix.f a0_1 a0_0).bind fun bt307 => (impl_Transpose.l0 k a0_0 0 a0_0 a0_1 l0_2 bt307.1 bt307.2.1 bt307.2.2)) else (some (0, 0, ([] : List Int)))) = some (r1, r2, r3) := H
 have A2 := am_ A20
 clear A20
 by_cases c3 : t306 = true
 ·subst c3
  have H1 : ((impl_zeroMatrix.f a0_1 a0_0).bind fun bt307 => (impl_Transpose.l0 k a0_0 0 a0_0 a0_1 l0_2 bt307.1 bt307.2.1 bt307.2.2)) = some (r1, r2, r3) := by rw [if_pos rfl] at H; exact H
  clear H
  have H := H1
  clear H1
  replace H := Option.bind_eq_some_iff.mp H
  obtain ⟨⟨t307, t308, t309⟩, A40, H⟩ := H
  replace H : (impl_Transpose.l0 k a0_0 0 a0_0 a0_1 l0_2 t307 t308 t309) = some (r1, r2, r3) := H
  have A4 := am_ A40
  clear A40
  have H' := am_ H
  clear H
  go_enter Try.func15, Try.ntmps15
  go_wp2_with (first | ((with_reducible refine gate_dst (N := 1) rfl ?_); refine box_event ?hg (N := 1) ?hd (cs := #[.int .i64 a0_0, .int .i64 a0_1, .slice A0_2 l0_2.length c0_2]) (t := 28) ?hr ?_; (case hd => rfl); (case hg => rfl); (case hr => first | (go_simp; done) | (go_simp; rfl)); intro gb304 hg w5 hbox hb; have n0_ := am_ (below_step (bb_ HB.out) hb); have n1_ := am_ (hbox); have n2_ := am_ ((by rw [hg]; exact (below_size (bb_ HB.out)) : w.heap.size ≤ gb304)); have n3_ := am_ ((by rw [hg]; exact (below_size (bb_ HB.out)) : w.heap.size ≤ gb304)); clear HB; revert n0_ n1_ n2_ n3_; intro HB BK304 GW304 GE304; clear hb hbox hg) | ((with_reducible refine gate_dst (N := 2) rfl ?_); refine box_event ?hg (N := 2) ?hd (cs := #[.int .i64 0, .int .i64 0, .slice none 0 0]) (t := 28) ?hr ?_; (case hd => rfl); (case hg => rfl); (case hr => first | (go_simp; done) | (go_simp; rfl)); intro gb305 hg w6 hbox hb; have n0_ := am_ (bw_ BK304 hb); have n1_ := am_ (below_step (bb_ HB.out) hb); have n2_ := am_ (hbox); have n3_ := am_ ((by rw [hg]; exact (below_size (bb_ HB.out)) : w.heap.size ≤ gb305)); have n4_ := am_ ((by rw [hg]; exact (below_size (bb_ HB.out)) : w.heap.size ≤ gb305)); have n5_ := am_ (nl_ BK304 hg); have n6_ := am_ (ng_ BK304 hg); clear BK304 HB; revert n0_ n1_ n2_ n3_ n4_ n5_ n6_; intro BK304 HB BK305 GW305 GE305 NB304_305 NB305_304; clear hb hbox hg; have hnb7 := NB304_305.out; have hnc7 := NB305_304.out; have hcz8_0 : w6.cell? ⟨gb304, 0, none⟩ = some (.int .i64 a0_0) := bc_ BK304 0; have hcz8_1 : w6.cell? ⟨gb304, 1, none⟩ = some (.int .i64 a0_1) := bc_ BK304 1; have hcz8_2 : w6.cell? ⟨gb304, 2, none⟩ = some (.slice A0_2 l0_2.length c0_2) := bc_ BK304 2; have hfz8_0 := blk_frozen BK304.out 0; have hfz8_1 := blk_frozen BK304.out 1; have hfz8_2 := blk_frozen BK304.out 2) | ((with_reducible refine gate_callee (f := 27) rfl ?_); refine goesL_ (some 7) rfl rfl Try.func27 (by kernel_rfl) rfl #[.agg #[.int .i64 a0_0, .int .i64 a0_1, .slice A0_2 l0_2.length c0_2]] rfl lm_ ?_; (with_reducible refine (impl_isMatrix.calls a0_0 a0_1 _ _ l0_2 true _ ?side1 ?side2 A2.out).mono ?_); (case side1 => repeat (first | exact (Kd.C_below HR0_2.out HB.out) | (with_reducible refine Kd.C_alloc ?_ _) | (with_reducible refine Kd.C_drewN ?_ _) | (with_reducible refine Kd.C_drew ?_))); (case side2 => exact HC0_2.out); rintro e w9 ⟨rfl, hb⟩; refine ⟨_, rfl, ?_⟩; have n0_ := am_ (bw_ BK304 hb); have n1_ := am_ (bw_ BK305 hb); have n2_ := am_ (below_step (bb_ HB.out) hb); clear BK304 BK305 HB; revert n0_ n1_ n2_; intro BK304 BK305 HB; (try clear hb); (try clear hb2); (try clear hk); (try clear hi); have hcz10_0 : w9.cell? ⟨gb304, 0, none⟩ = some (.int .i64 a0_0) := bc_ BK304 0; have hcz10_1 : w9.cell? ⟨gb304, 1, none⟩ = some (.int .i64 a0_1) := bc_ BK304 1; have hcz10_2 : w9.cell? ⟨gb304, 2, none⟩ = some (.slice A0_2 l0_2.length c0_2) := bc_ BK304 2; have hfz10_0 := blk_frozen BK304.out 0; have hfz10_1 := blk_frozen BK304.out 1; have hfz10_2 := blk_frozen BK304.out 2) | ((with_reducible refine gate_callee (f := 36) rfl ?_); refine goesL_ (some 14) rfl rfl Try.func36 (by kernel_rfl) rfl #[.int .i64 a0_1, .int .i64 a0_0] rfl lm_ ?_; (with_reducible refine (impl_zeroMatrix.calls a0_1 a0_0 t307 t308 t309 _ A4.out).mono ?_); rintro e w11 ⟨v310, rfl, ho0, hb⟩; refine ⟨_, rfl, ?_⟩; have n0_ := am_ (Kd.R_lower ho0 (below_size (bb_ HB.out))); have n1_ := am_ (bw_ BK304 hb); have n2_ := am_ (bw_ BK305 hb); have n3_ := am_ (below_step (bb_ HB.out) hb); clear BK304 BK305 HB; revert n0_ n1_ n2_ n3_; intro HO311 BK304 BK305 HB; (try clear hb); (try clear hb2); (try clear hk); (try clear hi); (try clear ho0)) | ((with_reducible refine gate_dst (N := 3) rfl ?_); refine box_event ?hg (N := 3) ?hd (cs := #[.int .i64 0, .int .i64 0, .slice none 0 0]) (t := 28) ?hr ?_; (case hd => rfl); (case hg => rfl); (case hr => first | (go_simp; done) | (go_simp; rfl)); intro gb312 hg w12 hbox hb; have n0_ := am_ (Kd.R_below (rk_ HO311.out) hb); have n1_ := am_ (bw_ BK304 hb); have n2_ := am_ (bw_ BK305 hb); have n3_ := am_ (below_step (bb_ HB.out) hb); have n4_ := am_ (hbox); have n5_ := am_ ((by rw [hg]; exact (below_size (bb_ HB.out)) : w.heap.size ≤ gb312)); have n6_ := am_ ((by rw [hg]; exact (below_size (bb_ HB.out)) : w.heap.size ≤ gb312)); have n7_ := am_ (nl_ BK304 hg); have n8_ := am_ (ng_ BK304 hg); have n9_ := am_ (nl_ BK305 hg); have n10_ := am_ (ng_ BK305 hg); clear HO311 BK304 BK305 HB; revert n0_ n1_ n2_ n3_ n4_ n5_ n6_ n7_ n8_ n9_ n10_; intro HO311 BK304 BK305 HB BK312 GW312 GE312 NB304_312 NB312_304 NB305_312 NB312_305; clear hb hbox hg; have hnb13 := NB312_304.out; have hnc13 := NB304_312.out; have hnb14 := NB312_305.out; have hnc14 := NB305_312.out; have hcz15_0 : w12.cell? ⟨gb312, 0, none⟩ = some (.int .i64 0) := bc_ BK312 0; have hcz15_1 : w12.cell? ⟨gb312, 1, none⟩ = some (.int .i64 0) := bc_ BK312 1; have hcz15_2 : w12.cell? ⟨gb312, 2, none⟩ = some (.slice none 0 0) := bc_ BK312 2; have hfz15_0 := blk_frozen BK312.out 0; have hfz15_1 := blk_frozen BK312.out 1; have hfz15_2 := blk_frozen BK312.out 2; obtain ⟨Ao16, co16, eo16⟩ := Kd.R_slice HO311.out; subst eo16; have hcz17_0 : w12.cell? ⟨gb304, 0, none⟩ = some (.int .i64 a0_0) := bc_ BK304 0; have hcz17_1 : w12.cell? ⟨gb304, 1, none⟩ = some (.int .i64 a0_1) := bc_ BK304 1; have hcz17_2 : w12.cell? ⟨gb304, 2, none⟩ = some (.slice A0_2 l0_2.length c0_2) := bc_ BK304 2; have hfz17_0 := blk_frozen BK304.out 0; have hfz17_1 := blk_frozen BK304.out 1; have hfz17_2 := blk_frozen BK304.out 2))
  go_loopg [17] k (fun kq v17 w' => ∃ (x17_1 : Int) (x313002_1 : List Int) (u313002 : Value), v17 = .int .i64 x17_1 ∧ Aside0 (impl_Transpose.l0 kq a0_0 x17_1 a0_0 a0_1 l0_2 t307 t308 x313002_1 = some (r1, r2, r3)) ∧ Aside0 (kq ≤ k) ∧ Aside0 (Kd.R (Kd.int .i64) 2 w' w.heap.size (fun _ => True) u313002 x313002_1) ∧ Aside0 (w'.heap[gb304]? = some (.cells #[.int .i64 a0_0, .int .i64 a0_1, (.slice A0_2 l0_2.length c0_2)] 28 (0, 0))) ∧ Aside0 (w'.heap[gb305]? = some (.cells #[.int .i64 0, .int .i64 0, (.slice none 0 0)] 28 (0, 0))) ∧ Aside0 (w'.heap[gb312]? = some (.cells #[.int .i64 t307, .int .i64 t308, u313002] 28 (0, 0))) ∧ Aside0 (Below w.heap.size w w'))
  case atStart => exact ⟨(0), (t309), (.slice Ao16 t309.length co16), (by first | rfl | (simp; done) | (simp [*]; done)), H', ⟨Nat.le_refl _⟩, ⟨rm_ (Kd.R_far (p := ⟨gb312, 2, none⟩) (Kd.R_far (p := ⟨gb312, 1, none⟩) (Kd.R_far (p := ⟨gb312, 0, none⟩) (Kd.R_types HO311.out BK312.out (by decide)) (fun _ hk => hk.2) (.int .i64 t307)) (fun _ hk => hk.2) (.int .i64 t308)) (fun _ hk => hk.2) (.slice Ao16 t309.length co16)) (fun _ hk => trivial)⟩, ⟨bk_ BK304.out⟩, ⟨bk_ BK305.out⟩, ⟨by (with_reducible repeat (first | refine blk_drewN ?_ _ | refine blk_drew ?_ | refine blk_alloc ?_ _)); refine blk_put (cs := #[.int .i64 t307, .int .i64 t308, .slice none 0 0]) ?_ 2 _ rfl; (with_reducible repeat (first | refine blk_drewN ?_ _ | refine blk_drew ?_ | refine blk_alloc ?_ _)); refine blk_put (cs := #[.int .i64 t307, .int .i64 0, .slice none 0 0]) ?_ 1 _ rfl; (with_reducible repeat (first | refine blk_drewN ?_ _ | refine blk_drew ?_ | refine blk_alloc ?_ _)); refine blk_put (cs := #[.int .i64 0, .int .i64 0, .slice none 0 0]) ?_ 0 _ rfl; (with_reducible repeat (first | refine blk_drewN ?_ _ | refine blk_drew ?_ | refine blk_alloc ?_ _)); exact BK312.out⟩, ⟨bb_ HB.out⟩⟩
  case round =>
   clear H'
   try clear c1
   try clear c2
   try clear p2
   try clear c3
   try clear c7
   try clear c13
   try clear c14
   try clear c15
   try clear hcz10_0
   try clear hcz10_1
   try clear hcz10_2
   try clear hcz15_0
   try clear hcz15_1
   try clear hcz15_2
   try clear hcz17_0
   try clear hcz17_1
   try clear hcz17_2
   try clear hcz8_0
   try clear hcz8_1
   try clear hcz8_2
   try clear hfz10_0
   try clear hfz10_1
   try clear hfz10_2
   try clear hfz15_0
   try clear hfz15_1
   try clear hfz15_2
   try clear hfz17_0
   try clear hfz17_1
   try clear hfz17_2
   try clear hfz8_0
   try clear hfz8_1
   try clear hfz8_2
   obtain ⟨x17_1, x313002_1, u313002, rfl, HA, HK1, HO_313002, BK304, BK305, BK312, HB⟩ := hrel
   cases gk with
   | zero => exact absurd HA.out (by simp [impl_Transpose.l0])
   | succ k1 =>
    have H := HA.out
    clear HA
    simp only [impl_Transpose.l0] at H
    by_cases c18 : x17_1 < a0_0
    ·rw [if_pos c18] at H
     have c18b0 : decide (x17_1 < a0_0) = true := decide_eq_true c18
     clear c18
     have H' := am_ H
     clear H
     have hnb19 := NB304_305.out
     have hnc19 := NB305_304.out
     have hnb20 := NB304_312.out
     have hnc20 := NB312_304.out
     have hcz21_0 : wr.cell? ⟨gb304, 0, none⟩ = some (.int .i64 a0_0) := bc_ BK304 0
     have hcz21_1 : wr.cell? ⟨gb304, 1, none⟩ = some (.int .i64 a0_1) := bc_ BK304 1
     have hcz21_2 : wr.cell? ⟨gb304, 2, none⟩ = some (.slice A0_2 l0_2.length c0_2) := bc_ BK304 2
     have hfz21_0 := blk_frozen BK304.out 0
     have hfz21_1 := blk_frozen BK304.out 1
     have hfz21_2 := blk_frozen BK304.out 2
     go_wp2
     go_loopg [22] k1 (fun kq v22 w' => ∃ (x22_2 : Int) (x313002_2 : List Int) (u313002 : Value), v22 = .int .i64 x22_2 ∧ Aside0 (impl_Transpose.l1 kq x17_1 a0_0 x17_1 a0_1 x22_2 a0_0 a0_1 l0_2 t307 t308 x313002_2 = some (r1, r2, r3)) ∧ Aside0 (kq ≤ k1) ∧ Aside0 (Kd.R (Kd.int .i64) 2 w' w.heap.size (fun _ => True) u313002 x313002_2) ∧ Aside0 (w'.heap[gb304]? = some (.cells #[.int .i64 a0_0, .int .i64 a0_1, (.slice A0_2 l0_2.length c0_2)] 28 (0, 0))) ∧ Aside0 (w'.heap[gb305]? = some (.cells #[.int .i64 0, .int .i64 0, (.slice none 0 0)] 28 (0, 0))) ∧ Aside0 (w'.heap[gb312]? = some (.cells #[.int .i64 t307, .int .i64 t308, u313002] 28 (0, 0))) ∧ Aside0 (Below w.heap.size w w'))
     case atStart => exact ⟨(0), (x313002_1), (u313002), (by first | rfl | (simp; done) | (simp [*]; done)), H', ⟨Nat.le_refl _⟩, ⟨rk_ HO_313002.out⟩, ⟨bk_ BK304.out⟩, ⟨bk_ BK305.out⟩, ⟨bk_ BK312.out⟩, ⟨bb_ HB.out⟩⟩
     case round =>
      clear H'
      try clear c1
      try clear c2
      try clear p2
      try clear c3
      try clear c7
      try clear c13
      try clear c14
      try clear c15
      try clear c18
      try clear c18b0
      try clear c19
      try clear c20
      try clear hcz10_0
      try clear hcz10_1
      try clear hcz10_2
      try clear hcz15_0
      try clear hcz15_1
      try clear hcz15_2
      try clear hcz17_0
      try clear hcz17_1
      try clear hcz17_2
      try clear hcz21_0
      try clear hcz21_1
      try clear hcz21_2
      try clear hcz8_0
      try clear hcz8_1
      try clear hcz8_2
      try clear hfz10_0
      try clear hfz10_1
      try clear hfz10_2
      try clear hfz15_0
      try clear hfz15_1
      try clear hfz15_2
      try clear hfz17_0
      try clear hfz17_1
      try clear hfz17_2
      try clear hfz21_0
      try clear hfz21_1
      try clear hfz21_2
      try clear hfz8_0
      try clear hfz8_1
      try clear hfz8_2
      try clear p2
      obtain ⟨x22_2, x313002_2, u313002, rfl, HA, HK2, HO_313002, BK304, BK305, BK312, HB⟩ := hrel
      cases gk with
      | zero => exact absurd HA.out (by simp [impl_Transpose.l1])
      | succ k2 =>
       have H := HA.out
       clear HA
       simp only [impl_Transpose.l1] at H
       by_cases c22 : x22_2 < a0_1
       ·rw [if_pos c22] at H
        have c22b0 : decide (x22_2 < a0_1) = true := decide_eq_true c22
        clear c22
        replace H := Option.bind_eq_some_iff.mp H
        obtain ⟨t313, A230, H⟩ := H
        replace H : ((impl_Matrix_at.f a0_0 a0_1 l0_2 x17_1 x22_2).bind fun t314 => (if 0 ≤ t314 then (if t314 < (l0_2.length : Int) then (if 0 ≤ t313 then (if t313 < (x313002_2.length : Int) then (impl_Transpose.l1 k2 x17_1 a0_0 x17_1 a0_1 (wrap64 (x22_2 + 1)) a0_0 a0_1 l0_2 t307 t308 (x313002_2.set (t313 : Int).toNat (rd l0_2 t314))) else (none)) else (none)) else (none)) else (none))) = some (r1, r2, r3) := H
        have A23 := am_ A230
        clear A230
        replace H := Option.bind_eq_some_iff.mp H
        obtain ⟨t314, A240, H⟩ := H
        replace H : (if 0 ≤ t314 then (if t314 < (l0_2.length : Int) then (if 0 ≤ t313 then (if t313 < (x313002_2.length : Int) then (impl_Transpose.l1 k2 x17_1 a0_0 x17_1 a0_1 (wrap64 (x22_2 + 1)) a0_0 a0_1 l0_2 t307 t308 (x313002_2.set (t313 : Int).toNat (rd l0_2 t314))) else (none)) else (none)) else (none)) else (none)) = some (r1, r2, r3) := H
        have A24 := am_ A240
        clear A240
        by_cases c25 : 0 ≤ t314
        ·rw [if_pos c25] at H
         have c25b0 : decide (0 ≤ t314) = true := decide_eq_true c25
         clear c25
         by_cases c26 : t314 < (l0_2.length : Int)
         ·rw [if_pos c26] at H
          have c26b0 : decide (t314 < (l0_2.length : Int)) = true := decide_eq_true c26
          clear c26
          by_cases c27 : 0 ≤ t313
          ·rw [if_pos c27] at H
           have c27b0 : decide (0 ≤ t313) = true := decide_eq_true c27
           clear c27
           by_cases c28 : t313 < (x313002_2.length : Int)
           ·rw [if_pos c28] at H
            have c28b0 : decide (t313 < (x313002_2.length : Int)) = true := decide_eq_true c28
            clear c28
            obtain ⟨y316, hy316⟩ : ∃ y_ : List Int, y_ = (x313002_2.set (t313 : Int).toNat (rd l0_2 t314)) := ⟨_, rfl⟩
            replace H : (impl_Transpose.l1 k2 x17_1 a0_0 x17_1 a0_1 (wrap64 (x22_2 + 1)) a0_0 a0_1 l0_2 t307 t308 y316) = some (r1, r2, r3) := by first | (rw [hy316]; with_reducible exact H) | (have H2_ := (Option.bind_some _ _).symm.trans H; rw [hy316]; with_reducible exact H2_) | (have H2_ := (Option.bind_some _ _).symm.trans H; with_reducible exact H2_) | with_reducible exact H | (rw [hy316]; exact H) | exact H
            have Ny316 := am_ hy316
            clear hy316
            have H' := am_ H
            clear H
            try go_wp2
            have n0_ := am_ (Kd.R_drew HO_313002.out)
            have n1_ := am_ (blk_drew BK304.out)
            have n2_ := am_ (blk_drew BK305.out)
            have n3_ := am_ (blk_drew BK312.out)
            have n4_ := am_ (below_drew1 HB.out)
            clear HO_313002 BK304 BK305 BK312 HB; revert n0_ n1_ n2_ n3_ n4_; intro HO_313002 BK304 BK305 BK312 HB
            obtain ⟨Ao31, co31, eo31⟩ := Kd.R_slice HO_313002.out
            (first | subst eo31 | (injection eo31 with f1_ f2_ f3_; have f4_ := f1_.symm; have f5_ := f3_.symm; clear f1_ f2_ f3_; subst f4_; subst f5_))
            have p315 : 0 ≤ (t314 : Int) := of_decide_eq_true (by first | (with_reducible assumption) | assumption)
            have q315 : t314 < (l0_2.length : Int) := of_decide_eq_true (by first | (with_reducible assumption) | assumption)
            obtain ⟨ad315, e315, hx315_0⟩ := Kd.at_int HR0_2.out t314 p315 q315
            have hw315_0 := hx315_0
            cases e315
            replace hx315_0 := (HB.out.cell (World.block_lt_of_cell? w _ hx315_0)).trans hx315_0
            replace p315 := eq_true p315
            replace q315 := eq_true q315
            refine start_ (n := 12) (S := fun w' => w'.cell? ⟨gb312, 0, none⟩ = some (.int .i64 t307) ∧ w'.cell? ⟨gb312, 1, none⟩ = some (.int .i64 t308) ∧ w'.cell? ⟨gb312, 2, none⟩ = some (.slice Ao31 x313002_2.length co31) ∧ w'.cell? ⟨gb304, 0, none⟩ = some (.int .i64 a0_0) ∧ w'.cell? ⟨gb304, 1, none⟩ = some (.int .i64 a0_1) ∧ w'.cell? ⟨gb304, 2, none⟩ = some (.slice (some ad315) l0_2.length c0_2) ∧ w'.cell? (ad315.add (t314).toNat) = some (.int .i64 (rd l0_2 t314))) (ds := [11]) #[false, false, false, false, false, false, false, false, false, false, false, false] (by kernel_rfl) rfl rfl ⟨bc_ BK312 0, bc_ BK312 1, bc_ BK312 2, bc_ BK304 0, bc_ BK304 1, bc_ BK304 2, ((HB.out.cell (World.block_lt_of_cell? w _ hw315_0)).trans hw315_0)⟩ (fun hHeld => ?_); refine with_tabW impl_Transpose.tab10 impl_Transpose.bits10 (fun HT_ HW_ => ?_)
            generalize wr.drew = w30 at HO_313002 BK304 BK305 BK312 HB hx315_0 hHeld ⊢
            refine pure_ (i := 1) (N := some 26) (v := ?_) (a' := ?_) #[false, true, false, false, false, false, false, false, false, false, false, false] rfl rfl (any_of HT_.out (by kernel_rfl)) (fun _ _ _ h => h) (Or.inl ⟨by rfl, ?_⟩) ?_ ?_
            rotate_left
            ·intro w'
             go_simp
             with_reducible rfl
            rotate_left
            ·simp only [Act.put, List.setIfInBounds_toArray, List.set_cons_zero, List.set_cons_succ, i64_w, i32_w]
             rfl
            refine pure_ (i := 2) (N := some 27) (v := ?_) (a' := ?_) #[false, true, true, false, false, false, false, false, false, false, false, false] rfl rfl (any_of HT_.out (by kernel_rfl)) (fun _ _ _ h => h) (Or.inl ⟨by rfl, ?_⟩) ?_ ?_
            rotate_left
            ·intro w'
             go_simp
             with_reducible rfl
            rotate_left
            ·simp only [Act.put, List.setIfInBounds_toArray, List.set_cons_zero, List.set_cons_succ, i64_w, i32_w]
             rfl
            refine pure_ (i := 5) (N := some 30) (v := ?_) (a' := ?_) #[false, true, true, false, false, true, false, false, false, false, false, false] rfl rfl (any_of HT_.out (by kernel_rfl)) (fun _ _ _ h => h) (Or.inl ⟨by rfl, ?_⟩) ?_ ?_
            rotate_left
            ·intro w'
             go_simp
             with_reducible rfl
            rotate_left
            ·simp only [Act.put, List.setIfInBounds_toArray, List.set_cons_zero, List.set_cons_succ, i64_w, i32_w]
             rfl
            refine pure_ (i := 6) (N := some 31) (v := ?_) (a' := ?_) #[false, true, true, false, false, true, true, false, false, false, false, false] rfl rfl (any_of HT_.out (by kernel_rfl)) (fun _ _ _ h => h) (Or.inl ⟨by rfl, ?_⟩) ?_ ?_
            rotate_left
            ·intro w'
             go_simp
             with_reducible rfl
            rotate_left
            ·simp only [Act.put, List.setIfInBounds_toArray, List.set_cons_zero, List.set_cons_succ, i64_w, i32_w]
             rfl
            refine take_ (i := 0) (N := some 25) (v := ?_) (a' := ?_) #[true, true, true, false, false, true, true, false, false, false, false, false] rfl rfl (take_ofW HT_.out HW_.out (by kernel_rfl)) (fun _ _ _ h => h) (Or.inl ⟨by rfl, ?_⟩) hHeld ?_ ?_
            rotate_left
            ·rintro w' ⟨s0, s1, s2, s3, s4, s5, s6⟩
             go_simp
             with_reducible rfl
            rotate_left
            ·simp only [Act.put, List.setIfInBounds_toArray, List.set_cons_zero, List.set_cons_succ, i64_w, i32_w]
             rfl
            refine take_ (i := 4) (N := some 29) (v := ?_) (a' := ?_) #[true, true, true, false, true, true, true, false, false, false, false, false] rfl rfl (take_ofW HT_.out HW_.out (by kernel_rfl)) (fun _ _ _ h => h) (Or.inl ⟨by rfl, ?_⟩) hHeld ?_ ?_
            rotate_left
            ·rintro w' ⟨s0, s1, s2, s3, s4, s5, s6⟩
             go_simp
             with_reducible rfl
            rotate_left
            ·simp only [Act.put, List.setIfInBounds_toArray, List.set_cons_zero, List.set_cons_succ, i64_w, i32_w]
             rfl
            refine one_ (i := 3) (N := some 28) #[true, true, true, true, true, true, true, false, false, false, false, false] rfl rfl (one_of HT_.out (by kernel_rfl)) (by decide) (fun K hK => ?_)
            refine goes_ Try.func38 (by kernel_rfl) rfl #[.agg #[.int .i64 t307, .int .i64 t308, .slice Ao31 x313002_2.length co31], .int .i64 x22_2, .int .i64 x17_1] (by rfl) rfl rfl lm_ ?_
            with_reducible refine (impl_Matrix_at.calls t307 t308 _ _ x313002_2 x22_2 x17_1 t313 _ ?side1 ?side2 A23.out).mono ?_
            (case side1 => repeat (first | exact (Kd.R_reads' HO_313002.out).2.2 | (with_reducible refine Kd.C_alloc ?_ _) | (with_reducible refine Kd.C_drewN ?_ _) | (with_reducible refine Kd.C_drew ?_)))
            (case side2 => exact (Kd.R_reads' HO_313002.out).2.1)
            rintro e w32 ⟨rfl, hb⟩
            refine ⟨_, rfl, ?_⟩
            have n0_ := am_ (Kd.R_below (rk_ HO_313002.out) hb)
            have n1_ := am_ (bw_ BK304 hb)
            have n2_ := am_ (bw_ BK305 hb)
            have n3_ := am_ (bw_ BK312 hb)
            have n4_ := am_ (below_step (bb_ HB.out) hb)
            clear HO_313002 BK304 BK305 BK312 HB; revert n0_ n1_ n2_ n3_ n4_; intro HO_313002 BK304 BK305 BK312 HB
            (try clear hb)
            (try clear hb2)
            (try clear hk)
            (try clear hi)
            refine hK.out _ _ ⟨bc_ BK312 0, bc_ BK312 1, bc_ BK312 2, bc_ BK304 0, bc_ BK304 1, bc_ BK304 2, ((HB.out.cell (World.block_lt_of_cell? w _ hw315_0)).trans hw315_0)⟩ (fun hHeld => ?_)
            clear hK K
            refine norm_ (a' := ?_) ?_ ?_
            rotate_left
            ·show Act.put _ (some 28) _ = _
             simp only [Act.put, List.setIfInBounds_toArray, List.set_cons_zero, List.set_cons_succ, i64_w, i32_w]
             rfl
            refine one_ (i := 7) (N := some 32) #[true, true, true, true, true, true, true, true, false, false, false, false] rfl rfl (one_of HT_.out (by kernel_rfl)) (by decide) (fun K hK => ?_)
            refine goes_ Try.func38 (by kernel_rfl) rfl #[.agg #[.int .i64 a0_0, .int .i64 a0_1, .slice (some ad315) l0_2.length c0_2], .int .i64 x17_1, .int .i64 x22_2] (by rfl) rfl rfl lm_ ?_
            with_reducible refine (impl_Matrix_at.calls a0_0 a0_1 _ _ l0_2 x17_1 x22_2 t314 _ ?side1 ?side2 A24.out).mono ?_
            (case side1 => repeat (first | exact (Kd.C_below HR0_2.out HB.out) | (with_reducible refine Kd.C_alloc ?_ _) | (with_reducible refine Kd.C_drewN ?_ _) | (with_reducible refine Kd.C_drew ?_)))
            (case side2 => exact HC0_2.out)
            rintro e w33 ⟨rfl, hb⟩
            refine ⟨_, rfl, ?_⟩
            have n0_ := am_ (Kd.R_below (rk_ HO_313002.out) hb)
            have n1_ := am_ (bw_ BK304 hb)
            have n2_ := am_ (bw_ BK305 hb)
            have n3_ := am_ (bw_ BK312 hb)
            have n4_ := am_ (below_step (bb_ HB.out) hb)
            clear HO_313002 BK304 BK305 BK312 HB; revert n0_ n1_ n2_ n3_ n4_; intro HO_313002 BK304 BK305 BK312 HB
            (try clear hb)
            (try clear hb2)
            (try clear hk)
            (try clear hi)
            have p29 : 0 ≤ (t313 : Int) := of_decide_eq_true (by first | (with_reducible assumption) | assumption)
            have q29 : (t313 : Int) < ((x313002_2.length : Int) : Int) := of_decide_eq_true (by first | (with_reducible assumption) | assumption)
            obtain ⟨go29, co29, eo29, gb29, gl29, cl29, HG29⟩ := Kd.R_form HO_313002.out (by omega)
            (first | cases eo29 | (injection eo29 with ea_ en_ ec_; (first | subst ea_ | (injection ea_ with ea_; subst ea_)); subst ec_; clear en_))
            have GB29 := am_ gb29
            have GG29 := am_ HG29
            clear gb29 gl29 HG29
            obtain ⟨hx29_0, hf29_0⟩ := Kd.R_celln 0 HO_313002.out (t313 : Int) p29 q29
            replace p29 := eq_true p29
            replace q29 := eq_true q29
            have HP34 := Kd.R_putn HO_313002.out (t313 : Int) (rd l0_2 t314)
            rw [← Ny316.out] at HP34
            have HQ34 := am_ HP34
            clear HP34
            refine hK.out _ _ ⟨bc_ BK312 0, bc_ BK312 1, bc_ BK312 2, bc_ BK304 0, bc_ BK304 1, bc_ BK304 2, ((HB.out.cell (World.block_lt_of_cell? w _ hw315_0)).trans hw315_0)⟩ (fun hHeld => ?_)
            clear hK K
            refine norm_ (a' := ?_) ?_ ?_
            rotate_left
            ·show Act.put _ (some 32) _ = _
             simp only [Act.put, List.setIfInBounds_toArray, List.set_cons_zero, List.set_cons_succ, i64_w, i32_w]
             rfl
            refine pure_ (i := 8) (N := some 33) (v := ?_) (a' := ?_) #[true, true, true, true, true, true, true, true, true, false, false, false] rfl rfl (any_of HT_.out (by kernel_rfl)) (fun _ _ _ h => h) (Or.inl ⟨by rfl, ?_⟩) ?_ ?_
            rotate_left
            ·intro w'
             go_simp
             with_reducible rfl
            rotate_left
            ·simp only [Act.put, List.setIfInBounds_toArray, List.set_cons_zero, List.set_cons_succ, i64_w, i32_w]
             rfl
            refine take_ (i := 9) (N := some 34) (v := ?_) (a' := ?_) #[true, true, true, true, true, true, true, true, true, true, false, false] rfl rfl (take_ofW HT_.out HW_.out (by kernel_rfl)) (fun _ _ _ h => h) (Or.inl ⟨by rfl, ?_⟩) hHeld ?_ ?_
            rotate_left
            ·rintro w' ⟨s0, s1, s2, s3, s4, s5, s6⟩
             go_simp
             with_reducible rfl
            rotate_left
            ·simp only [Act.put, List.setIfInBounds_toArray, List.set_cons_zero, List.set_cons_succ, i64_w, i32_w]
             rfl
            refine pure_ (i := 10) (N := some 35) (v := ?_) (a' := ?_) #[true, true, true, true, true, true, true, true, true, true, true, false] rfl rfl (any_of HT_.out (by kernel_rfl)) (fun _ _ _ h => h) (Or.inl ⟨by rfl, ?_⟩) ?_ ?_
            rotate_left
            ·intro w'
             go_simp
             with_reducible rfl
            rotate_left
            ·simp only [Act.put, List.setIfInBounds_toArray, List.set_cons_zero, List.set_cons_succ, i64_w, i32_w]
             rfl
            refine last_ (i := 11) (N := none) #[true, true, true, true, true, true, true, true, true, true, true, true] rfl rfl (one_of HT_.out (by kernel_rfl)) (by decide) (fun K hK => ?_)
            refine skip_ (w1 := ?_) (by rfl) rfl ?_ ?_
            rotate_left
            ·go_simp
             rfl
            refine hK.out _ _ ?_
            clear hK K
            refine done_ (done_of HT_.out (by kernel_rfl)) ?_
            try go_wp2
            go_roundg k2
            case measure => have := HK1.out; have := HK2.out; omega
            case rel => exact ⟨(wrap64 (x22_2 + 1)), (y316), (.slice (some ⟨go29, 0, none⟩) x313002_2.length co31), (by first | rfl | (simp; done) | (simp [*]; done)), H', ⟨by have := HK1.out; have := HK2.out; omega⟩, ⟨rk_ HQ34.out⟩, ⟨by (with_reducible repeat (first | refine blk_drewN ?_ _ | refine blk_drew ?_ | refine blk_alloc ?_ _)); refine blk_far ?_ (by have h_ := Kd.R_ne HO_313002.out BK304.out (by decide); intro e_; exact h_ (by rw [e_]; rfl)) _; (with_reducible repeat (first | refine blk_drewN ?_ _ | refine blk_drew ?_ | refine blk_alloc ?_ _)); exact BK304.out⟩, ⟨by (with_reducible repeat (first | refine blk_drewN ?_ _ | refine blk_drew ?_ | refine blk_alloc ?_ _)); refine blk_far ?_ (by have h_ := Kd.R_ne HO_313002.out BK305.out (by decide); intro e_; exact h_ (by rw [e_]; rfl)) _; (with_reducible repeat (first | refine blk_drewN ?_ _ | refine blk_drew ?_ | refine blk_alloc ?_ _)); exact BK305.out⟩, ⟨by (with_reducible repeat (first | refine blk_drewN ?_ _ | refine blk_drew ?_ | refine blk_alloc ?_ _)); refine blk_far ?_ (by have h_ := Kd.R_ne HO_313002.out BK312.out (by decide); intro e_; exact h_ (by rw [e_]; rfl)) _; (with_reducible repeat (first | refine blk_drewN ?_ _ | refine blk_drew ?_ | refine blk_alloc ?_ _)); exact BK312.out⟩, ⟨bb_ HB.out⟩⟩
           ·rw [if_neg c28] at H
            exact absurd H (by simp)
          ·rw [if_neg c27] at H
           exact absurd H (by simp)
         ·rw [if_neg c26] at H
          exact absurd H (by simp)
        ·rw [if_neg c25] at H
         exact absurd H (by simp)
       ·rw [if_neg c22] at H
        have c22b0 : decide (x22_2 < a0_1) = false := decide_eq_false c22
        clear c22
        have H' := am_ H
        clear H
        go_wp2
        go_roundg k2
        case measure => have := HK1.out; have := HK2.out; omega
        case rel => exact ⟨(wrap64 (x17_1 + 1)), (x313002_2), (u313002), (by first | rfl | (simp; done) | (simp [*]; done)), H', ⟨by have := HK1.out; have := HK2.out; omega⟩, ⟨rk_ HO_313002.out⟩, ⟨bk_ BK304.out⟩, ⟨bk_ BK305.out⟩, ⟨bk_ BK312.out⟩, ⟨bb_ HB.out⟩⟩
    ·rw [if_neg c18] at H
     have c18b0 : decide (x17_1 < a0_0) = false := decide_eq_false c18
     clear c18
     simp only [Option.some.injEq, Prod.mk.injEq] at H
     obtain ⟨rfl, rfl, rfl⟩ := H
     have hnb35 := NB312_304.out
     have hnc35 := NB304_312.out
     have hnb36 := NB312_305.out
     have hnc36 := NB305_312.out
     have hcz37_0 : wr.cell? ⟨gb312, 0, none⟩ = some (.int .i64 t307) := bc_ BK312 0
     have hcz37_1 : wr.cell? ⟨gb312, 1, none⟩ = some (.int .i64 t308) := bc_ BK312 1
     have hcz37_2 : wr.cell? ⟨gb312, 2, none⟩ = some (u313002) := bc_ BK312 2
     have hfz37_0 := blk_frozen BK312.out 0
     have hfz37_1 := blk_frozen BK312.out 1
     have hfz37_2 := blk_frozen BK312.out 2
     have hnb38 := NB305_304.out
     have hnc38 := NB304_305.out
     have hcz39_0 : wr.cell? ⟨gb305, 0, none⟩ = some (.int .i64 0) := bc_ BK305 0
     have hcz39_1 : wr.cell? ⟨gb305, 1, none⟩ = some (.int .i64 0) := bc_ BK305 1
     have hcz39_2 : wr.cell? ⟨gb305, 2, none⟩ = some (.slice none 0 0) := bc_ BK305 2
     have hfz39_0 := blk_frozen BK305.out 0
     have hfz39_1 := blk_frozen BK305.out 1
     have hfz39_2 := blk_frozen BK305.out 2
     obtain ⟨Ao40, co40, eo40⟩ := Kd.R_slice HO_313002.out
     subst eo40
     go_wp2
     refine bodyPost_ret (results_cell_row rfl _ _ gb305 28 #[.int .i64 t307, .int .i64 t308, .slice Ao40 x313002_1.length co40] (0, 0) _ rfl (by (with_reducible repeat (first | refine blk_drewN ?_ _ | refine blk_drew ?_ | refine blk_alloc ?_ _)); refine blk_put (cs := #[.int .i64 t307, .int .i64 t308, .slice none 0 0]) ?_ 2 _ rfl; (with_reducible repeat (first | refine blk_drewN ?_ _ | refine blk_drew ?_ | refine blk_alloc ?_ _)); refine blk_put (cs := #[.int .i64 t307, .int .i64 0, .slice none 0 0]) ?_ 1 _ rfl; (with_reducible repeat (first | refine blk_drewN ?_ _ | refine blk_drew ?_ | refine blk_alloc ?_ _)); refine blk_put (cs := #[.int .i64 0, .int .i64 0, .slice none 0 0]) ?_ 0 _ rfl; (with_reducible repeat (first | refine blk_drewN ?_ _ | refine blk_drew ?_ | refine blk_alloc ?_ _)); exact BK305.out) Try.underlying28 rfl (by kernel_rfl)) rfl ?_
     exact ⟨_, by first | rfl | (simp [errW_none, errW_some] <;> rfl) | (simp [*, errW_none, errW_some] <;> rfl), rm_ (Kd.R_far (p := ⟨gb305, 2, none⟩) (Kd.R_far (p := ⟨gb305, 1, none⟩) (Kd.R_far (p := ⟨gb305, 0, none⟩) (Kd.R_types HO_313002.out BK305.out (by decide)) (fun _ hk => hk.2) (.int .i64 t307)) (fun _ hk => hk.2) (.int .i64 t308)) (fun _ hk => hk.2) (.slice Ao40 x313002_1.length co40)) (fun _ hk => trivial), bb_ HB.out⟩
 ·replace c3 := Bool.eq_false_iff.mpr c3
  subst c3
  have H1 : (some (0, 0, ([] : List Int))) = some (r1, r2, r3) := by rw [if_neg (show ¬ (false = true) by decide)] at H; exact H
  clear H
  have H := H1
  clear H1
  simp only [Option.some.injEq, Prod.mk.injEq] at H
  obtain ⟨rfl, rfl, rfl⟩ := H
  go_enter Try.func15, Try.ntmps15
  go_wp2_with (first | ((with_reducible refine gate_dst (N := 1) rfl ?_); refine box_event ?hg (N := 1) ?hd (cs := #[.int .i64 a0_0, .int .i64 a0_1, .slice A0_2 l0_2.length c0_2]) (t := 28) ?hr ?_; (case hd => rfl); (case hg => rfl); (case hr => first | (go_simp; done) | (go_simp; rfl)); intro gb304 hg w41 hbox hb; have n0_ := am_ (below_step (bb_ HB.out) hb); have n1_ := am_ (hbox); have n2_ := am_ ((by rw [hg]; exact (below_size (bb_ HB.out)) : w.heap.size ≤ gb304)); have n3_ := am_ ((by rw [hg]; exact (below_size (bb_ HB.out)) : w.heap.size ≤ gb304)); clear HB; revert n0_ n1_ n2_ n3_; intro HB BK304 GW304 GE304; clear hb hbox hg) | ((with_reducible refine gate_dst (N := 2) rfl ?_); refine box_event ?hg (N := 2) ?hd (cs := #[.int .i64 0, .int .i64 0, .slice none 0 0]) (t := 28) ?hr ?_; (case hd => rfl); (case hg => rfl); (case hr => first | (go_simp; done) | (go_simp; rfl)); intro gb305 hg w42 hbox hb; have n0_ := am_ (bw_ BK304 hb); have n1_ := am_ (below_step (bb_ HB.out) hb); have n2_ := am_ (hbox); have n3_ := am_ ((by rw [hg]; exact (below_size (bb_ HB.out)) : w.heap.size ≤ gb305)); have n4_ := am_ ((by rw [hg]; exact (below_size (bb_ HB.out)) : w.heap.size ≤ gb305)); have n5_ := am_ (nl_ BK304 hg); have n6_ := am_ (ng_ BK304 hg); clear BK304 HB; revert n0_ n1_ n2_ n3_ n4_ n5_ n6_; intro BK304 HB BK305 GW305 GE305 NB304_305 NB305_304; clear hb hbox hg; have hnb43 := NB304_305.out; have hnc43 := NB305_304.out; have hcz44_0 : w42.cell? ⟨gb304, 0, none⟩ = some (.int .i64 a0_0) := bc_ BK304 0; have hcz44_1 : w42.cell? ⟨gb304, 1, none⟩ = some (.int .i64 a0_1) := bc_ BK304 1; have hcz44_2 : w42.cell? ⟨gb304, 2, none⟩ = some (.slice A0_2 l0_2.length c0_2) := bc_ BK304 2; have hfz44_0 := blk_frozen BK304.out 0; have hfz44_1 := blk_frozen BK304.out 1; have hfz44_2 := blk_frozen BK304.out 2) | ((with_reducible refine gate_callee (f := 27) rfl ?_); refine goesL_ (some 7) rfl rfl Try.func27 (by kernel_rfl) rfl #[.agg #[.int .i64 a0_0, .int .i64 a0_1, .slice A0_2 l0_2.length c0_2]] rfl lm_ ?_; (with_reducible refine (impl_isMatrix.calls a0_0 a0_1 _ _ l0_2 false _ ?side1 ?side2 A2.out).mono ?_); (case side1 => repeat (first | exact (Kd.C_below HR0_2.out HB.out) | (with_reducible refine Kd.C_alloc ?_ _) | (with_reducible refine Kd.C_drewN ?_ _) | (with_reducible refine Kd.C_drew ?_))); (case side2 => exact HC0_2.out); rintro e w45 ⟨rfl, hb⟩; refine ⟨_, rfl, ?_⟩; have n0_ := am_ (bw_ BK304 hb); have n1_ := am_ (bw_ BK305 hb); have n2_ := am_ (below_step (bb_ HB.out) hb); clear BK304 BK305 HB; revert n0_ n1_ n2_; intro BK304 BK305 HB; (try clear hb); (try clear hb2); (try clear hk); (try clear hi); have hcz46_0 : w45.cell? ⟨gb305, 0, none⟩ = some (.int .i64 0) := bc_ BK305 0; have hcz46_1 : w45.cell? ⟨gb305, 1, none⟩ = some (.int .i64 0) := bc_ BK305 1; have hcz46_2 : w45.cell? ⟨gb305, 2, none⟩ = some (.slice none 0 0) := bc_ BK305 2; have hfz46_0 := blk_frozen BK305.out 0; have hfz46_1 := blk_frozen BK305.out 1; have hfz46_2 := blk_frozen BK305.out 2))
  refine bodyPost_ret (results_cell_row rfl _ _ gb305 28 #[.int .i64 0, .int .i64 0, .slice none 0 0] (0, 0) _ rfl (by (with_reducible repeat (first | refine blk_drewN ?_ _ | refine blk_drew ?_ | refine blk_alloc ?_ _)); refine blk_put (cs := #[.int .i64 0, .int .i64 0, .slice none 0 0]) ?_ 2 _ rfl; (with_reducible repeat (first | refine blk_drewN ?_ _ | refine blk_drew ?_ | refine blk_alloc ?_ _)); refine blk_put (cs := #[.int .i64 0, .int .i64 0, .slice none 0 0]) ?_ 1 _ rfl; (with_reducible repeat (first | refine blk_drewN ?_ _ | refine blk_drew ?_ | refine blk_alloc ?_ _)); refine blk_put (cs := #[.int .i64 0, .int .i64 0, .slice none 0 0]) ?_ 0 _ rfl; (with_reducible repeat (first | refine blk_drewN ?_ _ | refine blk_drew ?_ | refine blk_alloc ?_ _)); exact BK305.out) Try.underlying28 rfl (by kernel_rfl)) rfl ?_
  exact ⟨_, by first | rfl | (simp [errW_none, errW_some] <;> rfl) | (simp [*, errW_none, errW_some] <;> rfl), by first | exact Kd.R_nil _ _ _ _ _ | exact Kd.N_nil _ _ _ _ _ | exact Kd.V_nil _ _ _ _ _ | exact Kd.Q_nil _ _ _ _ _ | exact Kd.S_nil _ _ _ _ _, bb_ HB.out⟩

/-! ### laws_likeInts: function 40 -/
def laws_likeInts.l0 : Nat → List Int → List Int → Int → Option (Bool)
  | 0, _, _, _ => none
  | k + 1, x0, x1, x5 => if x5 < (x0.length : Int) then (if 0 ≤ x5 then (if x5 < (x1.length : Int) then (if (rd x0 x5) = (rd x1 x5) then (laws_likeInts.l0 k x0 x1 (wrap64 (x5 + 1))) else (some false)) else (none)) else (none)) else (some true)
def laws_likeInts.f (k : Nat) (l0 : List Int) (l1 : List Int) : Option (Bool) := if (l0.length : Int) = (l1.length : Int) then (laws_likeInts.l0 k l0 l1 0) else (some false)
theorem laws_likeInts.mono_l : ∀ k, (∀ y0 y1 y2, LeO (laws_likeInts.l0 k y0 y1 y2) (laws_likeInts.l0 (k + 1) y0 y1 y2))
  | 0 => fun _ _ _ r h => by simp [laws_likeInts.l0] at h
  | k + 1 => by
    have ih0 := laws_likeInts.mono_l k
    · intro y0 y1 y2
      unfold laws_likeInts.l0
      repeat' first
      | (with_reducible exact ih0 _ _ _)
      | (with_reducible exact LeO.refl _)
      | (with_reducible exact LeO.none _)
      | (with_reducible refine LeO.ite ?_ ?_)
      | (with_reducible refine LeO.bind ?_ (fun _ => ?_))
      | exact ih0 _ _ _
      | exact LeO.none _
      | refine LeO.ite ?_ ?_
      | refine LeO.bind ?_ (fun _ => ?_)
theorem laws_likeInts.mono : ∀ a0 a1 k, LeO (laws_likeInts.f k a0 a1) (laws_likeInts.f (k + 1) a0 a1) := by
  intro a0 a1 k
  have ih0 := laws_likeInts.mono_l k
  unfold laws_likeInts.f
  repeat' first
      | (with_reducible exact ih0 _ _ _)
      | (with_reducible exact LeO.refl _)
      | (with_reducible exact LeO.none _)
      | (with_reducible refine LeO.ite ?_ ?_)
      | (with_reducible refine LeO.bind ?_ (fun _ => ?_))
      | exact ih0 _ _ _
      | exact LeO.none _
      | refine LeO.ite ?_ ?_
      | refine LeO.bind ?_ (fun _ => ?_)
set_option maxHeartbeats 8000000 in
set_option maxRecDepth 100000 in
theorem laws_likeInts.calls (k : Nat) (A0 : Option Addr) (c0 : Nat) (l0 : List Int) (A1 : Option Addr) (c1 : Nat) (l1 : List Int) (r : Bool) (w : World) (hr0 : Kd.C (Kd.int .i64) w A0 l0.length l0) (hc0 : l0.length ≤ c0) (hr1 : Kd.C (Kd.int .i64) w A1 l1.length l1) (hc1 : l1.length ≤ c1) (h : laws_likeInts.f k l0 l1 = some r) :
    Calls Try.prog 40 #[.slice A0 l0.length c0, .slice A1 l1.length c1] w fun e w' => e = .returned (.bool r) ∧ Drawn0 w w' := by
  have HR0 := Aside0.mk hr0
  have HC0 := Aside0.mk hc0
  clear hr0 hc0
  have HR1 := Aside0.mk hr1
  have HC1 := Aside0.mk hc1
  clear hr1 hc1
  have H : (if (l0.length : Int) = (l1.length : Int) then (laws_likeInts.l0 k l0 l1 0) else (some false)) = some r := h
  clear h
  by_cases c3 : (l0.length : Int) = (l1.length : Int)
  · rw [if_pos c3] at H
    have c3b0 : ((l0.length : Int) == (l1.length : Int)) = true := beq_iff_eq.mpr c3
    have c3b1 : ((l0.length : Int) != (l1.length : Int)) = false := bne_eq_false_iff_eq.mpr c3
    have c3b2 : (l0.length == l1.length) = true := by first | simpa using c3 | (simp at c3 ⊢; omega)
    clear c3
    have H' := Aside0.mk H
    clear H
    go_enter Try.func40, Try.ntmps40
    go_wp2
    repeat (go_quiet (fail); try go_wp2)
    go_loopg [5] k (fun kq v5 w' => ∃ (x5_1 : Int), v5 = .int .i64 x5_1 ∧ Aside0 (laws_likeInts.l0 kq l0 l1 x5_1 = some r) ∧ Aside0 (kq ≤ k) ∧ Drawn0 w w')
    case atStart => exact ⟨(0), (by first | rfl | (simp; done) | (simp [*]; done)), H', ⟨Nat.le_refl _⟩, by repeat (first | exact Drawn0.refl _ | apply Drawn0.step)⟩
    case round =>
      clear H'
      try clear c1
      try clear p2
      try clear c3
      try clear c3b0
      try clear c3b1
      try clear c3b2
      obtain ⟨x5_1, rfl, HA, HK1, ⟨m1, rfl⟩⟩ := hrel
      cases gk with
      | zero => exact absurd HA.out (by simp [laws_likeInts.l0])
      | succ k1 =>
        have H := HA.out
        clear HA
        simp only [laws_likeInts.l0] at H
        by_cases c4 : x5_1 < (l0.length : Int)
        · rw [if_pos c4] at H
          have c4b0 : decide (x5_1 < (l0.length : Int)) = true := decide_eq_true c4
          clear c4
          by_cases c5 : 0 ≤ x5_1
          · rw [if_pos c5] at H
            have c5b0 : decide (0 ≤ x5_1) = true := decide_eq_true c5
            clear c5
            by_cases c6 : x5_1 < (l1.length : Int)
            · rw [if_pos c6] at H
              have c6b0 : decide (x5_1 < (l1.length : Int)) = true := decide_eq_true c6
              clear c6
              by_cases c7 : (rd l0 x5_1) = (rd l1 x5_1)
              · rw [if_pos c7] at H
                have c7b0 : ((rd l0 x5_1) == (rd l1 x5_1)) = true := beq_iff_eq.mpr c7
                have c7b1 : ((rd l0 x5_1) != (rd l1 x5_1)) = false := bne_eq_false_iff_eq.mpr c7
                clear c7
                have H' := Aside0.mk H
                clear H
                have p317 : 0 ≤ (x5_1 : Int) := of_decide_eq_true (by first | (with_reducible assumption) | assumption)
                have q317 : x5_1 < (l0.length : Int) := of_decide_eq_true (by first | (with_reducible assumption) | assumption)
                obtain ⟨ad317, e317, hx317_0⟩ := Kd.at_int HR0.out x5_1 p317 q317
                cases e317
                replace p317 := eq_true p317
                replace q317 := eq_true q317
                have p318 : 0 ≤ (x5_1 : Int) := of_decide_eq_true (by first | (with_reducible assumption) | assumption)
                have q318 : x5_1 < (l1.length : Int) := of_decide_eq_true (by first | (with_reducible assumption) | assumption)
                obtain ⟨ad318, e318, hx318_0⟩ := Kd.at_int HR1.out x5_1 p318 q318
                cases e318
                replace p318 := eq_true p318
                replace q318 := eq_true q318
                go_wp2
                repeat (go_quiet (fail); try go_wp2)
                go_roundg k1
                case measure => have := HK1.out; omega
                case rel => exact ⟨(wrap64 (x5_1 + 1)), (by first | rfl | (simp; done) | (simp [*]; done)), H', ⟨by have := HK1.out; omega⟩, by repeat (first | exact Drawn0.refl _ | apply Drawn0.step)⟩
              · rw [if_neg c7] at H
                have c7b0 : ((rd l0 x5_1) == (rd l1 x5_1)) = false := beq_eq_false_iff_ne.mpr c7
                have c7b1 : ((rd l0 x5_1) != (rd l1 x5_1)) = true := bne_iff_ne.mpr c7
                obtain rfl := Option.some.inj H
                have p317 : 0 ≤ (x5_1 : Int) := of_decide_eq_true (by first | (with_reducible assumption) | assumption)
                have q317 : x5_1 < (l0.length : Int) := of_decide_eq_true (by first | (with_reducible assumption) | assumption)
                obtain ⟨ad317, e317, hx317_0⟩ := Kd.at_int HR0.out x5_1 p317 q317
                cases e317
                replace p317 := eq_true p317
                replace q317 := eq_true q317
                have p318 : 0 ≤ (x5_1 : Int) := of_decide_eq_true (by first | (with_reducible assumption) | assumption)
                have q318 : x5_1 < (l1.length : Int) := of_decide_eq_true (by first | (with_reducible assumption) | assumption)
                obtain ⟨ad318, e318, hx318_0⟩ := Kd.at_int HR1.out x5_1 p318 q318
                cases e318
                replace p318 := eq_true p318
                replace q318 := eq_true q318
                go_wp2
                repeat (go_quiet (fail); try go_wp2)
                go_ret
                exact ⟨by first | rfl | (simp; done) | (simp [*]; done), by repeat (first | exact Drawn0.refl _ | apply Drawn0.step)⟩
            · rw [if_neg c6] at H
              exact absurd H (by simp)
          · rw [if_neg c5] at H
            exact absurd H (by simp)
        · rw [if_neg c4] at H
          have c4b0 : decide (x5_1 < (l0.length : Int)) = false := decide_eq_false c4
          clear c4
          obtain rfl := Option.some.inj H
          go_wp2
          repeat (go_quiet (fail); try go_wp2)
          go_ret
          exact ⟨by first | rfl | (simp; done) | (simp [*]; done), by repeat (first | exact Drawn0.refl _ | apply Drawn0.step)⟩
  · rw [if_neg c3] at H
    have c3b0 : ((l0.length : Int) == (l1.length : Int)) = false := beq_eq_false_iff_ne.mpr c3
    have c3b1 : ((l0.length : Int) != (l1.length : Int)) = true := bne_iff_ne.mpr c3
    have c3b2 : (l0.length == l1.length) = false := by first | simpa using c3 | (simp at c3 ⊢; omega)
    obtain rfl := Option.some.inj H
    go_enter Try.func40, Try.ntmps40
    go_wp2
    repeat (go_quiet (fail); try go_wp2)
    go_ret
    exact ⟨by first | rfl | (simp; done) | (simp [*]; done), by repeat (first | exact Drawn0.refl _ | apply Drawn0.step)⟩

end Go.Proofs.Ytifbfloifdkacaa.PFnProducts
