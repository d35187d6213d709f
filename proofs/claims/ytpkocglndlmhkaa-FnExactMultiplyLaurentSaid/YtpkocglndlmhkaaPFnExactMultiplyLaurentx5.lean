/- Written by this session's program out of the kit's print and this session's contracts. -/
import Derived.Test.YtpkocglndlmhkaaPFnExactMultiplyLaurentx0
import Derived.Test.YtpkocglndlmhkaaPFnExactMultiplyLaurentx2
import Derived.Test.YtpkocglndlmhkaaPFnExactMultiplyLaurentx4
namespace Go.Proofs.Ytpkocglndlmhkaa.PFnExactMultiplyLaurent
open Go.RowKit Go.Proofs.YtpkocglndlmhkaaW.PrintWords Go.Proofs.YtpkocglndlmhkaaW.PrintLast Go.Proofs.YtpkocglndlmhkaaW.PrintMore
attribute [local go_sem] max2_int min2_int max_two min_two max_three min_three max_four min_four   -- for this text's walks alone
set_option linter.unusedVariables false
set_option linter.unusedSimpArgs false

/-! ### spec_MultiplyLaurent: function 12 -/
def spec_MultiplyLaurent.j0 : Nat → Bool → Int → List Int → Int → List Int → Option (Int × List Int × Int)
 | 0, _, _, _, _, _ => none
 | k + 1, x15, x172000, x172001, x173000, x173001 => if x15 = true then (some (0, ([] : List Int), 1)) else ((spec_l03Size.f k x172000 x172001).bind fun t176 => ((spec_l03Size.f k x173000 x173001).bind fun t177 => ((spec_l01Times.f t176 t177 1000000000000).bind fun bt178 => (if bt178.2 = true then ((spec_l03Product.f k x172000 x172001 x173000 x173001).bind fun bt180 => ((spec_l03If.f k bt180.1 bt180.2).bind fun bt184 => (some (bt184.1, bt184.2.1, bt184.2.2)))) else (some (0, ([] : List Int), 3))))))
def spec_MultiplyLaurent.f (k : Nat) (a0_0 : Int) (l0_1 : List Int) (a1_0 : Int) (l1_1 : List Int) : Option (Int × List Int × Int) := (spec_IsLaurent.f k a0_0 l0_1).bind fun t174 => (if t174 = true then ((spec_IsLaurent.f k a1_0 l1_1).bind fun t175 => (spec_MultiplyLaurent.j0 k (!t175) a0_0 l0_1 a1_0 l1_1)) else (spec_MultiplyLaurent.j0 k true a0_0 l0_1 a1_0 l1_1))
theorem spec_MultiplyLaurent.mono_l : ∀ k, (∀ y0 y1 y2 y3 y4, LeO (spec_MultiplyLaurent.j0 k y0 y1 y2 y3 y4) (spec_MultiplyLaurent.j0 (k + 1) y0 y1 y2 y3 y4))
 | 0 => fun _ _ _ _ _ r h => by simp [spec_MultiplyLaurent.j0] at h
 | k + 1 => by
  have ih0 := spec_MultiplyLaurent.mono_l k
  ·intro y0 y1 y2 y3 y4
   unfold spec_MultiplyLaurent.j0
   repeat' first
   | (with_reducible exact ih0 _ _ _ _ _)
   | (with_reducible exact spec_IsLaurent.mono _ _ _)
   | (with_reducible exact spec_l03If.mono _ _ _)
   | (with_reducible exact spec_l03Product.mono _ _ _ _ _)
   | (with_reducible exact spec_l03Size.mono _ _ _)
   | (with_reducible exact LeO.refl _)
   | (with_reducible exact LeO.none _)
   | (with_reducible refine LeO.ite ?_ ?_)
   | (with_reducible refine LeO.bind ?_ (fun _ => ?_))
   | exact ih0 _ _ _ _ _
   | exact spec_IsLaurent.mono _ _ _
   | exact spec_l03If.mono _ _ _
   | exact spec_l03Product.mono _ _ _ _ _
   | exact spec_l03Size.mono _ _ _
   | exact LeO.none _
   | refine LeO.ite ?_ ?_
   | refine LeO.bind ?_ (fun _ => ?_)
theorem spec_MultiplyLaurent.mono : ∀ a0 a1 a2 a3 k, LeO (spec_MultiplyLaurent.f k a0 a1 a2 a3) (spec_MultiplyLaurent.f (k + 1) a0 a1 a2 a3) := by
 intro a0 a1 a2 a3 k
 have ih0 := spec_MultiplyLaurent.mono_l k
 unfold spec_MultiplyLaurent.f
 repeat' first
   | (with_reducible exact ih0 _ _ _ _ _)
   | (with_reducible exact spec_IsLaurent.mono _ _ _)
   | (with_reducible exact spec_l03If.mono _ _ _)
   | (with_reducible exact spec_l03Product.mono _ _ _ _ _)
   | (with_reducible exact spec_l03Size.mono _ _ _)
   | (with_reducible exact LeO.refl _)
   | (with_reducible exact LeO.none _)
   | (with_reducible refine LeO.ite ?_ ?_)
   | (with_reducible refine LeO.bind ?_ (fun _ => ?_))
   | exact ih0 _ _ _ _ _
   | exact spec_IsLaurent.mono _ _ _
   | exact spec_l03If.mono _ _ _
   | exact spec_l03Product.mono _ _ _ _ _
   | exact spec_l03Size.mono _ _ _
   | exact LeO.none _
   | refine LeO.ite ?_ ?_
   | refine LeO.bind ?_ (fun _ => ?_)
def spec_MultiplyLaurent.T3 : Bool × List (List Nat × List Nat) := (true, [([], []), ([0], [0]), ([], []), ([2, 1], [2]), ([1, 3, 3], [1, 3]), ([4], [4]), ([5], [5]), ([5], [5]), ([6, 4, 0, 1, 2, 3, 4, 5, 6], [6]), ([7, 8, 0, 1, 2, 3, 4, 5, 6, 7, 8], [7])])
def spec_MultiplyLaurent.B3 : List Nat := [0, 1, 0, 7, 15, 31, 63, 63, 127, 511]
theorem spec_MultiplyLaurent.tab3 : rtab .any (opsOf Try.f12 3) = spec_MultiplyLaurent.T3 := by kernel_rfl
theorem spec_MultiplyLaurent.bits3 : waitsOk spec_MultiplyLaurent.T3.2 spec_MultiplyLaurent.B3 = true := by kernel_rfl
set_option maxHeartbeats 8000000 in
set_option maxRecDepth 100000 in
theorem spec_MultiplyLaurent.calls (k : Nat) (a0_0 : Int) (A0_1 : Option Addr) (c0_1 : Nat) (l0_1 : List Int) (a1_0 : Int) (A1_1 : Option Addr) (c1_1 : Nat) (l1_1 : List Int) (r1 : Int) (r2 : List Int) (r3 : Int) (w : World) (hr0_1 : Kd.C (Kd.int .i64) w A0_1 l0_1.length l0_1) (hc0_1 : l0_1.length ≤ c0_1) (hr1_1 : Kd.C (Kd.int .i64) w A1_1 l1_1.length l1_1) (hc1_1 : l1_1.length ≤ c1_1) (h : spec_MultiplyLaurent.f k a0_0 l0_1 a1_0 l1_1 = some (r1, r2, r3)) :
  Calls Try.prog 12 #[.agg #[.int .i64 a0_0, .slice A0_1 l0_1.length c0_1], .agg #[.int .i64 a1_0, .slice A1_1 l1_1.length c1_1]] w fun e w' => ∃ v1_ : Value, e = .returned (.tuple #[.agg #[.int .i64 r1, v1_], .int .i64 r3]) ∧ Kd.R (Kd.int .i64) 2 w' w.heap.size (fun _ => True) v1_ r2 ∧ Below w.heap.size w w' := by
 have hu26 := Try.underlying26
 have HR0_1 := am_ hr0_1
 have HC0_1 := am_ hc0_1
 clear hr0_1 hc0_1
 have HR1_1 := am_ hr1_1
 have HC1_1 := am_ hc1_1
 clear hr1_1 hc1_1
 have HB := am_ (Below.refl w.heap.size w)
 have H : ((spec_IsLaurent.f k a0_0 l0_1).bind fun t174 => (if t174 = true then ((spec_IsLaurent.f k a1_0 l1_1).bind fun t175 => (spec_MultiplyLaurent.j0 k (!t175) a0_0 l0_1 a1_0 l1_1)) else (spec_MultiplyLaurent.j0 k true a0_0 l0_1 a1_0 l1_1))) = some (r1, r2, r3) := h
 clear h
 have HC3 := am_ H
 clear H
 go_enter Try.func12, Try.ntmps12
 go_upto_region 1 with (first | ((with_reducible refine gate_dst (N := 2) rfl ?_); refine box_event ?hg (N := 2) ?hd (cs := #[.int .i64 a0_0, .slice A0_1 l0_1.length c0_1]) (t := 26) ?hr ?_; (case hd => rfl); (case hg => rfl); (case hr => first | (go_simp; done) | (go_simp; rfl)); intro gb171 hg w4 hbox hb; have n0_ := am_ (below_step (bb_ HB.out) hb); have n1_ := am_ (hbox); have n2_ := am_ ((by rw [hg]; exact (below_size (bb_ HB.out)) : w.heap.size ≤ gb171)); have n3_ := am_ ((by rw [hg]; exact (below_size (bb_ HB.out)) : w.heap.size ≤ gb171)); clear HB; revert n0_ n1_ n2_ n3_; intro HB BK171 GW171 GE171; clear hb hbox hg) | ((with_reducible refine gate_dst (N := 3) rfl ?_); refine box_event ?hg (N := 3) ?hd (cs := #[.int .i64 a1_0, .slice A1_1 l1_1.length c1_1]) (t := 26) ?hr ?_; (case hd => rfl); (case hg => rfl); (case hr => first | (go_simp; done) | (go_simp; rfl)); intro gb172 hg w5 hbox hb; have n0_ := am_ (bw_ BK171 hb); have n1_ := am_ (below_step (bb_ HB.out) hb); have n2_ := am_ (hbox); have n3_ := am_ ((by rw [hg]; exact (below_size (bb_ HB.out)) : w.heap.size ≤ gb172)); have n4_ := am_ ((by rw [hg]; exact (below_size (bb_ HB.out)) : w.heap.size ≤ gb172)); have n5_ := am_ ((by rw [hg]; exact Nat.ne_of_lt (bl_ BK171) : gb171 ≠ gb172)); have n6_ := am_ ((by rw [hg]; exact Nat.ne_of_gt (bl_ BK171) : gb172 ≠ gb171)); clear BK171 HB; revert n0_ n1_ n2_ n3_ n4_ n5_ n6_; intro BK171 HB BK172 GW172 GE172 NB171_172 NB172_171; clear hb hbox hg) | ((with_reducible refine gate_dst (N := 4) rfl ?_); refine box_event ?hg (N := 4) ?hd (cs := #[.int .i64 0, .slice none 0 0]) (t := 26) ?hr ?_; (case hd => rfl); (case hg => rfl); (case hr => first | (go_simp; done) | (go_simp; rfl)); intro gb173 hg w6 hbox hb; have n0_ := am_ (bw_ BK171 hb); have n1_ := am_ (bw_ BK172 hb); have n2_ := am_ (below_step (bb_ HB.out) hb); have n3_ := am_ (hbox); have n4_ := am_ ((by rw [hg]; exact (below_size (bb_ HB.out)) : w.heap.size ≤ gb173)); have n5_ := am_ ((by rw [hg]; exact (below_size (bb_ HB.out)) : w.heap.size ≤ gb173)); have n6_ := am_ ((by rw [hg]; exact Nat.ne_of_lt (bl_ BK171) : gb171 ≠ gb173)); have n7_ := am_ ((by rw [hg]; exact Nat.ne_of_gt (bl_ BK171) : gb173 ≠ gb171)); have n8_ := am_ ((by rw [hg]; exact Nat.ne_of_lt (bl_ BK172) : gb172 ≠ gb173)); have n9_ := am_ ((by rw [hg]; exact Nat.ne_of_gt (bl_ BK172) : gb173 ≠ gb172)); clear BK171 BK172 HB; revert n0_ n1_ n2_ n3_ n4_ n5_ n6_ n7_ n8_ n9_; intro BK171 BK172 HB BK173 GW173 GE173 NB171_173 NB173_171 NB172_173 NB173_172; clear hb hbox hg))
 (try simp only [Act.put, List.setIfInBounds_toArray, List.set_cons_zero, List.set_cons_succ])
 go_cut [15] (fun v15 wc => ∃ (kq : Nat) (x15_2 : Bool), v15 = .bool x15_2 ∧ Aside0 (spec_MultiplyLaurent.j0 kq x15_2 a0_0 l0_1 a1_0 l1_1 = some (r1, r2, r3)) ∧ Aside0 (kq ≤ k) ∧ Aside0 (wc.heap[gb171]? = some (.cells #[.int .i64 a0_0, (.slice A0_1 l0_1.length c0_1)] 26 (0, 0))) ∧ Aside0 (wc.heap[gb172]? = some (.cells #[.int .i64 a1_0, (.slice A1_1 l1_1.length c1_1)] 26 (0, 0))) ∧ Aside0 (wc.heap[gb173]? = some (.cells #[.int .i64 0, (.slice none 0 0)] 26 (0, 0))) ∧ Aside0 (Below w.heap.size w wc))
 case first =>
  have H := HC3.out
  clear HC3
  replace H := Option.bind_eq_some_iff.mp H
  obtain ⟨t174, A70, H⟩ := H
  replace H : (if t174 = true then ((spec_IsLaurent.f k a1_0 l1_1).bind fun t175 => (spec_MultiplyLaurent.j0 k (!t175) a0_0 l0_1 a1_0 l1_1)) else (spec_MultiplyLaurent.j0 k true a0_0 l0_1 a1_0 l1_1)) = some (r1, r2, r3) := H
  have A7 := am_ A70
  clear A70
  by_cases c8 : t174 = true
  ·subst c8
   have H1 : ((spec_IsLaurent.f k a1_0 l1_1).bind fun t175 => (spec_MultiplyLaurent.j0 k (!t175) a0_0 l0_1 a1_0 l1_1)) = some (r1, r2, r3) := by rw [if_pos rfl] at H; exact H
   clear H
   have H := H1
   clear H1
   replace H := Option.bind_eq_some_iff.mp H
   obtain ⟨t175, A90, H⟩ := H
   replace H : (spec_MultiplyLaurent.j0 k (!t175) a0_0 l0_1 a1_0 l1_1) = some (r1, r2, r3) := H
   have A9 := am_ A90
   clear A90
   have H' := am_ H
   clear H
   have hnb10 := NB171_172.out
   have hnc10 := NB172_171.out
   have hnb11 := NB171_173.out
   have hnc11 := NB173_171.out
   have hcz12_0 : w6.cell? ⟨gb171, 0, none⟩ = some (.int .i64 a0_0) := bc_ BK171 0
   have hcz12_1 : w6.cell? ⟨gb171, 1, none⟩ = some (.slice A0_1 l0_1.length c0_1) := bc_ BK171 1
   have hfz12_0 := blk_frozen BK171.out 0
   have hfz12_1 := blk_frozen BK171.out 1
   go_wp2_with (first | ((with_reducible refine gate_callee (f := 15) rfl ?_); refine goesL_ (some 9) rfl rfl Try.func15 (by kernel_rfl) rfl #[.agg #[.int .i64 a0_0, .slice A0_1 l0_1.length c0_1]] rfl lm_ ?_; (with_reducible refine (spec_IsLaurent.calls k a0_0 _ _ l0_1 true _ ?side1 ?side2 A7.out).mono ?_); (case side1 => repeat (first | exact (Kd.C_below HR0_1.out HB.out) | (with_reducible refine Kd.C_alloc ?_ _) | (with_reducible refine Kd.C_drewN ?_ _) | (with_reducible refine Kd.C_drew ?_))); (case side2 => exact HC0_1.out); rintro e w13 ⟨rfl, hb⟩; refine ⟨_, rfl, ?_⟩; have n0_ := am_ (bw_ BK171 hb); have n1_ := am_ (bw_ BK172 hb); have n2_ := am_ (bw_ BK173 hb); have n3_ := am_ (below_step (bb_ HB.out) hb); clear BK171 BK172 BK173 HB; revert n0_ n1_ n2_ n3_; intro BK171 BK172 BK173 HB; (try clear hb); (try clear hb2); (try clear hk); (try clear hi); have hnb14 := NB172_173.out; have hnc14 := NB173_172.out; have hcz15_0 : w13.cell? ⟨gb172, 0, none⟩ = some (.int .i64 a1_0) := bc_ BK172 0; have hcz15_1 : w13.cell? ⟨gb172, 1, none⟩ = some (.slice A1_1 l1_1.length c1_1) := bc_ BK172 1; have hfz15_0 := blk_frozen BK172.out 0; have hfz15_1 := blk_frozen BK172.out 1) | (go_at_call 15; (with_reducible refine (spec_IsLaurent.calls k a1_0 _ _ l1_1 t175 _ ?side1 ?side2 A9.out).mono ?_); (case side1 => repeat (first | exact (Kd.C_below HR1_1.out HB.out) | (with_reducible refine Kd.C_alloc ?_ _) | (with_reducible refine Kd.C_drewN ?_ _) | (with_reducible refine Kd.C_drew ?_))); (case side2 => exact HC1_1.out); rintro e w16 ⟨rfl, hb⟩; have n0_ := am_ (bw_ BK171 hb); have n1_ := am_ (bw_ BK172 hb); have n2_ := am_ (bw_ BK173 hb); have n3_ := am_ (below_step (bb_ HB.out) hb); clear BK171 BK172 BK173 HB; revert n0_ n1_ n2_ n3_; intro BK171 BK172 BK173 HB; (try clear hb); (try clear hb2); (try clear hk); (try clear hi)))
   go_meet
   case rel => exact ⟨_, (!t175), (by first | rfl | (simp; done) | (simp [*]; done)), H', ⟨by first | omega | exact Nat.le_refl _⟩, ⟨bk_ BK171.out⟩, ⟨bk_ BK172.out⟩, ⟨bk_ BK173.out⟩, ⟨bb_ HB.out⟩⟩
  ·replace c8 := Bool.eq_false_iff.mpr c8
   subst c8
   have H1 : (spec_MultiplyLaurent.j0 k true a0_0 l0_1 a1_0 l1_1) = some (r1, r2, r3) := by rw [if_neg (show ¬ (false = true) by decide)] at H; exact H
   clear H
   have H := H1
   clear H1
   have H' := am_ H
   clear H
   have hnb17 := NB171_172.out
   have hnc17 := NB172_171.out
   have hnb18 := NB171_173.out
   have hnc18 := NB173_171.out
   have hcz19_0 : w6.cell? ⟨gb171, 0, none⟩ = some (.int .i64 a0_0) := bc_ BK171 0
   have hcz19_1 : w6.cell? ⟨gb171, 1, none⟩ = some (.slice A0_1 l0_1.length c0_1) := bc_ BK171 1
   have hfz19_0 := blk_frozen BK171.out 0
   have hfz19_1 := blk_frozen BK171.out 1
   go_wp2_with (first | ((with_reducible refine gate_callee (f := 15) rfl ?_); refine goesL_ (some 9) rfl rfl Try.func15 (by kernel_rfl) rfl #[.agg #[.int .i64 a0_0, .slice A0_1 l0_1.length c0_1]] rfl lm_ ?_; (with_reducible refine (spec_IsLaurent.calls k a0_0 _ _ l0_1 false _ ?side1 ?side2 A7.out).mono ?_); (case side1 => repeat (first | exact (Kd.C_below HR0_1.out HB.out) | (with_reducible refine Kd.C_alloc ?_ _) | (with_reducible refine Kd.C_drewN ?_ _) | (with_reducible refine Kd.C_drew ?_))); (case side2 => exact HC0_1.out); rintro e w20 ⟨rfl, hb⟩; refine ⟨_, rfl, ?_⟩; have n0_ := am_ (bw_ BK171 hb); have n1_ := am_ (bw_ BK172 hb); have n2_ := am_ (bw_ BK173 hb); have n3_ := am_ (below_step (bb_ HB.out) hb); clear BK171 BK172 BK173 HB; revert n0_ n1_ n2_ n3_; intro BK171 BK172 BK173 HB; (try clear hb); (try clear hb2); (try clear hk); (try clear hi)))
   go_meet
   case rel => exact ⟨_, (true), (by first | rfl | (simp; done) | (simp [*]; done)), H', ⟨by first | omega | exact Nat.le_refl _⟩, ⟨bk_ BK171.out⟩, ⟨bk_ BK172.out⟩, ⟨bk_ BK173.out⟩, ⟨bb_ HB.out⟩⟩
 case rest =>
  clear HC3
  try clear c1
  try clear p2
  try clear c8
  try clear c10
  try clear c11
  try clear c12
  try clear c14
  try clear c15
  try clear c17
  try clear c18
  try clear hcz12_0
  try clear hcz12_1
  try clear hcz15_0
  try clear hcz15_1
  try clear hcz19_0
  try clear hcz19_1
  try clear hfz12_0
  try clear hfz12_1
  try clear hfz15_0
  try clear hfz15_1
  try clear hfz19_0
  try clear hfz19_1
  obtain ⟨kq, x15_2, rfl, HA, HJ2, BK171, BK172, BK173, HB⟩ := hcut
  cases kq with
  | zero => exact absurd HA.out (by simp [spec_MultiplyLaurent.j0])
  | succ kj2 =>
   have H := HA.out
   clear HA
   simp only [spec_MultiplyLaurent.j0] at H
   by_cases c21 : x15_2 = true
   ·subst c21
    have H1 : (some (0, ([] : List Int), 1)) = some (r1, r2, r3) := by rw [if_pos rfl] at H; exact H
    clear H
    have H := H1
    clear H1
    simp only [Option.some.injEq, Prod.mk.injEq] at H
    obtain ⟨rfl, rfl, rfl⟩ := H
    have hnb22 := NB173_171.out
    have hnc22 := NB171_173.out
    have hnb23 := NB173_172.out
    have hnc23 := NB172_173.out
    have hcz24_0 : wc.cell? ⟨gb173, 0, none⟩ = some (.int .i64 0) := bc_ BK173 0
    have hcz24_1 : wc.cell? ⟨gb173, 1, none⟩ = some (.slice none 0 0) := bc_ BK173 1
    have hfz24_0 := blk_frozen BK173.out 0
    have hfz24_1 := blk_frozen BK173.out 1
    go_wp2
    refine bodyPost_ret (results_ct rfl _ _ gb173 26 #[.int .i64 0, .slice none 0 0] (0, 0) _ rfl (by (with_reducible repeat (first | refine blk_drewN ?_ _ | refine blk_drew ?_ | refine blk_alloc ?_ _)); refine blk_put (cs := #[.int .i64 0, .slice none 0 0]) ?_ 1 _ rfl; (with_reducible repeat (first | refine blk_drewN ?_ _ | refine blk_drew ?_ | refine blk_alloc ?_ _)); refine blk_put (cs := #[.int .i64 0, .slice none 0 0]) ?_ 0 _ rfl; (with_reducible repeat (first | refine blk_drewN ?_ _ | refine blk_drew ?_ | refine blk_alloc ?_ _)); exact BK173.out) Try.underlying26 rfl (by kernel_rfl)) rfl ?_
    exact ⟨_, by first | rfl | (simp [errW_none, errW_some] <;> rfl) | (simp [*, errW_none, errW_some] <;> rfl), by first | exact Kd.R_nil _ _ _ _ _ | exact Kd.N_nil _ _ _ _ _ | exact Kd.V_nil _ _ _ _ _ | exact Kd.Q_nil _ _ _ _ _ | exact Kd.S_nil _ _ _ _ _, by repeat (first | (with_reducible first | exact HB.out | apply below_alloc | apply pw_below_drewN | apply below_drew1 | refine below_set ?_ GE171.out | refine below_set ?_ GE172.out | refine below_set ?_ GE173.out) | exact HB.out)⟩
   ·replace c21 := Bool.eq_false_iff.mpr c21
    subst c21
    have H1 : ((spec_l03Size.f kj2 a0_0 l0_1).bind fun t176 => ((spec_l03Size.f kj2 a1_0 l1_1).bind fun t177 => ((spec_l01Times.f t176 t177 1000000000000).bind fun bt178 => (if bt178.2 = true then ((spec_l03Product.f kj2 a0_0 l0_1 a1_0 l1_1).bind fun bt180 => ((spec_l03If.f kj2 bt180.1 bt180.2).bind fun bt184 => (some (bt184.1, bt184.2.1, bt184.2.2)))) else (some (0, ([] : List Int), 3)))))) = some (r1, r2, r3) := by rw [if_neg (show ¬ (false = true) by decide)] at H; exact H
    clear H
    have H := H1
    clear H1
    replace H := Option.bind_eq_some_iff.mp H
    obtain ⟨t176, A250, H⟩ := H
    replace H : ((spec_l03Size.f kj2 a1_0 l1_1).bind fun t177 => ((spec_l01Times.f t176 t177 1000000000000).bind fun bt178 => (if bt178.2 = true then ((spec_l03Product.f kj2 a0_0 l0_1 a1_0 l1_1).bind fun bt180 => ((spec_l03If.f kj2 bt180.1 bt180.2).bind fun bt184 => (some (bt184.1, bt184.2.1, bt184.2.2)))) else (some (0, ([] : List Int), 3))))) = some (r1, r2, r3) := H
    have A25 := am_ A250
    clear A250
    replace H := Option.bind_eq_some_iff.mp H
    obtain ⟨t177, A260, H⟩ := H
    replace H : ((spec_l01Times.f t176 t177 1000000000000).bind fun bt178 => (if bt178.2 = true then ((spec_l03Product.f kj2 a0_0 l0_1 a1_0 l1_1).bind fun bt180 => ((spec_l03If.f kj2 bt180.1 bt180.2).bind fun bt184 => (some (bt184.1, bt184.2.1, bt184.2.2)))) else (some (0, ([] : List Int), 3)))) = some (r1, r2, r3) := H
    have A26 := am_ A260
    clear A260
    replace H := Option.bind_eq_some_iff.mp H
    obtain ⟨⟨t178, t179⟩, A270, H⟩ := H
    replace H : (if t179 = true then ((spec_l03Product.f kj2 a0_0 l0_1 a1_0 l1_1).bind fun bt180 => ((spec_l03If.f kj2 bt180.1 bt180.2).bind fun bt184 => (some (bt184.1, bt184.2.1, bt184.2.2)))) else (some (0, ([] : List Int), 3))) = some (r1, r2, r3) := H
    have A27 := am_ A270
    clear A270
    by_cases c28 : t179 = true
    ·subst c28
     have H1 : ((spec_l03Product.f kj2 a0_0 l0_1 a1_0 l1_1).bind fun bt180 => ((spec_l03If.f kj2 bt180.1 bt180.2).bind fun bt184 => (some (bt184.1, bt184.2.1, bt184.2.2)))) = some (r1, r2, r3) := by rw [if_pos rfl] at H; exact H
     clear H
     have H := H1
     clear H1
     replace H := Option.bind_eq_some_iff.mp H
     obtain ⟨⟨t180, t181⟩, A290, H⟩ := H
     replace H : ((spec_l03If.f kj2 t180 t181).bind fun bt184 => (some (bt184.1, bt184.2.1, bt184.2.2))) = some (r1, r2, r3) := H
     have A29 := am_ A290
     clear A290
     replace H := Option.bind_eq_some_iff.mp H
     obtain ⟨⟨t184, t185, t188⟩, A300, H⟩ := H
     replace H : (some (t184, t185, t188)) = some (r1, r2, r3) := H
     have A30 := am_ A300
     clear A300
     simp only [Option.some.injEq, Prod.mk.injEq] at H
     obtain ⟨rfl, rfl, rfl⟩ := H
     try go_wp2
     have n0_ := am_ (blk_drew BK171.out)
     have n1_ := am_ (blk_drew BK172.out)
     have n2_ := am_ (blk_drew BK173.out)
     have n3_ := am_ (below_drew1 HB.out)
     clear BK171 BK172 BK173 HB; revert n0_ n1_ n2_ n3_; intro BK171 BK172 BK173 HB
     refine start_ (n := 10) (S := fun w' => w'.cell? ⟨gb171, 0, none⟩ = some (.int .i64 a0_0) ∧ w'.cell? ⟨gb171, 1, none⟩ = some (.slice A0_1 l0_1.length c0_1) ∧ w'.cell? ⟨gb172, 0, none⟩ = some (.int .i64 a1_0) ∧ w'.cell? ⟨gb172, 1, none⟩ = some (.slice A1_1 l1_1.length c1_1)) (ds := []) #[false, false, false, false, false, false, false, false, false, false] (by kernel_rfl) rfl rfl ⟨bc_ BK171 0, bc_ BK171 1, bc_ BK172 0, bc_ BK172 1⟩ (fun hHeld => ?_); refine with_tabW spec_MultiplyLaurent.tab3 spec_MultiplyLaurent.bits3 (fun HT_ HW_ => ?_)
     generalize wc.drew = w31 at BK171 BK172 BK173 HB hHeld ⊢
     refine take_ (i := 0) (N := some 18) (v := ?_) (a' := ?_) #[true, false, false, false, false, false, false, false, false, false] rfl rfl (take_ofW HT_.out HW_.out (by kernel_rfl)) (fun _ _ _ h => h) (Or.inl ⟨by rfl, ?_⟩) hHeld ?_ ?_
     rotate_left
     ·rintro w' ⟨s0, s1, s2, s3⟩
      go_simp
      with_reducible rfl
     rotate_left
     ·simp only [Act.put, List.setIfInBounds_toArray, List.set_cons_zero, List.set_cons_succ, i64_w, i32_w]
      rfl
     refine take_ (i := 2) (N := some 20) (v := ?_) (a' := ?_) #[true, false, true, false, false, false, false, false, false, false] rfl rfl (take_ofW HT_.out HW_.out (by kernel_rfl)) (fun _ _ _ h => h) (Or.inl ⟨by rfl, ?_⟩) hHeld ?_ ?_
     rotate_left
     ·rintro w' ⟨s0, s1, s2, s3⟩
      go_simp
      with_reducible rfl
     rotate_left
     ·simp only [Act.put, List.setIfInBounds_toArray, List.set_cons_zero, List.set_cons_succ, i64_w, i32_w]
      rfl
     refine one_ (i := 1) (N := some 19) #[true, true, true, false, false, false, false, false, false, false] rfl rfl (one_of HT_.out (by kernel_rfl)) (by decide) (fun K hK => ?_)
     refine goes_ Try.func26 (by kernel_rfl) rfl #[.agg #[.int .i64 a0_0, .slice A0_1 l0_1.length c0_1]] (by rfl) rfl rfl lm_ ?_
     with_reducible refine (spec_l03Size.calls kj2 a0_0 _ _ l0_1 t176 _ ?side1 ?side2 A25.out).mono ?_
     (case side1 => repeat (first | exact (Kd.C_below HR0_1.out HB.out) | (with_reducible refine Kd.C_alloc ?_ _) | (with_reducible refine Kd.C_drewN ?_ _) | (with_reducible refine Kd.C_drew ?_)))
     (case side2 => exact HC0_1.out)
     rintro e w32 ⟨rfl, hb⟩
     refine ⟨_, rfl, ?_⟩
     have n0_ := am_ (bw_ BK171 hb)
     have n1_ := am_ (bw_ BK172 hb)
     have n2_ := am_ (bw_ BK173 hb)
     have n3_ := am_ (below_step (bb_ HB.out) hb)
     clear BK171 BK172 BK173 HB; revert n0_ n1_ n2_ n3_; intro BK171 BK172 BK173 HB
     (try clear hb)
     (try clear hb2)
     (try clear hk)
     (try clear hi)
     refine hK.out _ _ ⟨bc_ BK171 0, bc_ BK171 1, bc_ BK172 0, bc_ BK172 1⟩ (fun hHeld => ?_)
     clear hK K
     refine norm_ (a' := ?_) ?_ ?_
     rotate_left
     ·show Act.put _ (some 19) _ = _
      simp only [Act.put, List.setIfInBounds_toArray, List.set_cons_zero, List.set_cons_succ, i64_w, i32_w]
      rfl
     refine one_ (i := 3) (N := some 21) #[true, true, true, true, false, false, false, false, false, false] rfl rfl (one_of HT_.out (by kernel_rfl)) (by decide) (fun K hK => ?_)
     refine goes_ Try.func26 (by kernel_rfl) rfl #[.agg #[.int .i64 a1_0, .slice A1_1 l1_1.length c1_1]] (by rfl) rfl rfl lm_ ?_
     with_reducible refine (spec_l03Size.calls kj2 a1_0 _ _ l1_1 t177 _ ?side1 ?side2 A26.out).mono ?_
     (case side1 => repeat (first | exact (Kd.C_below HR1_1.out HB.out) | (with_reducible refine Kd.C_alloc ?_ _) | (with_reducible refine Kd.C_drewN ?_ _) | (with_reducible refine Kd.C_drew ?_)))
     (case side2 => exact HC1_1.out)
     rintro e w33 ⟨rfl, hb⟩
     refine ⟨_, rfl, ?_⟩
     have n0_ := am_ (bw_ BK171 hb)
     have n1_ := am_ (bw_ BK172 hb)
     have n2_ := am_ (bw_ BK173 hb)
     have n3_ := am_ (below_step (bb_ HB.out) hb)
     clear BK171 BK172 BK173 HB; revert n0_ n1_ n2_ n3_; intro BK171 BK172 BK173 HB
     (try clear hb)
     (try clear hb2)
     (try clear hk)
     (try clear hi)
     refine hK.out _ _ ⟨bc_ BK171 0, bc_ BK171 1, bc_ BK172 0, bc_ BK172 1⟩ (fun hHeld => ?_)
     clear hK K
     refine norm_ (a' := ?_) ?_ ?_
     rotate_left
     ·show Act.put _ (some 21) _ = _
      simp only [Act.put, List.setIfInBounds_toArray, List.set_cons_zero, List.set_cons_succ, i64_w, i32_w]
      rfl
     refine one_ (i := 4) (N := some 22) #[true, true, true, true, true, false, false, false, false, false] rfl rfl (one_of HT_.out (by kernel_rfl)) (by decide) (fun K hK => ?_)
     refine goes_ Try.func25 (by kernel_rfl) rfl #[.int .i64 t176, .int .i64 t177, .int .i64 1000000000000] (by rfl) rfl rfl lm_ ?_
     with_reducible refine (spec_l01Times.calls t176 t177 1000000000000 t178 true _ A27.out).mono ?_
     rintro e w34 ⟨rfl, hb⟩
     refine ⟨_, rfl, ?_⟩
     have n0_ := am_ (bw_ BK171 hb)
     have n1_ := am_ (bw_ BK172 hb)
     have n2_ := am_ (bw_ BK173 hb)
     have n3_ := am_ (below_step (bb_ HB.out) hb)
     clear BK171 BK172 BK173 HB; revert n0_ n1_ n2_ n3_; intro BK171 BK172 BK173 HB
     (try clear hb)
     (try clear hb2)
     (try clear hk)
     (try clear hi)
     refine hK.out _ _ ⟨bc_ BK171 0, bc_ BK171 1, bc_ BK172 0, bc_ BK172 1⟩ (fun hHeld => ?_)
     clear hK K
     refine norm_ (a' := ?_) ?_ ?_
     rotate_left
     ·show Act.put _ (some 22) _ = _
      simp only [Act.put, List.setIfInBounds_toArray, List.set_cons_zero, List.set_cons_succ, i64_w, i32_w]
      rfl
     refine pure_ (i := 5) (N := some 17) (v := ?_) (a' := ?_) #[true, true, true, true, true, true, false, false, false, false] rfl rfl (any_of HT_.out (by kernel_rfl)) (fun _ _ _ h => h) (Or.inl ⟨by rfl, ?_⟩) ?_ ?_
     rotate_left
     ·intro w'
      go_simp
      with_reducible rfl
     rotate_left
     ·simp only [Act.put, List.setIfInBounds_toArray, List.set_cons_zero, List.set_cons_succ, i64_w, i32_w]
      rfl
     refine pure_ (i := 6) (N := some 23) (v := ?_) (a' := ?_) #[true, true, true, true, true, true, true, false, false, false] rfl rfl (any_of HT_.out (by kernel_rfl)) (fun _ _ _ h => h) (Or.inl ⟨by rfl, ?_⟩) ?_ ?_
     rotate_left
     ·intro w'
      go_simp
      with_reducible rfl
     rotate_left
     ·simp only [Act.put, List.setIfInBounds_toArray, List.set_cons_zero, List.set_cons_succ, i64_w, i32_w]
      rfl
     refine pure_ (i := 7) (N := some 24) (v := ?_) (a' := ?_) #[true, true, true, true, true, true, true, true, false, false] rfl rfl (any_of HT_.out (by kernel_rfl)) (fun _ _ _ h => h) (Or.inl ⟨by rfl, ?_⟩) ?_ ?_
     rotate_left
     ·intro w'
      go_simp
      with_reducible rfl
     rotate_left
     ·simp only [Act.put, List.setIfInBounds_toArray, List.set_cons_zero, List.set_cons_succ, i64_w, i32_w]
      rfl
     refine pure_ (i := 8) (N := some 6) (v := ?_) (a' := ?_) #[true, true, true, true, true, true, true, true, true, false] rfl rfl (any_of HT_.out (by kernel_rfl)) (fun _ _ _ h => h) (Or.inl ⟨by rfl, ?_⟩) ?_ ?_
     rotate_left
     ·intro w'
      go_simp
      with_reducible rfl
     rotate_left
     ·simp only [Act.put, List.setIfInBounds_toArray, List.set_cons_zero, List.set_cons_succ, i64_w, i32_w]
      rfl
     refine pure_ (i := 9) (N := some 7) (v := ?_) (a' := ?_) #[true, true, true, true, true, true, true, true, true, true] rfl rfl (any_of HT_.out (by kernel_rfl)) (fun _ _ _ h => h) (Or.inl ⟨by rfl, ?_⟩) ?_ ?_
     rotate_left
     ·intro w'
      go_simp
      with_reducible rfl
     rotate_left
     ·simp only [Act.put, List.setIfInBounds_toArray, List.set_cons_zero, List.set_cons_succ, i64_w, i32_w]
      rfl
     refine done_ (done_of HT_.out (by kernel_rfl)) ?_
     have hnb35 := NB171_172.out
     have hnc35 := NB172_171.out
     have hnb36 := NB171_173.out
     have hnc36 := NB173_171.out
     have hcz37_0 : w34.cell? ⟨gb171, 0, none⟩ = some (.int .i64 a0_0) := bc_ BK171 0
     have hcz37_1 : w34.cell? ⟨gb171, 1, none⟩ = some (.slice A0_1 l0_1.length c0_1) := bc_ BK171 1
     have hfz37_0 := blk_frozen BK171.out 0
     have hfz37_1 := blk_frozen BK171.out 1
     have hnb38 := NB172_173.out
     have hnc38 := NB173_172.out
     have hcz39_0 : w34.cell? ⟨gb172, 0, none⟩ = some (.int .i64 a1_0) := bc_ BK172 0
     have hcz39_1 : w34.cell? ⟨gb172, 1, none⟩ = some (.slice A1_1 l1_1.length c1_1) := bc_ BK172 1
     have hfz39_0 := blk_frozen BK172.out 0
     have hfz39_1 := blk_frozen BK172.out 1
     try go_wp2_with (first | ((with_reducible refine gate_callee (f := 27) rfl ?_); refine goesL_ (some 30) rfl rfl Try.func27 (by kernel_rfl) rfl #[.agg #[.int .i64 a0_0, .slice A0_1 l0_1.length c0_1], .agg #[.int .i64 a1_0, .slice A1_1 l1_1.length c1_1]] rfl lm_ ?_; (with_reducible refine (spec_l03Product.calls kj2 a0_0 _ _ l0_1 a1_0 _ _ l1_1 t180 t181 _ ?side1 ?side2 ?side3 ?side4 A29.out).mono ?_); (case side1 => repeat (first | exact (Kd.C_below HR0_1.out HB.out) | (with_reducible refine Kd.C_alloc ?_ _) | (with_reducible refine Kd.C_drewN ?_ _) | (with_reducible refine Kd.C_drew ?_))); (case side2 => exact HC0_1.out); (case side3 => repeat (first | exact (Kd.C_below HR1_1.out HB.out) | (with_reducible refine Kd.C_alloc ?_ _) | (with_reducible refine Kd.C_drewN ?_ _) | (with_reducible refine Kd.C_drew ?_))); (case side4 => exact HC1_1.out); rintro e w40 ⟨v182, rfl, ho0, hb⟩; refine ⟨_, rfl, ?_⟩; have n0_ := am_ (Kd.R_lower ho0 (below_size (bb_ HB.out))); have n1_ := am_ (bw_ BK171 hb); have n2_ := am_ (bw_ BK172 hb); have n3_ := am_ (bw_ BK173 hb); have n4_ := am_ (below_step (bb_ HB.out) hb); clear BK171 BK172 BK173 HB; revert n0_ n1_ n2_ n3_ n4_; intro HO183 BK171 BK172 BK173 HB; (try clear hb); (try clear hb2); (try clear hk); (try clear hi); (try clear ho0); obtain ⟨Ao41, co41, eo41⟩ := Kd.R_slice HO183.out; subst eo41) | ((with_reducible refine gate_callee (f := 16) rfl ?_); refine goesL_ (some 31) rfl rfl Try.func16 (by kernel_rfl) rfl #[.agg #[.int .i64 t180, .slice Ao41 t181.length co41]] rfl lm_ ?_; (with_reducible refine (spec_l03If.calls kj2 t180 (fun k_ => some k_ = (.slice Ao41 t181.length co41 : Value).ownBlock) (.slice Ao41 t181.length co41) t181 t184 t185 t188 w _ ?side1 ?side2 A30.out).mono ?_); (case side1 => repeat (first | (with_reducible first | exact HB.out | apply below_alloc | apply pw_below_drewN | apply below_drew1 | refine below_set ?_ GE171.out | refine below_set ?_ GE172.out | refine below_set ?_ GE173.out) | exact HB.out)); (case side2 => exact Kd.R_tight rfl HO183.out); rintro e w42 ⟨v186, rfl, ho0, hb, hkp⟩; refine ⟨_, rfl, ?_⟩; have n0_ := am_ (blk_kept (bk_ BK171.out) hkp (fun hs_ => (fun e_ => (Kd.R_ne HO183.out BK171.out (by decide)) e_) hs_)); have n1_ := am_ (blk_kept (bk_ BK172.out) hkp (fun hs_ => (fun e_ => (Kd.R_ne HO183.out BK172.out (by decide)) e_) hs_)); have n2_ := am_ (blk_kept (bk_ BK173.out) hkp (fun hs_ => (fun e_ => (Kd.R_ne HO183.out BK173.out (by decide)) e_) hs_)); have n3_ := am_ (Kd.R_mono (ok' := fun k_ => True) ho0 (fun k_ hk_ => trivial)); have n4_ := am_ (hb); clear BK171 BK172 BK173 HB HO183; revert n0_ n1_ n2_ n3_ n4_; intro BK171 BK172 BK173 HO187 HB; (try clear hb); (try clear hkp); (try clear ho0); have hcz43_0 : w42.cell? ⟨gb173, 0, none⟩ = some (.int .i64 0) := bc_ BK173 0; have hcz43_1 : w42.cell? ⟨gb173, 1, none⟩ = some (.slice none 0 0) := bc_ BK173 1; have hfz43_0 := blk_frozen BK173.out 0; have hfz43_1 := blk_frozen BK173.out 1; obtain ⟨Ao44, co44, eo44⟩ := Kd.R_slice HO187.out; subst eo44))
     refine bodyPost_ret (results_ct rfl _ _ gb173 26 #[.int .i64 t184, .slice Ao44 t185.length co44] (0, 0) _ rfl (by (with_reducible repeat (first | refine blk_drewN ?_ _ | refine blk_drew ?_ | refine blk_alloc ?_ _)); refine blk_put (cs := #[.int .i64 t184, .slice none 0 0]) ?_ 1 _ rfl; (with_reducible repeat (first | refine blk_drewN ?_ _ | refine blk_drew ?_ | refine blk_alloc ?_ _)); refine blk_put (cs := #[.int .i64 0, .slice none 0 0]) ?_ 0 _ rfl; (with_reducible repeat (first | refine blk_drewN ?_ _ | refine blk_drew ?_ | refine blk_alloc ?_ _)); exact BK173.out) Try.underlying26 rfl (by kernel_rfl)) rfl ?_
     exact ⟨_, by first | rfl | (simp [errW_none, errW_some] <;> rfl) | (simp [*, errW_none, errW_some] <;> rfl), rm_ (Kd.R_far (p := ⟨gb173, 1, none⟩) (Kd.R_far (p := ⟨gb173, 0, none⟩) (Kd.R_types HO187.out BK173.out (by decide)) (fun _ hk => hk.2) (.int .i64 t184)) (fun _ hk => hk.2) (.slice Ao44 t185.length co44)) (fun _ hk => trivial), by repeat (first | (with_reducible first | exact HB.out | apply below_alloc | apply pw_below_drewN | apply below_drew1 | refine below_set ?_ GE171.out | refine below_set ?_ GE172.out | refine below_set ?_ GE173.out) | exact HB.out)⟩
    ·replace c28 := Bool.eq_false_iff.mpr c28
     subst c28
     have H1 : (some (0, ([] : List Int), 3)) = some (r1, r2, r3) := by rw [if_neg (show ¬ (false = true) by decide)] at H; exact H
     clear H
     have H := H1
     clear H1
     simp only [Option.some.injEq, Prod.mk.injEq] at H
     obtain ⟨rfl, rfl, rfl⟩ := H
     try go_wp2
     have n0_ := am_ (blk_drew BK171.out)
     have n1_ := am_ (blk_drew BK172.out)
     have n2_ := am_ (blk_drew BK173.out)
     have n3_ := am_ (below_drew1 HB.out)
     clear BK171 BK172 BK173 HB; revert n0_ n1_ n2_ n3_; intro BK171 BK172 BK173 HB
     refine start_ (n := 10) (S := fun w' => w'.cell? ⟨gb171, 0, none⟩ = some (.int .i64 a0_0) ∧ w'.cell? ⟨gb171, 1, none⟩ = some (.slice A0_1 l0_1.length c0_1) ∧ w'.cell? ⟨gb172, 0, none⟩ = some (.int .i64 a1_0) ∧ w'.cell? ⟨gb172, 1, none⟩ = some (.slice A1_1 l1_1.length c1_1)) (ds := []) #[false, false, false, false, false, false, false, false, false, false] (by kernel_rfl) rfl rfl ⟨bc_ BK171 0, bc_ BK171 1, bc_ BK172 0, bc_ BK172 1⟩ (fun hHeld => ?_); refine with_tabW spec_MultiplyLaurent.tab3 spec_MultiplyLaurent.bits3 (fun HT_ HW_ => ?_)
     generalize wc.drew = w45 at BK171 BK172 BK173 HB hHeld ⊢
     refine take_ (i := 0) (N := some 18) (v := ?_) (a' := ?_) #[true, false, false, false, false, false, false, false, false, false] rfl rfl (take_ofW HT_.out HW_.out (by kernel_rfl)) (fun _ _ _ h => h) (Or.inl ⟨by rfl, ?_⟩) hHeld ?_ ?_
     rotate_left
     ·rintro w' ⟨s0, s1, s2, s3⟩
      go_simp
      with_reducible rfl
     rotate_left
     ·simp only [Act.put, List.setIfInBounds_toArray, List.set_cons_zero, List.set_cons_succ, i64_w, i32_w]
      rfl
     refine take_ (i := 2) (N := some 20) (v := ?_) (a' := ?_) #[true, false, true, false, false, false, false, false, false, false] rfl rfl (take_ofW HT_.out HW_.out (by kernel_rfl)) (fun _ _ _ h => h) (Or.inl ⟨by rfl, ?_⟩) hHeld ?_ ?_
     rotate_left
     ·rintro w' ⟨s0, s1, s2, s3⟩
      go_simp
      with_reducible rfl
     rotate_left
     ·simp only [Act.put, List.setIfInBounds_toArray, List.set_cons_zero, List.set_cons_succ, i64_w, i32_w]
      rfl
     refine one_ (i := 1) (N := some 19) #[true, true, true, false, false, false, false, false, false, false] rfl rfl (one_of HT_.out (by kernel_rfl)) (by decide) (fun K hK => ?_)
     refine goes_ Try.func26 (by kernel_rfl) rfl #[.agg #[.int .i64 a0_0, .slice A0_1 l0_1.length c0_1]] (by rfl) rfl rfl lm_ ?_
     with_reducible refine (spec_l03Size.calls kj2 a0_0 _ _ l0_1 t176 _ ?side1 ?side2 A25.out).mono ?_
     (case side1 => repeat (first | exact (Kd.C_below HR0_1.out HB.out) | (with_reducible refine Kd.C_alloc ?_ _) | (with_reducible refine Kd.C_drewN ?_ _) | (with_reducible refine Kd.C_drew ?_)))
     (case side2 => exact HC0_1.out)
     rintro e w46 ⟨rfl, hb⟩
     refine ⟨_, rfl, ?_⟩
     have n0_ := am_ (bw_ BK171 hb)
     have n1_ := am_ (bw_ BK172 hb)
     have n2_ := am_ (bw_ BK173 hb)
     have n3_ := am_ (below_step (bb_ HB.out) hb)
     clear BK171 BK172 BK173 HB; revert n0_ n1_ n2_ n3_; intro BK171 BK172 BK173 HB
     (try clear hb)
     (try clear hb2)
     (try clear hk)
     (try clear hi)
     refine hK.out _ _ ⟨bc_ BK171 0, bc_ BK171 1, bc_ BK172 0, bc_ BK172 1⟩ (fun hHeld => ?_)
     clear hK K
     refine norm_ (a' := ?_) ?_ ?_
     rotate_left
     ·show Act.put _ (some 19) _ = _
      simp only [Act.put, List.setIfInBounds_toArray, List.set_cons_zero, List.set_cons_succ, i64_w, i32_w]
      rfl
     refine one_ (i := 3) (N := some 21) #[true, true, true, true, false, false, false, false, false, false] rfl rfl (one_of HT_.out (by kernel_rfl)) (by decide) (fun K hK => ?_)
     refine goes_ Try.func26 (by kernel_rfl) rfl #[.agg #[.int .i64 a1_0, .slice A1_1 l1_1.length c1_1]] (by rfl) rfl rfl lm_ ?_
     with_reducible refine (spec_l03Size.calls kj2 a1_0 _ _ l1_1 t177 _ ?side1 ?side2 A26.out).mono ?_
     (case side1 => repeat (first | exact (Kd.C_below HR1_1.out HB.out) | (with_reducible refine Kd.C_alloc ?_ _) | (with_reducible refine Kd.C_drewN ?_ _) | (with_reducible refine Kd.C_drew ?_)))
     (case side2 => exact HC1_1.out)
     rintro e w47 ⟨rfl, hb⟩
     refine ⟨_, rfl, ?_⟩
     have n0_ := am_ (bw_ BK171 hb)
     have n1_ := am_ (bw_ BK172 hb)
     have n2_ := am_ (bw_ BK173 hb)
     have n3_ := am_ (below_step (bb_ HB.out) hb)
     clear BK171 BK172 BK173 HB; revert n0_ n1_ n2_ n3_; intro BK171 BK172 BK173 HB
     (try clear hb)
     (try clear hb2)
     (try clear hk)
     (try clear hi)
     refine hK.out _ _ ⟨bc_ BK171 0, bc_ BK171 1, bc_ BK172 0, bc_ BK172 1⟩ (fun hHeld => ?_)
     clear hK K
     refine norm_ (a' := ?_) ?_ ?_
     rotate_left
     ·show Act.put _ (some 21) _ = _
      simp only [Act.put, List.setIfInBounds_toArray, List.set_cons_zero, List.set_cons_succ, i64_w, i32_w]
      rfl
     refine one_ (i := 4) (N := some 22) #[true, true, true, true, true, false, false, false, false, false] rfl rfl (one_of HT_.out (by kernel_rfl)) (by decide) (fun K hK => ?_)
     refine goes_ Try.func25 (by kernel_rfl) rfl #[.int .i64 t176, .int .i64 t177, .int .i64 1000000000000] (by rfl) rfl rfl lm_ ?_
     with_reducible refine (spec_l01Times.calls t176 t177 1000000000000 t178 false _ A27.out).mono ?_
     rintro e w48 ⟨rfl, hb⟩
     refine ⟨_, rfl, ?_⟩
     have n0_ := am_ (bw_ BK171 hb)
     have n1_ := am_ (bw_ BK172 hb)
     have n2_ := am_ (bw_ BK173 hb)
     have n3_ := am_ (below_step (bb_ HB.out) hb)
     clear BK171 BK172 BK173 HB; revert n0_ n1_ n2_ n3_; intro BK171 BK172 BK173 HB
     (try clear hb)
     (try clear hb2)
     (try clear hk)
     (try clear hi)
     refine hK.out _ _ ⟨bc_ BK171 0, bc_ BK171 1, bc_ BK172 0, bc_ BK172 1⟩ (fun hHeld => ?_)
     clear hK K
     refine norm_ (a' := ?_) ?_ ?_
     rotate_left
     ·show Act.put _ (some 22) _ = _
      simp only [Act.put, List.setIfInBounds_toArray, List.set_cons_zero, List.set_cons_succ, i64_w, i32_w]
      rfl
     refine pure_ (i := 5) (N := some 17) (v := ?_) (a' := ?_) #[true, true, true, true, true, true, false, false, false, false] rfl rfl (any_of HT_.out (by kernel_rfl)) (fun _ _ _ h => h) (Or.inl ⟨by rfl, ?_⟩) ?_ ?_
     rotate_left
     ·intro w'
      go_simp
      with_reducible rfl
     rotate_left
     ·simp only [Act.put, List.setIfInBounds_toArray, List.set_cons_zero, List.set_cons_succ, i64_w, i32_w]
      rfl
     refine pure_ (i := 6) (N := some 23) (v := ?_) (a' := ?_) #[true, true, true, true, true, true, true, false, false, false] rfl rfl (any_of HT_.out (by kernel_rfl)) (fun _ _ _ h => h) (Or.inl ⟨by rfl, ?_⟩) ?_ ?_
     rotate_left
     ·intro w'
      go_simp
      with_reducible rfl
     rotate_left
     ·simp only [Act.put, List.setIfInBounds_toArray, List.set_cons_zero, List.set_cons_succ, i64_w, i32_w]
      rfl
     refine pure_ (i := 7) (N := some 24) (v := ?_) (a' := ?_) #[true, true, true, true, true, true, true, true, false, false] rfl rfl (any_of HT_.out (by kernel_rfl)) (fun _ _ _ h => h) (Or.inl ⟨by rfl, ?_⟩) ?_ ?_
     rotate_left
     ·intro w'
      go_simp
      with_reducible rfl
     rotate_left
     ·simp only [Act.put, List.setIfInBounds_toArray, List.set_cons_zero, List.set_cons_succ, i64_w, i32_w]
      rfl
     refine pure_ (i := 8) (N := some 6) (v := ?_) (a' := ?_) #[true, true, true, true, true, true, true, true, true, false] rfl rfl (any_of HT_.out (by kernel_rfl)) (fun _ _ _ h => h) (Or.inl ⟨by rfl, ?_⟩) ?_ ?_
     rotate_left
     ·intro w'
      go_simp
      with_reducible rfl
     rotate_left
     ·simp only [Act.put, List.setIfInBounds_toArray, List.set_cons_zero, List.set_cons_succ, i64_w, i32_w]
      rfl
     refine pure_ (i := 9) (N := some 7) (v := ?_) (a' := ?_) #[true, true, true, true, true, true, true, true, true, true] rfl rfl (any_of HT_.out (by kernel_rfl)) (fun _ _ _ h => h) (Or.inl ⟨by rfl, ?_⟩) ?_ ?_
     rotate_left
     ·intro w'
      go_simp
      with_reducible rfl
     rotate_left
     ·simp only [Act.put, List.setIfInBounds_toArray, List.set_cons_zero, List.set_cons_succ, i64_w, i32_w]
      rfl
     refine done_ (done_of HT_.out (by kernel_rfl)) ?_
     have hnb49 := NB173_171.out
     have hnc49 := NB171_173.out
     have hnb50 := NB173_172.out
     have hnc50 := NB172_173.out
     have hcz51_0 : w48.cell? ⟨gb173, 0, none⟩ = some (.int .i64 0) := bc_ BK173 0
     have hcz51_1 : w48.cell? ⟨gb173, 1, none⟩ = some (.slice none 0 0) := bc_ BK173 1
     have hfz51_0 := blk_frozen BK173.out 0
     have hfz51_1 := blk_frozen BK173.out 1
     try go_wp2
     refine bodyPost_ret (results_ct rfl _ _ gb173 26 #[.int .i64 0, .slice none 0 0] (0, 0) _ rfl (by (with_reducible repeat (first | refine blk_drewN ?_ _ | refine blk_drew ?_ | refine blk_alloc ?_ _)); refine blk_put (cs := #[.int .i64 0, .slice none 0 0]) ?_ 1 _ rfl; (with_reducible repeat (first | refine blk_drewN ?_ _ | refine blk_drew ?_ | refine blk_alloc ?_ _)); refine blk_put (cs := #[.int .i64 0, .slice none 0 0]) ?_ 0 _ rfl; (with_reducible repeat (first | refine blk_drewN ?_ _ | refine blk_drew ?_ | refine blk_alloc ?_ _)); exact BK173.out) Try.underlying26 rfl (by kernel_rfl)) rfl ?_
     exact ⟨_, by first | rfl | (simp [errW_none, errW_some] <;> rfl) | (simp [*, errW_none, errW_some] <;> rfl), by first | exact Kd.R_nil _ _ _ _ _ | exact Kd.N_nil _ _ _ _ _ | exact Kd.V_nil _ _ _ _ _ | exact Kd.Q_nil _ _ _ _ _ | exact Kd.S_nil _ _ _ _ _, by repeat (first | (with_reducible first | exact HB.out | apply below_alloc | apply pw_below_drewN | apply below_drew1 | refine below_set ?_ GE171.out | refine below_set ?_ GE172.out | refine below_set ?_ GE173.out) | exact HB.out)⟩

/-! ### impl_size_int64: function 35 -/
def impl_size_int64.f (l0 : List Int) : Option (Int) := some (l0.length : Int)
set_option maxHeartbeats 8000000 in
set_option maxRecDepth 100000 in
theorem impl_size_int64.calls (A0 : Option Addr) (c0 : Nat) (l0 : List Int) (r : Int) (w : World) (hr0 : Kd.C (Kd.int .i64) w A0 l0.length l0) (hc0 : l0.length ≤ c0) (h : impl_size_int64.f l0 = some r) :
    Calls Try.prog 35 #[.slice A0 l0.length c0] w fun e w' => e = .returned (.int .i64 r) ∧ Drawn0 w w' := by
  have HR0 := Aside0.mk hr0
  have HC0 := Aside0.mk hc0
  clear hr0 hc0
  have H : (some (l0.length : Int)) = some r := h
  clear h
  obtain rfl := Option.some.inj H
  go_enter Try.func35, Try.ntmps35
  go_wp2
  go_ret
  exact ⟨by first | rfl | (simp; done) | (simp [*]; done), by repeat (first | exact Drawn0.refl _ | apply Drawn0.step)⟩

theorem sizeInts (A : Option Addr) (c : Nat) (l : List Int) (w : World) : Calls Try.prog 35 #[.slice A l.length c] w fun e w' => e = .returned (.int .i64 l.length) ∧ w' = w := by
  go_enter Try.func35, Try.ntmps35
  go_wp2
  go_ret
  exact ⟨rfl, rfl⟩

/-! ### impl_Laurent_high: function 20 -/
def impl_Laurent_high.f (a0_0 : Int) (l0_1 : List Int) : Option (Int) := (impl_size_int64.f l0_1).bind fun t190 => (some (wrap64 ((wrap64 (a0_0 + t190)) - 1)))
set_option maxHeartbeats 8000000 in
set_option maxRecDepth 100000 in
theorem impl_Laurent_high.calls (a0_0 : Int) (A0_1 : Option Addr) (c0_1 : Nat) (l0_1 : List Int) (r : Int) (w : World) (hr0_1 : Kd.C (Kd.int .i64) w A0_1 l0_1.length l0_1) (hc0_1 : l0_1.length ≤ c0_1) (h : impl_Laurent_high.f a0_0 l0_1 = some r) :
    Calls Try.prog 20 #[.agg #[.int .i64 a0_0, .slice A0_1 l0_1.length c0_1]] w fun e w' => e = .returned (.int .i64 r) ∧ Below w.heap.size w w' := by
  have hu26 := Try.underlying26
  have HR0_1 := Aside0.mk hr0_1
  have HC0_1 := Aside0.mk hc0_1
  clear hr0_1 hc0_1
  have HB := Aside0.mk (Below.refl w.heap.size w)
  have H : ((impl_size_int64.f l0_1).bind fun t190 => (some (wrap64 ((wrap64 (a0_0 + t190)) - 1)))) = some r := h
  clear h
  replace H := Option.bind_eq_some_iff.mp H
  obtain ⟨t190, A20, H⟩ := H
  replace H : (some (wrap64 ((wrap64 (a0_0 + t190)) - 1))) = some r := H
  have A2 := Aside0.mk A20
  clear A20
  obtain rfl := Option.some.inj H
  go_enter Try.func20, Try.ntmps20
  go_wp2_with (first | ((with_reducible refine gate_dst (N := 1) rfl ?_); refine box_event ?hg (N := 1) ?hd (cs := #[.int .i64 a0_0, .slice A0_1 l0_1.length c0_1]) (t := 26) ?hr ?_; (case hd => rfl); (case hg => rfl); (case hr => first | (go_simp; done) | (go_simp; rfl)); intro gb189 hg w3 hbox hb; have n0_ := Aside0.mk (below_step (by repeat (first | (with_reducible first | exact HB.out | apply below_alloc | apply pw_below_drewN | apply below_drew1) | exact HB.out)) hb); have n1_ := Aside0.mk (hbox); have n2_ := Aside0.mk ((by rw [hg]; exact (below_size (by repeat (first | (with_reducible first | exact HB.out | apply below_alloc | apply pw_below_drewN | apply below_drew1) | exact HB.out))) : w.heap.size ≤ gb189)); have n3_ := Aside0.mk ((by rw [hg]; exact (below_size (by repeat (first | (with_reducible first | exact HB.out | apply below_alloc | apply pw_below_drewN | apply below_drew1) | exact HB.out))) : w.heap.size ≤ gb189)); clear HB; have HB := n0_; have BK189 := n1_; have GW189 := n2_; have GE189 := n3_; clear n0_ n1_ n2_ n3_; clear hb hbox hg; have hcz4_0 : w3.cell? ⟨gb189, 0, none⟩ = some (.int .i64 a0_0) := (blk_cell BK189.out 0).trans rfl; have hcz4_1 : w3.cell? ⟨gb189, 1, none⟩ = some (.slice A0_1 l0_1.length c0_1) := (blk_cell BK189.out 1).trans rfl; have hfz4_0 := blk_frozen BK189.out 0; have hfz4_1 := blk_frozen BK189.out 1) | (go_at_call 35; (with_reducible refine (impl_size_int64.calls _ _ l0_1 t190 _ ?side1 ?side2 A2.out).mono ?_); (case side1 => repeat (first | exact (Kd.C_below HR0_1.out HB.out) | (with_reducible refine Kd.C_alloc ?_ _) | (with_reducible refine Kd.C_drewN ?_ _) | (with_reducible refine Kd.C_drew ?_))); (case side2 => exact HC0_1.out); rintro e w' ⟨rfl, ⟨nd, rfl⟩⟩; (try first | exact ⟨rfl, _, World.drewN_drewN _ _ _⟩ | exact ⟨rfl, _, Eq.trans (World.drewN_drewN _ _ _) (congrArg (World.drewN _) (Nat.add_assoc _ _ _))⟩)))
  repeat (go_quiet (first | ((with_reducible refine gate_dst (N := 1) rfl ?_); refine box_event ?hg (N := 1) ?hd (cs := #[.int .i64 a0_0, .slice A0_1 l0_1.length c0_1]) (t := 26) ?hr ?_; (case hd => rfl); (case hg => rfl); (case hr => first | (go_simp; done) | (go_simp; rfl)); intro gb189 hg w3 hbox hb; have n0_ := Aside0.mk (below_step (by repeat (first | (with_reducible first | exact HB.out | apply below_alloc | apply pw_below_drewN | apply below_drew1) | exact HB.out)) hb); have n1_ := Aside0.mk (hbox); have n2_ := Aside0.mk ((by rw [hg]; exact (below_size (by repeat (first | (with_reducible first | exact HB.out | apply below_alloc | apply pw_below_drewN | apply below_drew1) | exact HB.out))) : w.heap.size ≤ gb189)); have n3_ := Aside0.mk ((by rw [hg]; exact (below_size (by repeat (first | (with_reducible first | exact HB.out | apply below_alloc | apply pw_below_drewN | apply below_drew1) | exact HB.out))) : w.heap.size ≤ gb189)); clear HB; have HB := n0_; have BK189 := n1_; have GW189 := n2_; have GE189 := n3_; clear n0_ n1_ n2_ n3_; clear hb hbox hg; have hcz4_0 : w3.cell? ⟨gb189, 0, none⟩ = some (.int .i64 a0_0) := (blk_cell BK189.out 0).trans rfl; have hcz4_1 : w3.cell? ⟨gb189, 1, none⟩ = some (.slice A0_1 l0_1.length c0_1) := (blk_cell BK189.out 1).trans rfl; have hfz4_0 := blk_frozen BK189.out 0; have hfz4_1 := blk_frozen BK189.out 1) | (go_at_call 35; (with_reducible refine (impl_size_int64.calls _ _ l0_1 t190 _ ?side1 ?side2 A2.out).mono ?_); (case side1 => repeat (first | exact (Kd.C_below HR0_1.out HB.out) | (with_reducible refine Kd.C_alloc ?_ _) | (with_reducible refine Kd.C_drewN ?_ _) | (with_reducible refine Kd.C_drew ?_))); (case side2 => exact HC0_1.out); rintro e w' ⟨rfl, ⟨nd, rfl⟩⟩; (try first | exact ⟨rfl, _, World.drewN_drewN _ _ _⟩ | exact ⟨rfl, _, Eq.trans (World.drewN_drewN _ _ _) (congrArg (World.drewN _) (Nat.add_assoc _ _ _))⟩))); try go_wp2_with (first | ((with_reducible refine gate_dst (N := 1) rfl ?_); refine box_event ?hg (N := 1) ?hd (cs := #[.int .i64 a0_0, .slice A0_1 l0_1.length c0_1]) (t := 26) ?hr ?_; (case hd => rfl); (case hg => rfl); (case hr => first | (go_simp; done) | (go_simp; rfl)); intro gb189 hg w3 hbox hb; have n0_ := Aside0.mk (below_step (by repeat (first | (with_reducible first | exact HB.out | apply below_alloc | apply pw_below_drewN | apply below_drew1) | exact HB.out)) hb); have n1_ := Aside0.mk (hbox); have n2_ := Aside0.mk ((by rw [hg]; exact (below_size (by repeat (first | (with_reducible first | exact HB.out | apply below_alloc | apply pw_below_drewN | apply below_drew1) | exact HB.out))) : w.heap.size ≤ gb189)); have n3_ := Aside0.mk ((by rw [hg]; exact (below_size (by repeat (first | (with_reducible first | exact HB.out | apply below_alloc | apply pw_below_drewN | apply below_drew1) | exact HB.out))) : w.heap.size ≤ gb189)); clear HB; have HB := n0_; have BK189 := n1_; have GW189 := n2_; have GE189 := n3_; clear n0_ n1_ n2_ n3_; clear hb hbox hg; have hcz4_0 : w3.cell? ⟨gb189, 0, none⟩ = some (.int .i64 a0_0) := (blk_cell BK189.out 0).trans rfl; have hcz4_1 : w3.cell? ⟨gb189, 1, none⟩ = some (.slice A0_1 l0_1.length c0_1) := (blk_cell BK189.out 1).trans rfl; have hfz4_0 := blk_frozen BK189.out 0; have hfz4_1 := blk_frozen BK189.out 1) | (go_at_call 35; (with_reducible refine (impl_size_int64.calls _ _ l0_1 t190 _ ?side1 ?side2 A2.out).mono ?_); (case side1 => repeat (first | exact (Kd.C_below HR0_1.out HB.out) | (with_reducible refine Kd.C_alloc ?_ _) | (with_reducible refine Kd.C_drewN ?_ _) | (with_reducible refine Kd.C_drew ?_))); (case side2 => exact HC0_1.out); rintro e w' ⟨rfl, ⟨nd, rfl⟩⟩; (try first | exact ⟨rfl, _, World.drewN_drewN _ _ _⟩ | exact ⟨rfl, _, Eq.trans (World.drewN_drewN _ _ _) (congrArg (World.drewN _) (Nat.add_assoc _ _ _))⟩))))
  go_ret
  exact ⟨by first | rfl | (simp [errW_none, errW_some] <;> rfl) | (simp [*, errW_none, errW_some] <;> rfl), by repeat (first | (with_reducible first | exact HB.out | apply below_alloc | apply pw_below_drewN | apply below_drew1 | refine below_set ?_ GE189.out) | exact HB.out)⟩

/-! ### impl_inRange: function 42 -/
def impl_inRange.f (a0 : Int) (a1 : Int) (a2 : Int) : Option (Bool) := if a1 ≤ a0 then (some (decide (a0 ≤ a2))) else (some false)
set_option maxHeartbeats 8000000 in
set_option maxRecDepth 100000 in
theorem impl_inRange.calls (a0 : Int) (a1 : Int) (a2 : Int) (r : Bool) (w : World) (h : impl_inRange.f a0 a1 a2 = some r) :
    Calls Try.prog 42 #[.int .i64 a0, .int .i64 a1, .int .i64 a2] w fun e w' => e = .returned (.bool r) ∧ Drawn0 w w' := by
  have H : (if a1 ≤ a0 then (some (decide (a0 ≤ a2))) else (some false)) = some r := h
  clear h
  by_cases c4 : a1 ≤ a0
  · rw [if_pos c4] at H
    have c4b0 : decide (a1 ≤ a0) = true := decide_eq_true c4
    clear c4
    obtain rfl := Option.some.inj H
    go_enter Try.func42, Try.ntmps42
    go_wp2
    go_ret
    exact ⟨by first | rfl | (simp; done) | (simp [*]; done), by repeat (first | exact Drawn0.refl _ | apply Drawn0.step)⟩
  · rw [if_neg c4] at H
    have c4b0 : decide (a1 ≤ a0) = false := decide_eq_false c4
    clear c4
    obtain rfl := Option.some.inj H
    go_enter Try.func42, Try.ntmps42
    go_wp2
    go_ret
    exact ⟨by first | rfl | (simp; done) | (simp [*]; done), by repeat (first | exact Drawn0.refl _ | apply Drawn0.step)⟩

theorem inRange_t (x a b : Int) (w : World) (h1 : a ≤ x) (h2 : x ≤ b) : Calls Try.prog 42 #[.int .i64 x, .int .i64 a, .int .i64 b] w fun e w' => e = .returned (.bool true) ∧ w' = w := by
  have e1 : decide (a ≤ x) = true := decide_eq_true h1
  have e2 : decide (x ≤ b) = true := decide_eq_true h2
  clear h1 h2
  go_enter Try.func42, Try.ntmps42
  go_wp2
  go_ret
  exact ⟨rfl, rfl⟩
theorem inRange_f (x a b : Int) (w : World) (h : ¬ (a ≤ x ∧ x ≤ b)) : Calls Try.prog 42 #[.int .i64 x, .int .i64 a, .int .i64 b] w fun e w' => e = .returned (.bool false) ∧ w' = w := by
  by_cases h1 : a ≤ x
  · have e1 : decide (a ≤ x) = true := decide_eq_true h1
    have e2 : decide (x ≤ b) = false := decide_eq_false fun h2 => h ⟨h1, h2⟩
    clear h1 h
    go_enter Try.func42, Try.ntmps42
    go_wp2
    go_ret
    exact ⟨rfl, rfl⟩
  · have e1 : decide (a ≤ x) = false := decide_eq_false h1
    clear h1 h
    go_enter Try.func42, Try.ntmps42
    go_wp2
    go_ret
    exact ⟨rfl, rfl⟩


/-! ### slices_IndexFunc_int64_int64: function 44 -/
/-- The first place at which p holds, counted from i on, or -1. -/
def idxOf {α : Type} (p : α → Bool) : List α → Int → Int
  | [], _ => -1
  | x :: r, i => if p x = true then i else idxOf p r (i + 1)
theorem idxOf_any {α : Type} (p : α → Bool) : ∀ (l : List α) (i : Int), 0 ≤ i → decide (0 ≤ idxOf p l i) = l.any p
  | [], i, _ => by simp [idxOf]
  | x :: r, i, h => by
    unfold idxOf
    by_cases hp : p x = true
    · simp [hp, h]
    · rw [if_neg hp, idxOf_any p r (i + 1) (by omega)]
      simp [hp]
theorem rd_drop (l : List Int) (k : Nat) (h : k < l.length) : l.drop k = rd l k :: l.drop (k + 1) := by
  rw [List.drop_eq_getElem_cons h]
  simp [rd, List.getD, List.getElem?_eq_getElem h]
theorem rd_mem (l : List Int) (k : Nat) (h : k < l.length) : rd l k ∈ l := by
  simp [rd, List.getD, List.getElem?_eq_getElem h]
set_option maxHeartbeats 8000000 in
set_option maxRecDepth 100000 in
theorem indexInts (g : Nat) (lb : Array Value) (eg : ∀ args W, (callFunc g args).run Try.prog W = .ok (.enter g args) W)
    (p : Int → Bool) (A0 : Option Addr) (c0 : Nat) (l0 : List Int) (w : World) (hr0 : Kd.C (Kd.int .i64) w A0 l0.length l0)
    (hp : ∀ (W : World) (x : Int), x ∈ l0 → Below w.heap.size w W → Calls Try.prog g (#[.int .i64 x] ++ lb) W fun e w' => e = .returned (.bool (p x)) ∧ Below W.heap.size W w') :
    Calls Try.prog 44 #[.slice A0 l0.length c0, .func (.func g) #[] lb] w fun e w' => e = .returned (.int .i64 (idxOf p l0 0)) ∧ Below w.heap.size w w' := by
  have hbig := hr0.2.1
  have HR0 := Aside0.mk hr0
  have HP := Aside0.mk hp
  clear hr0 hp
  go_enter Try.func44, Try.ntmps44
  go_wp2
  go_loopg [5, 8] l0.length (fun gg _ s8 wr => ∃ kk : Nat, kk ≤ l0.length ∧ l0.length - kk ≤ gg ∧ s8 = .int .i64 kk ∧ Aside0 (Below w.heap.size w wr) ∧ Aside0 (idxOf p l0 0 = idxOf p (l0.drop kk) kk))
  case atStart => exact ⟨0, Nat.zero_le _, by omega, rfl, ⟨Below.refl _ w⟩, ⟨by simp⟩⟩
  case round =>
    obtain ⟨kk, hkk, hg, rfl, BW, AI⟩ := hrel
    by_cases hlt : kk < l0.length
    · have hltz : (kk : Int) < (l0.length : Int) := by omega
      obtain ⟨ad, e, hx0⟩ := Kd.at_int HR0.out (kk : Int) (by omega) (by omega)
      cases e
      have hx : wr.cell? (ad.add kk) = some (.int .i64 (rd l0 kk)) := by
        have := (BW.out.cell (World.block_lt_of_cell? w _ hx0)).trans hx0
        simpa using this
      clear hx0
      have hcall := HP.out wr (rd l0 kk) (rd_mem l0 kk hlt) BW.out
      have AD := Aside0.mk (rd_drop l0 kk hlt)
      generalize rd l0 kk = y at hx hcall AD
      cases hq : p y with
      | true =>
        rw [hq] at hcall
        have HQ := Aside0.mk hq
        clear hq
        go_wp2_with ((with_reducible refine hcall.mono ?_); rintro e w' ⟨rfl, hb'⟩)
        go_ret
        refine ⟨?_, BW.out.trans (hb'.mono BW.out.size)⟩
        rw [AI.out, AD.out]
        simp [idxOf, HQ.out]
      | false =>
        rw [hq] at hcall
        have HQ := Aside0.mk hq
        clear hq
        go_wp2_with ((with_reducible refine hcall.mono ?_); rintro e w' ⟨rfl, hb'⟩)
        go_roundg (l0.length - (kk + 1))
        case measure => omega
        case rel =>
          refine ⟨kk + 1, by omega, by omega, by go_num, ⟨BW.out.trans (hb'.mono BW.out.size)⟩, ⟨?_⟩⟩
          rw [AI.out, AD.out]
          simp [idxOf, HQ.out]
    · have hltz : ¬ (kk : Int) < (l0.length : Int) := by omega
      have hk : kk = l0.length := by omega
      have HK := Aside0.mk hk
      clear hk
      go_wp2
      go_ret
      refine ⟨?_, BW.out⟩
      rw [AI.out, HK.out]
      simp [idxOf]

set_option maxHeartbeats 8000000 in
set_option maxRecDepth 100000 in
theorem indexIntsS (g : Nat) (lb : Array Value) (eg : ∀ args W, (callFunc g args).run Try.prog W = .ok (.enter g args) W)
    (p : Int → Bool) (A0 : Option Addr) (c0 : Nat) (l0 : List Int) (w : World) (hr0 : Kd.C (Kd.int .i64) w A0 l0.length l0)
    (hp : ∀ (x : Int), x ∈ l0 → Calls Try.prog g (#[.int .i64 x] ++ lb) w fun e w' => e = .returned (.bool (p x)) ∧ w' = w) :
    Calls Try.prog 44 #[.slice A0 l0.length c0, .func (.func g) #[] lb] w fun e w' => e = .returned (.int .i64 (idxOf p l0 0)) ∧ w' = w := by
  have hbig := hr0.2.1
  have HR0 := Aside0.mk hr0
  have HP := Aside0.mk hp
  clear hr0 hp
  go_enter Try.func44, Try.ntmps44
  go_wp2
  go_loopg [5, 8] l0.length (fun gg _ s8 wr => ∃ kk : Nat, kk ≤ l0.length ∧ l0.length - kk ≤ gg ∧ s8 = .int .i64 kk ∧ wr = w ∧ Aside0 (idxOf p l0 0 = idxOf p (l0.drop kk) kk))
  case atStart => exact ⟨0, Nat.zero_le _, by omega, rfl, rfl, ⟨by simp⟩⟩
  case round =>
    obtain ⟨kk, hkk, hg, rfl, rfl, AI⟩ := hrel
    by_cases hlt : kk < l0.length
    · have hltz : (kk : Int) < (l0.length : Int) := by omega
      obtain ⟨ad, e, hx0⟩ := Kd.at_int HR0.out (kk : Int) (by omega) (by omega)
      cases e
      have hx : wr.cell? (ad.add kk) = some (.int .i64 (rd l0 kk)) := by simpa using hx0
      clear hx0
      have hcall := HP.out (rd l0 kk) (rd_mem l0 kk hlt)
      have AD := Aside0.mk (rd_drop l0 kk hlt)
      generalize rd l0 kk = y at hx hcall AD
      cases hq : p y with
      | true =>
        rw [hq] at hcall
        have HQ := Aside0.mk hq
        clear hq
        go_wp2_with ((with_reducible refine hcall.mono ?_); rintro e w' ⟨rfl, rfl⟩)
        go_ret
        refine ⟨?_, rfl⟩
        rw [AI.out, AD.out]
        simp [idxOf, HQ.out]
      | false =>
        rw [hq] at hcall
        have HQ := Aside0.mk hq
        clear hq
        go_wp2_with ((with_reducible refine hcall.mono ?_); rintro e w' ⟨rfl, rfl⟩)
        go_roundg (l0.length - (kk + 1))
        case measure => omega
        case rel =>
          refine ⟨kk + 1, by omega, by omega, by go_num, rfl, ⟨?_⟩⟩
          rw [AI.out, AD.out]
          simp [idxOf, HQ.out]
    · have hltz : ¬ (kk : Int) < (l0.length : Int) := by omega
      have hk : kk = l0.length := by omega
      have HK := Aside0.mk hk
      clear hk
      go_wp2
      go_ret
      refine ⟨?_, rfl⟩
      rw [AI.out, HK.out]
      simp [idxOf]


/-! ### slices_ContainsFunc_int64_int64: function 40 -/
set_option maxHeartbeats 8000000 in
set_option maxRecDepth 100000 in
theorem containsInts (g : Nat) (lb : Array Value) (eg : ∀ args W, (callFunc g args).run Try.prog W = .ok (.enter g args) W)
    (p : Int → Bool) (A0 : Option Addr) (c0 : Nat) (l0 : List Int) (w : World) (hr0 : Kd.C (Kd.int .i64) w A0 l0.length l0)
    (hp : ∀ (W : World) (x : Int), x ∈ l0 → Below w.heap.size w W → Calls Try.prog g (#[.int .i64 x] ++ lb) W fun e w' => e = .returned (.bool (p x)) ∧ Below W.heap.size W w') :
    Calls Try.prog 40 #[.slice A0 l0.length c0, .func (.func g) #[] lb] w fun e w' => e = .returned (.bool (l0.any p)) ∧ Below w.heap.size w w' := by
  rw [← idxOf_any p l0 0 (Int.le_refl 0)]
  have hI := indexInts g lb eg p A0 c0 l0 w hr0 hp
  clear hr0 hp eg
  go_enter Try.func40, Try.ntmps40
  go_wp2_with (go_at_call 44; refine hI.mono ?_; rintro e w' ⟨rfl, hb'⟩)
  go_ret
  exact ⟨rfl, hb'⟩

set_option maxHeartbeats 8000000 in
set_option maxRecDepth 100000 in
theorem containsIntsS (g : Nat) (lb : Array Value) (eg : ∀ args W, (callFunc g args).run Try.prog W = .ok (.enter g args) W)
    (p : Int → Bool) (A0 : Option Addr) (c0 : Nat) (l0 : List Int) (w : World) (hr0 : Kd.C (Kd.int .i64) w A0 l0.length l0)
    (hp : ∀ (x : Int), x ∈ l0 → Calls Try.prog g (#[.int .i64 x] ++ lb) w fun e w' => e = .returned (.bool (p x)) ∧ w' = w) :
    Calls Try.prog 40 #[.slice A0 l0.length c0, .func (.func g) #[] lb] w fun e w' => e = .returned (.bool (l0.any p)) ∧ w' = w := by
  rw [← idxOf_any p l0 0 (Int.le_refl 0)]
  have hI := indexIntsS g lb eg p A0 c0 l0 w hr0 hp
  clear hr0 hp eg
  go_enter Try.func40, Try.ntmps40
  go_wp2_with (go_at_call 44; refine hI.mono ?_; rintro e w' ⟨rfl, rfl⟩)
  go_ret
  exact ⟨rfl, rfl⟩


/-! ### anyLaurentBad: function 40 -/
def lauBad (x : Int) : Bool := !(decide (-1000000000000 ≤ x) && decide (x ≤ 1000000000000))
theorem lauBad_lit (x : Int) (w : World) : Calls Try.prog 41 #[.int .i64 x] w fun e w' => e = .returned (.bool (lauBad x)) ∧ w' = w := by
  by_cases h : -1000000000000 ≤ x ∧ x ≤ 1000000000000
  · have E := Aside0.mk (show lauBad x = false by simp [lauBad, h.1, h.2])
    have hC := inRange_t x (-1000000000000) 1000000000000 w h.1 h.2
    clear h
    go_enter Try.func41, Try.ntmps41
    go_wp2_with (go_at_call 42; (with_reducible refine hC.mono ?_); rintro e w' ⟨rfl, rfl⟩)
    go_ret
    exact ⟨by rw [E.out] <;> rfl, rfl⟩
  · have E := Aside0.mk (show lauBad x = true by
      unfold lauBad
      by_cases h1 : -1000000000000 ≤ x <;> by_cases h2 : x ≤ 1000000000000 <;> simp [h1, h2]
      exact h ⟨h1, h2⟩)
    have hC := inRange_f x (-1000000000000) 1000000000000 w h
    clear h
    go_enter Try.func41, Try.ntmps41
    go_wp2_with (go_at_call 42; (with_reducible refine hC.mono ?_); rintro e w' ⟨rfl, rfl⟩)
    go_ret
    exact ⟨by rw [E.out] <;> rfl, rfl⟩
def anyLaurentBad.f (l0 : List Int) : Option Bool := some (l0.any lauBad)
theorem anyLaurentBad.calls (A0 : Option Addr) (c0 : Nat) (l0 : List Int) (r : Bool) (w : World) (hr0 : Kd.C (Kd.int .i64) w A0 l0.length l0) (hc0 : l0.length ≤ c0) (h : anyLaurentBad.f l0 = some r) :
    Calls Try.prog 40 #[.slice A0 l0.length c0, .func (.func 41) #[] #[]] w fun e w' => e = .returned (.bool r) ∧ Drawn0 w w' := by
  obtain rfl := Option.some.inj h
  refine (containsIntsS 41 #[] (Go.Proofs.enters_of Try.func41 (by kernel_rfl) rfl) lauBad A0 c0 l0 w hr0 (fun x _ => lauBad_lit x w)).mono ?_
  rintro e w' ⟨rfl, rfl⟩
  exact ⟨rfl, Drawn0.refl _⟩


end Go.Proofs.Ytpkocglndlmhkaa.PFnExactMultiplyLaurent
