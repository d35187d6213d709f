/- Written by this session's program out of the kit's print and this session's contracts. -/
import Derived.Test.YtifbfloifdkacaaVFnExactIsReductionPx0
import Derived.Test.YtifbfloifdkacaaVFnExactIsReductionPx2
namespace Go.Proofs.Ytifbfloifdkacaa.PFnExactIsReduction
open Go.RowKit Go.Proofs.YtifbfloifdkacaaW.PrintWords Go.Proofs.YtifbfloifdkacaaW.PrintLast Go.Proofs.YtifbfloifdkacaaW.PrintMore
attribute [local go_sem] max2_int min2_int max_two min_two max_three min_three max_four min_four   -- for this text's walks alone
set_option linter.unusedVariables false
set_option linter.unusedSimpArgs false

/-! ### spec_l01Multiply: function 39 -/
mutual
def spec_l01Multiply.l0 : Nat → Int → Int → Int → List Int → Int → Int → List Int → Int → Int → List Int → Option (Int × Int × List Int × Bool)
 | 0, _, _, _, _, _, _, _, _, _, _ => none
 | k + 1, x7, x139000, x139001, x139002, x140000, x140001, x140002, x147000, x147001, x147002 => if x7 < x139000 then (spec_l01Multiply.l1 k x7 0 x139000 x139001 x139002 x140000 x140001 x140002 x147000 x147001 x147002) else (some (x147000, x147001, x147002, true))
def spec_l01Multiply.l1 : Nat → Int → Int → Int → Int → List Int → Int → Int → List Int → Int → Int → List Int → Option (Int × Int × List Int × Bool)
 | 0, _, _, _, _, _, _, _, _, _, _, _ => none
 | k + 1, x7, x8, x139000, x139001, x139002, x140000, x140001, x140002, x147000, x147001, x147002 => if x8 < x140001 then (spec_l01Multiply.l2 k x7 x8 0 0 0 x139000 x139001 x139002 x140000 x140001 x140002 x147000 x147001 x147002) else (spec_l01Multiply.l0 k (wrap64 (x7 + 1)) x139000 x139001 x139002 x140000 x140001 x140002 x147000 x147001 x147002)
def spec_l01Multiply.l2 : Nat → Int → Int → Int → Int → Int → Int → Int → List Int → Int → Int → List Int → Int → Int → List Int → Option (Int × Int × List Int × Bool)
 | 0, _, _, _, _, _, _, _, _, _, _, _, _, _, _ => none
 | k + 1, x7, x8, x9, x10, x11, x139000, x139001, x139002, x140000, x140001, x140002, x147000, x147001, x147002 => if x11 < x139001 then ((spec_l01At.f x139000 x139001 x139002 x7 x11).bind fun t148 => ((spec_l01At.f x140000 x140001 x140002 x11 x8).bind fun t149 => ((spec_l01Times.f t148 t149 1000000000000).bind fun bt150 => ((spec_l01Abs.f bt150.1).bind fun t152 => (if bt150.2 = true then (if (wrap64 (x10 + t152)) > 1000000000000 then (some (0, 0, ([] : List Int), false)) else (spec_l01Multiply.l2 k x7 x8 (wrap64 (x9 + bt150.1)) (wrap64 (x10 + t152)) (wrap64 (x11 + 1)) x139000 x139001 x139002 x140000 x140001 x140002 x147000 x147001 x147002)) else (some (0, 0, ([] : List Int), false))))))) else (if 0 ≤ (wrap64 ((wrap64 (x7 * x140001)) + x8)) then (if (wrap64 ((wrap64 (x7 * x140001)) + x8)) < (x147002.length : Int) then (spec_l01Multiply.l1 k x7 (wrap64 (x8 + 1)) x139000 x139001 x139002 x140000 x140001 x140002 x147000 x147001 (x147002.set ((wrap64 ((wrap64 (x7 * x140001)) + x8)) : Int).toNat x9)) else (none)) else (none))
end
def spec_l01Multiply.f (k : Nat) (a0_0 : Int) (a0_1 : Int) (l0_2 : List Int) (a1_0 : Int) (a1_1 : Int) (l1_2 : List Int) : Option (Int × Int × List Int × Bool) := (spec_l01Zero.f a0_0 a1_1).bind fun bt141 => (spec_l01Multiply.l0 k 0 a0_0 a0_1 l0_2 a1_0 a1_1 l1_2 bt141.1 bt141.2.1 bt141.2.2)
theorem spec_l01Multiply.mono_l : ∀ k, (∀ y0 y1 y2 y3 y4 y5 y6 y7 y8 y9, LeO (spec_l01Multiply.l0 k y0 y1 y2 y3 y4 y5 y6 y7 y8 y9) (spec_l01Multiply.l0 (k + 1) y0 y1 y2 y3 y4 y5 y6 y7 y8 y9)) ∧ (∀ y0 y1 y2 y3 y4 y5 y6 y7 y8 y9 y10, LeO (spec_l01Multiply.l1 k y0 y1 y2 y3 y4 y5 y6 y7 y8 y9 y10) (spec_l01Multiply.l1 (k + 1) y0 y1 y2 y3 y4 y5 y6 y7 y8 y9 y10)) ∧ (∀ y0 y1 y2 y3 y4 y5 y6 y7 y8 y9 y10 y11 y12 y13, LeO (spec_l01Multiply.l2 k y0 y1 y2 y3 y4 y5 y6 y7 y8 y9 y10 y11 y12 y13) (spec_l01Multiply.l2 (k + 1) y0 y1 y2 y3 y4 y5 y6 y7 y8 y9 y10 y11 y12 y13))
 | 0 => ⟨fun _ _ _ _ _ _ _ _ _ _ r h => by simp [spec_l01Multiply.l0] at h, fun _ _ _ _ _ _ _ _ _ _ _ r h => by simp [spec_l01Multiply.l1] at h, fun _ _ _ _ _ _ _ _ _ _ _ _ _ _ r h => by simp [spec_l01Multiply.l2] at h⟩
 | k + 1 => by
  obtain ⟨ih0, ih1, ih2⟩ := spec_l01Multiply.mono_l k
  refine ⟨?_, ?_, ?_⟩
  ·intro y0 y1 y2 y3 y4 y5 y6 y7 y8 y9
   unfold spec_l01Multiply.l0
   repeat' first
   | (with_reducible exact ih0 _ _ _ _ _ _ _ _ _ _)
   | (with_reducible exact ih1 _ _ _ _ _ _ _ _ _ _ _)
   | (with_reducible exact ih2 _ _ _ _ _ _ _ _ _ _ _ _ _ _)
   | (with_reducible exact LeO.refl _)
   | (with_reducible exact LeO.none _)
   | (with_reducible refine LeO.ite ?_ ?_)
   | (with_reducible refine LeO.bind ?_ (fun _ => ?_))
   | exact ih0 _ _ _ _ _ _ _ _ _ _
   | exact ih1 _ _ _ _ _ _ _ _ _ _ _
   | exact ih2 _ _ _ _ _ _ _ _ _ _ _ _ _ _
   | exact LeO.none _
   | refine LeO.ite ?_ ?_
   | refine LeO.bind ?_ (fun _ => ?_)
  ·intro y0 y1 y2 y3 y4 y5 y6 y7 y8 y9 y10
   unfold spec_l01Multiply.l1
   repeat' first
   | (with_reducible exact ih0 _ _ _ _ _ _ _ _ _ _)
   | (with_reducible exact ih1 _ _ _ _ _ _ _ _ _ _ _)
   | (with_reducible exact ih2 _ _ _ _ _ _ _ _ _ _ _ _ _ _)
   | (with_reducible exact LeO.refl _)
   | (with_reducible exact LeO.none _)
   | (with_reducible refine LeO.ite ?_ ?_)
   | (with_reducible refine LeO.bind ?_ (fun _ => ?_))
   | exact ih0 _ _ _ _ _ _ _ _ _ _
   | exact ih1 _ _ _ _ _ _ _ _ _ _ _
   | exact ih2 _ _ _ _ _ _ _ _ _ _ _ _ _ _
   | exact LeO.none _
   | refine LeO.ite ?_ ?_
   | refine LeO.bind ?_ (fun _ => ?_)
  ·intro y0 y1 y2 y3 y4 y5 y6 y7 y8 y9 y10 y11 y12 y13
   unfold spec_l01Multiply.l2
   repeat' first
   | (with_reducible exact ih0 _ _ _ _ _ _ _ _ _ _)
   | (with_reducible exact ih1 _ _ _ _ _ _ _ _ _ _ _)
   | (with_reducible exact ih2 _ _ _ _ _ _ _ _ _ _ _ _ _ _)
   | (with_reducible exact LeO.refl _)
   | (with_reducible exact LeO.none _)
   | (with_reducible refine LeO.ite ?_ ?_)
   | (with_reducible refine LeO.bind ?_ (fun _ => ?_))
   | exact ih0 _ _ _ _ _ _ _ _ _ _
   | exact ih1 _ _ _ _ _ _ _ _ _ _ _
   | exact ih2 _ _ _ _ _ _ _ _ _ _ _ _ _ _
   | exact LeO.none _
   | refine LeO.ite ?_ ?_
   | refine LeO.bind ?_ (fun _ => ?_)
theorem spec_l01Multiply.mono : ∀ a0 a1 a2 a3 a4 a5 k, LeO (spec_l01Multiply.f k a0 a1 a2 a3 a4 a5) (spec_l01Multiply.f (k + 1) a0 a1 a2 a3 a4 a5) := by
 intro a0 a1 a2 a3 a4 a5 k
 obtain ⟨ih0, ih1, ih2⟩ := spec_l01Multiply.mono_l k
 unfold spec_l01Multiply.f
 repeat' first
   | (with_reducible exact ih0 _ _ _ _ _ _ _ _ _ _)
   | (with_reducible exact ih1 _ _ _ _ _ _ _ _ _ _ _)
   | (with_reducible exact ih2 _ _ _ _ _ _ _ _ _ _ _ _ _ _)
   | (with_reducible exact LeO.refl _)
   | (with_reducible exact LeO.none _)
   | (with_reducible refine LeO.ite ?_ ?_)
   | (with_reducible refine LeO.bind ?_ (fun _ => ?_))
   | exact ih0 _ _ _ _ _ _ _ _ _ _
   | exact ih1 _ _ _ _ _ _ _ _ _ _ _
   | exact ih2 _ _ _ _ _ _ _ _ _ _ _ _ _ _
   | exact LeO.none _
   | refine LeO.ite ?_ ?_
   | refine LeO.bind ?_ (fun _ => ?_)
def spec_l01Multiply.T12 : Bool × List (List Nat × List Nat) := (true, [([], []), ([], []), ([], []), ([0, 1, 2], [0, 1, 2]), ([], []), ([], []), ([], []), ([4, 5, 6, 3], [4, 5, 6]), ([3, 7, 7], [3, 7]), ([8], [8]), ([9], [9]), ([9], [9]), ([10, 8, 0, 1, 2, 3, 4, 5, 6, 7, 8, 9, 10], [10]), ([11, 12, 0, 1, 2, 3, 4, 5, 6, 7, 8, 9, 10, 11, 12], [11])])
def spec_l01Multiply.B12 : List Nat := [0, 0, 0, 7, 0, 0, 0, 127, 255, 511, 1023, 1023, 2047, 8191]
theorem spec_l01Multiply.tab12 : rtab .any (opsOf Try.f39 12) = spec_l01Multiply.T12 := by kernel_rfl
theorem spec_l01Multiply.bits12 : waitsOk spec_l01Multiply.T12.2 spec_l01Multiply.B12 = true := by kernel_rfl
set_option maxHeartbeats 8000000 in
set_option maxRecDepth 100000 in
theorem spec_l01Multiply.calls (k : Nat) (a0_0 : Int) (a0_1 : Int) (A0_2 : Option Addr) (c0_2 : Nat) (l0_2 : List Int) (a1_0 : Int) (a1_1 : Int) (A1_2 : Option Addr) (c1_2 : Nat) (l1_2 : List Int) (r1 : Int) (r2 : Int) (r3 : List Int) (r4 : Bool) (w : World) (hr0_2 : Kd.C (Kd.int .i64) w A0_2 l0_2.length l0_2) (hc0_2 : l0_2.length ≤ c0_2) (hr1_2 : Kd.C (Kd.int .i64) w A1_2 l1_2.length l1_2) (hc1_2 : l1_2.length ≤ c1_2) (h : spec_l01Multiply.f k a0_0 a0_1 l0_2 a1_0 a1_1 l1_2 = some (r1, r2, r3, r4)) :
  Calls Try.prog 39 #[.agg #[.int .i64 a0_0, .int .i64 a0_1, .slice A0_2 l0_2.length c0_2], .agg #[.int .i64 a1_0, .int .i64 a1_1, .slice A1_2 l1_2.length c1_2]] w fun e w' => ∃ v2_ : Value, e = .returned (.tuple #[.agg #[.int .i64 r1, .int .i64 r2, v2_], .bool r4]) ∧ Kd.R (Kd.int .i64) 2 w' w.heap.size (fun _ => True) v2_ r3 ∧ Below w.heap.size w w' := by
 have hu28 := Try.underlying28
 have HR0_2 := am_ hr0_2
 have HC0_2 := am_ hc0_2
 clear hr0_2 hc0_2
 have HR1_2 := am_ hr1_2
 have HC1_2 := am_ hc1_2
 clear hr1_2 hc1_2
 have HB := am_ (Below.refl w.heap.size w)
 have H : ((spec_l01Zero.f a0_0 a1_1).bind fun bt141 => (spec_l01Multiply.l0 k 0 a0_0 a0_1 l0_2 a1_0 a1_1 l1_2 bt141.1 bt141.2.1 bt141.2.2)) = some (r1, r2, r3, r4) := h
 clear h
 replace H := Option.bind_eq_some_iff.mp H
 obtain ⟨⟨t141, t142, t143⟩, A30, H⟩ := H
 replace H : (spec_l01Multiply.l0 k 0 a0_0 a0_1 l0_2 a1_0 a1_1 l1_2 t141 t142 t143) = some (r1, r2, r3, r4) := H
 have A3 := am_ A30
 clear A30
 have H' := am_ H
 clear H
 go_enter Try.func39, Try.ntmps39
 go_wp2_with (first | ((with_reducible refine gate_dst (N := 2) rfl ?_); refine box_event ?hg (N := 2) ?hd (cs := #[.int .i64 a0_0, .int .i64 a0_1, .slice A0_2 l0_2.length c0_2]) (t := 28) ?hr ?_; (case hd => rfl); (case hg => rfl); (case hr => first | (go_simp; done) | (go_simp; rfl)); intro gb138 hg w4 hbox hb; have n0_ := am_ (below_step (bb_ HB.out) hb); have n1_ := am_ (hbox); have n2_ := am_ ((by rw [hg]; exact (below_size (bb_ HB.out)) : w.heap.size ≤ gb138)); have n3_ := am_ ((by rw [hg]; exact (below_size (bb_ HB.out)) : w.heap.size ≤ gb138)); clear HB; revert n0_ n1_ n2_ n3_; intro HB BK138 GW138 GE138; clear hb hbox hg) | ((with_reducible refine gate_dst (N := 3) rfl ?_); refine box_event ?hg (N := 3) ?hd (cs := #[.int .i64 a1_0, .int .i64 a1_1, .slice A1_2 l1_2.length c1_2]) (t := 28) ?hr ?_; (case hd => rfl); (case hg => rfl); (case hr => first | (go_simp; done) | (go_simp; rfl)); intro gb139 hg w5 hbox hb; have n0_ := am_ (bw_ BK138 hb); have n1_ := am_ (below_step (bb_ HB.out) hb); have n2_ := am_ (hbox); have n3_ := am_ ((by rw [hg]; exact (below_size (bb_ HB.out)) : w.heap.size ≤ gb139)); have n4_ := am_ ((by rw [hg]; exact (below_size (bb_ HB.out)) : w.heap.size ≤ gb139)); have n5_ := am_ (nl_ BK138 hg); have n6_ := am_ (ng_ BK138 hg); clear BK138 HB; revert n0_ n1_ n2_ n3_ n4_ n5_ n6_; intro BK138 HB BK139 GW139 GE139 NB138_139 NB139_138; clear hb hbox hg) | ((with_reducible refine gate_dst (N := 4) rfl ?_); refine box_event ?hg (N := 4) ?hd (cs := #[.int .i64 0, .int .i64 0, .slice none 0 0]) (t := 28) ?hr ?_; (case hd => rfl); (case hg => rfl); (case hr => first | (go_simp; done) | (go_simp; rfl)); intro gb140 hg w6 hbox hb; have n0_ := am_ (bw_ BK138 hb); have n1_ := am_ (bw_ BK139 hb); have n2_ := am_ (below_step (bb_ HB.out) hb); have n3_ := am_ (hbox); have n4_ := am_ ((by rw [hg]; exact (below_size (bb_ HB.out)) : w.heap.size ≤ gb140)); have n5_ := am_ ((by rw [hg]; exact (below_size (bb_ HB.out)) : w.heap.size ≤ gb140)); have n6_ := am_ (nl_ BK138 hg); have n7_ := am_ (ng_ BK138 hg); have n8_ := am_ (nl_ BK139 hg); have n9_ := am_ (ng_ BK139 hg); clear BK138 BK139 HB; revert n0_ n1_ n2_ n3_ n4_ n5_ n6_ n7_ n8_ n9_; intro BK138 BK139 HB BK140 GW140 GE140 NB138_140 NB140_138 NB139_140 NB140_139; clear hb hbox hg; have hnb7 := NB138_139.out; have hnc7 := NB139_138.out; have hnb8 := NB138_140.out; have hnc8 := NB140_138.out; obtain ⟨hcz9_0, hcz9_1, hcz9_2, hfz9_0, hfz9_1, hfz9_2⟩ := bx3_ BK138; have hnb10 := NB139_140.out; have hnc10 := NB140_139.out; obtain ⟨hcz11_0, hcz11_1, hcz11_2, hfz11_0, hfz11_1, hfz11_2⟩ := bx3_ BK139) | ((with_reducible refine gate_callee (f := 58) rfl ?_); refine goesL_ (some 18) rfl rfl Try.func58 (by kernel_rfl) rfl #[.int .i64 a0_0, .int .i64 a1_1] rfl lm_ ?_; (with_reducible refine (spec_l01Zero.calls a0_0 a1_1 t141 t142 t143 _ A3.out).mono ?_); rintro e w12 ⟨v144, rfl, ho0, hb⟩; refine ⟨_, rfl, ?_⟩; have n0_ := am_ (Kd.R_lower ho0 (below_size (bb_ HB.out))); have n1_ := am_ (bw_ BK138 hb); have n2_ := am_ (bw_ BK139 hb); have n3_ := am_ (bw_ BK140 hb); have n4_ := am_ (below_step (bb_ HB.out) hb); clear BK138 BK139 BK140 HB; revert n0_ n1_ n2_ n3_ n4_; intro HO145 BK138 BK139 BK140 HB; (try clear hb); (try clear hb2); (try clear hk); (try clear hi); (try clear ho0)) | ((with_reducible refine gate_dst (N := 6) rfl ?_); refine box_event ?hg (N := 6) ?hd (cs := #[.int .i64 0, .int .i64 0, .slice none 0 0]) (t := 28) ?hr ?_; (case hd => rfl); (case hg => rfl); (case hr => first | (go_simp; done) | (go_simp; rfl)); intro gb146 hg w13 hbox hb; have n0_ := am_ (Kd.R_below (rk_ HO145.out) hb); have n1_ := am_ (bw_ BK138 hb); have n2_ := am_ (bw_ BK139 hb); have n3_ := am_ (bw_ BK140 hb); have n4_ := am_ (below_step (bb_ HB.out) hb); have n5_ := am_ (hbox); have n6_ := am_ ((by rw [hg]; exact (below_size (bb_ HB.out)) : w.heap.size ≤ gb146)); have n7_ := am_ ((by rw [hg]; exact (below_size (bb_ HB.out)) : w.heap.size ≤ gb146)); have n8_ := am_ (nl_ BK138 hg); have n9_ := am_ (ng_ BK138 hg); have n10_ := am_ (nl_ BK139 hg); have n11_ := am_ (ng_ BK139 hg); have n12_ := am_ (nl_ BK140 hg); have n13_ := am_ (ng_ BK140 hg); clear HO145 BK138 BK139 BK140 HB; revert n0_ n1_ n2_ n3_ n4_ n5_ n6_ n7_ n8_ n9_ n10_ n11_ n12_ n13_; intro HO145 BK138 BK139 BK140 HB BK146 GW146 GE146 NB138_146 NB146_138 NB139_146 NB146_139 NB140_146 NB146_140; clear hb hbox hg; have hnb14 := NB146_138.out; have hnc14 := NB138_146.out; have hnb15 := NB146_139.out; have hnc15 := NB139_146.out; have hnb16 := NB146_140.out; have hnc16 := NB140_146.out; obtain ⟨hcz17_0, hcz17_1, hcz17_2, hfz17_0, hfz17_1, hfz17_2⟩ := bx3_ BK146; obtain ⟨Ao18, co18, eo18⟩ := Kd.R_slice HO145.out; subst eo18))
 go_loopg [7] k (fun kq v7 w' => ∃ (x7_1 : Int) (x141000_1 : Int) (x141001_1 : Int) (x147002_1 : List Int) (u147002 : Value), v7 = .int .i64 x7_1 ∧ Aside0 (spec_l01Multiply.l0 kq x7_1 a0_0 a0_1 l0_2 a1_0 a1_1 l1_2 t141 t142 x147002_1 = some (r1, r2, r3, r4)) ∧ Aside0 (kq ≤ k) ∧ Aside0 (Kd.R (Kd.int .i64) 2 w' w.heap.size (fun _ => True) u147002 x147002_1) ∧ Aside0 (w'.heap[gb138]? = some (.cells #[.int .i64 a0_0, .int .i64 a0_1, (.slice A0_2 l0_2.length c0_2)] 28 (0, 0))) ∧ Aside0 (w'.heap[gb139]? = some (.cells #[.int .i64 a1_0, .int .i64 a1_1, (.slice A1_2 l1_2.length c1_2)] 28 (0, 0))) ∧ Aside0 (w'.heap[gb140]? = some (.cells #[.int .i64 x141000_1, .int .i64 x141001_1, (.slice none 0 0)] 28 (0, 0))) ∧ Aside0 (w'.heap[gb146]? = some (.cells #[.int .i64 t141, .int .i64 t142, u147002] 28 (0, 0))) ∧ Aside0 (Below w.heap.size w w'))
 case atStart => exact ⟨(0), (0), (0), (t143), (.slice Ao18 t143.length co18), (by first | rfl | (simp; done) | (simp [*]; done)), H', ⟨Nat.le_refl _⟩, ⟨rm_ (Kd.R_far (p := ⟨gb146, 2, none⟩) (Kd.R_far (p := ⟨gb146, 1, none⟩) (Kd.R_far (p := ⟨gb146, 0, none⟩) (Kd.R_types HO145.out BK146.out (by decide)) (fun _ hk => hk.2) (.int .i64 t141)) (fun _ hk => hk.2) (.int .i64 t142)) (fun _ hk => hk.2) (.slice Ao18 t143.length co18)) (fun _ hk => trivial)⟩, ⟨bk_ BK138.out⟩, ⟨bk_ BK139.out⟩, ⟨bk_ BK140.out⟩, ⟨by (with_reducible repeat (first | refine blk_drewN ?_ _ | refine blk_drew ?_ | refine blk_alloc ?_ _)); refine blk_put (cs := #[.int .i64 t141, .int .i64 t142, .slice none 0 0]) ?_ 2 _ rfl; (with_reducible repeat (first | refine blk_drewN ?_ _ | refine blk_drew ?_ | refine blk_alloc ?_ _)); refine blk_put (cs := #[.int .i64 t141, .int .i64 0, .slice none 0 0]) ?_ 1 _ rfl; (with_reducible repeat (first | refine blk_drewN ?_ _ | refine blk_drew ?_ | refine blk_alloc ?_ _)); refine blk_put (cs := #[.int .i64 0, .int .i64 0, .slice none 0 0]) ?_ 0 _ rfl; (with_reducible repeat (first | refine blk_drewN ?_ _ | refine blk_drew ?_ | refine blk_alloc ?_ _)); exact BK146.out⟩, ⟨bb_ HB.out⟩⟩
 case round =>
  clear H'
  try clear c1
  try clear p2
  try clear c3
  try clear c5
  try clear c7
  try clear c8
  try clear c10
  try clear c14
  try clear c15
  try clear c16
  try clear hcz11_0
  try clear hcz11_1
  try clear hcz11_2
  try clear hcz17_0
  try clear hcz17_1
  try clear hcz17_2
  try clear hcz9_0
  try clear hcz9_1
  try clear hcz9_2
  try clear hfz11_0
  try clear hfz11_1
  try clear hfz11_2
  try clear hfz17_0
  try clear hfz17_1
  try clear hfz17_2
  try clear hfz9_0
  try clear hfz9_1
  try clear hfz9_2
  obtain ⟨x7_1, x141000_1, x141001_1, x147002_1, u147002, rfl, HA, HK1, HO_147002, BK138, BK139, BK140, BK146, HB⟩ := hrel
  cases gk with
  | zero => exact absurd HA.out (by simp [spec_l01Multiply.l0])
  | succ k1 =>
   have H := HA.out
   clear HA
   simp only [spec_l01Multiply.l0] at H
   by_cases c19 : x7_1 < a0_0
   ·rw [if_pos c19] at H
    have c19b0 : decide (x7_1 < a0_0) = true := decide_eq_true c19
    clear c19
    have H' := am_ H
    clear H
    have hnb20 := NB138_139.out
    have hnc20 := NB139_138.out
    have hnb21 := NB138_140.out
    have hnc21 := NB140_138.out
    have hnb22 := NB138_146.out
    have hnc22 := NB146_138.out
    obtain ⟨hcz23_0, hcz23_1, hcz23_2, hfz23_0, hfz23_1, hfz23_2⟩ := bx3_ BK138
    go_wp2
    go_loopg [8] k1 (fun kq v8 w' => ∃ (x8_2 : Int) (x141000_2 : Int) (x141001_2 : Int) (x147002_2 : List Int) (u147002 : Value), v8 = .int .i64 x8_2 ∧ Aside0 (spec_l01Multiply.l1 kq x7_1 x8_2 a0_0 a0_1 l0_2 a1_0 a1_1 l1_2 t141 t142 x147002_2 = some (r1, r2, r3, r4)) ∧ Aside0 (kq ≤ k1) ∧ Aside0 (Kd.R (Kd.int .i64) 2 w' w.heap.size (fun _ => True) u147002 x147002_2) ∧ Aside0 (w'.heap[gb138]? = some (.cells #[.int .i64 a0_0, .int .i64 a0_1, (.slice A0_2 l0_2.length c0_2)] 28 (0, 0))) ∧ Aside0 (w'.heap[gb139]? = some (.cells #[.int .i64 a1_0, .int .i64 a1_1, (.slice A1_2 l1_2.length c1_2)] 28 (0, 0))) ∧ Aside0 (w'.heap[gb140]? = some (.cells #[.int .i64 x141000_2, .int .i64 x141001_2, (.slice none 0 0)] 28 (0, 0))) ∧ Aside0 (w'.heap[gb146]? = some (.cells #[.int .i64 t141, .int .i64 t142, u147002] 28 (0, 0))) ∧ Aside0 (Below w.heap.size w w'))
    case atStart => exact ⟨(0), (x141000_1), (x141001_1), (x147002_1), (u147002), (by first | rfl | (simp; done) | (simp [*]; done)), H', ⟨Nat.le_refl _⟩, ⟨rk_ HO_147002.out⟩, ⟨bk_ BK138.out⟩, ⟨bk_ BK139.out⟩, ⟨bk_ BK140.out⟩, ⟨bk_ BK146.out⟩, ⟨bb_ HB.out⟩⟩
    case round =>
     clear H'
     try clear c1
     try clear c2
     try clear p2
     try clear c3
     try clear c5
     try clear c7
     try clear c8
     try clear c10
     try clear c14
     try clear c15
     try clear c16
     try clear c19
     try clear c19b0
     try clear c20
     try clear c21
     try clear c22
     try clear hcz11_0
     try clear hcz11_1
     try clear hcz11_2
     try clear hcz17_0
     try clear hcz17_1
     try clear hcz17_2
     try clear hcz23_0
     try clear hcz23_1
     try clear hcz23_2
     try clear hcz9_0
     try clear hcz9_1
     try clear hcz9_2
     try clear hfz11_0
     try clear hfz11_1
     try clear hfz11_2
     try clear hfz17_0
     try clear hfz17_1
     try clear hfz17_2
     try clear hfz23_0
     try clear hfz23_1
     try clear hfz23_2
     try clear hfz9_0
     try clear hfz9_1
     try clear hfz9_2
     try clear p2
     obtain ⟨x8_2, x141000_2, x141001_2, x147002_2, u147002, rfl, HA, HK2, HO_147002, BK138, BK139, BK140, BK146, HB⟩ := hrel
     cases gk with
     | zero => exact absurd HA.out (by simp [spec_l01Multiply.l1])
     | succ k2 =>
      have H := HA.out
      clear HA
      simp only [spec_l01Multiply.l1] at H
      by_cases c24 : x8_2 < a1_1
      ·rw [if_pos c24] at H
       have c24b0 : decide (x8_2 < a1_1) = true := decide_eq_true c24
       clear c24
       have H' := am_ H
       clear H
       have hnb25 := NB139_138.out
       have hnc25 := NB138_139.out
       have hnb26 := NB139_140.out
       have hnc26 := NB140_139.out
       have hnb27 := NB139_146.out
       have hnc27 := NB146_139.out
       obtain ⟨hcz28_0, hcz28_1, hcz28_2, hfz28_0, hfz28_1, hfz28_2⟩ := bx3_ BK139
       go_wp2
       go_loopg [9, 10, 11] k2 (fun kq v9 v10 v11 w' => ∃ (x9_3 : Int) (x10_3 : Int) (x11_3 : Int) (x141000_3 : Int) (x141001_3 : Int), v9 = .int .i64 x9_3 ∧ v10 = .int .i64 x10_3 ∧ v11 = .int .i64 x11_3 ∧ Aside0 (spec_l01Multiply.l2 kq x7_1 x8_2 x9_3 x10_3 x11_3 a0_0 a0_1 l0_2 a1_0 a1_1 l1_2 t141 t142 x147002_2 = some (r1, r2, r3, r4)) ∧ Aside0 (kq ≤ k2) ∧ Aside0 (Kd.R (Kd.int .i64) 2 w' w.heap.size (fun _ => True) u147002 x147002_2) ∧ Aside0 (w'.heap[gb138]? = some (.cells #[.int .i64 a0_0, .int .i64 a0_1, (.slice A0_2 l0_2.length c0_2)] 28 (0, 0))) ∧ Aside0 (w'.heap[gb139]? = some (.cells #[.int .i64 a1_0, .int .i64 a1_1, (.slice A1_2 l1_2.length c1_2)] 28 (0, 0))) ∧ Aside0 (w'.heap[gb140]? = some (.cells #[.int .i64 x141000_3, .int .i64 x141001_3, (.slice none 0 0)] 28 (0, 0))) ∧ Aside0 (w'.heap[gb146]? = some (.cells #[.int .i64 t141, .int .i64 t142, u147002] 28 (0, 0))) ∧ Aside0 (Below w.heap.size w w'))
       case atStart => exact ⟨(0), (0), (0), (x141000_2), (x141001_2), (by first | rfl | (simp; done) | (simp [*]; done)), (by first | rfl | (simp; done) | (simp [*]; done)), (by first | rfl | (simp; done) | (simp [*]; done)), H', ⟨Nat.le_refl _⟩, ⟨rk_ HO_147002.out⟩, ⟨bk_ BK138.out⟩, ⟨bk_ BK139.out⟩, ⟨bk_ BK140.out⟩, ⟨bk_ BK146.out⟩, ⟨bb_ HB.out⟩⟩
       case round =>
        clear H'
        try clear c1
        try clear c2
        try clear p2
        try clear c3
        try clear c5
        try clear c7
        try clear c8
        try clear c10
        try clear c14
        try clear c15
        try clear c16
        try clear c19
        try clear c19b0
        try clear c20
        try clear c21
        try clear c22
        try clear c24
        try clear c24b0
        try clear c25
        try clear c26
        try clear c27
        try clear hcz11_0
        try clear hcz11_1
        try clear hcz11_2
        try clear hcz17_0
        try clear hcz17_1
        try clear hcz17_2
        try clear hcz23_0
        try clear hcz23_1
        try clear hcz23_2
        try clear hcz28_0
        try clear hcz28_1
        try clear hcz28_2
        try clear hcz9_0
        try clear hcz9_1
        try clear hcz9_2
        try clear hfz11_0
        try clear hfz11_1
        try clear hfz11_2
        try clear hfz17_0
        try clear hfz17_1
        try clear hfz17_2
        try clear hfz23_0
        try clear hfz23_1
        try clear hfz23_2
        try clear hfz28_0
        try clear hfz28_1
        try clear hfz28_2
        try clear hfz9_0
        try clear hfz9_1
        try clear hfz9_2
        try clear p2
        obtain ⟨x9_3, x10_3, x11_3, x141000_3, x141001_3, rfl, rfl, rfl, HA, HK3, HO_147002, BK138, BK139, BK140, BK146, HB⟩ := hrel
        cases gk with
        | zero => exact absurd HA.out (by simp [spec_l01Multiply.l2])
        | succ k3 =>
         have H := HA.out
         clear HA
         simp only [spec_l01Multiply.l2] at H
         by_cases c29 : x11_3 < a0_1
         ·rw [if_pos c29] at H
          have c29b0 : decide (x11_3 < a0_1) = true := decide_eq_true c29
          clear c29
          replace H := Option.bind_eq_some_iff.mp H
          obtain ⟨t148, A300, H⟩ := H
          replace H : ((spec_l01At.f a1_0 a1_1 l1_2 x11_3 x8_2).bind fun t149 => ((spec_l01Times.f t148 t149 1000000000000).bind fun bt150 => ((spec_l01Abs.f bt150.1).bind fun t152 => (if bt150.2 = true then (if (wrap64 (x10_3 + t152)) > 1000000000000 then (some (0, 0, ([] : List Int), false)) else (spec_l01Multiply.l2 k3 x7_1 x8_2 (wrap64 (x9_3 + bt150.1)) (wrap64 (x10_3 + t152)) (wrap64 (x11_3 + 1)) a0_0 a0_1 l0_2 a1_0 a1_1 l1_2 t141 t142 x147002_2)) else (some (0, 0, ([] : List Int), false)))))) = some (r1, r2, r3, r4) := H
          have A30 := am_ A300
          clear A300
          replace H := Option.bind_eq_some_iff.mp H
          obtain ⟨t149, A310, H⟩ := H
          replace H : ((spec_l01Times.f t148 t149 1000000000000).bind fun bt150 => ((spec_l01Abs.f bt150.1).bind fun t152 => (if bt150.2 = true then (if (wrap64 (x10_3 + t152)) > 1000000000000 then (some (0, 0, ([] : List Int), false)) else (spec_l01Multiply.l2 k3 x7_1 x8_2 (wrap64 (x9_3 + bt150.1)) (wrap64 (x10_3 + t152)) (wrap64 (x11_3 + 1)) a0_0 a0_1 l0_2 a1_0 a1_1 l1_2 t141 t142 x147002_2)) else (some (0, 0, ([] : List Int), false))))) = some (r1, r2, r3, r4) := H
          have A31 := am_ A310
          clear A310
          replace H := Option.bind_eq_some_iff.mp H
          obtain ⟨⟨t150, t151⟩, A320, H⟩ := H
          replace H : ((spec_l01Abs.f t150).bind fun t152 => (if t151 = true then (if (wrap64 (x10_3 + t152)) > 1000000000000 then (some (0, 0, ([] : List Int), false)) else (spec_l01Multiply.l2 k3 x7_1 x8_2 (wrap64 (x9_3 + t150)) (wrap64 (x10_3 + t152)) (wrap64 (x11_3 + 1)) a0_0 a0_1 l0_2 a1_0 a1_1 l1_2 t141 t142 x147002_2)) else (some (0, 0, ([] : List Int), false)))) = some (r1, r2, r3, r4) := H
          have A32 := am_ A320
          clear A320
          replace H := Option.bind_eq_some_iff.mp H
          obtain ⟨t152, A330, H⟩ := H
          replace H : (if t151 = true then (if (wrap64 (x10_3 + t152)) > 1000000000000 then (some (0, 0, ([] : List Int), false)) else (spec_l01Multiply.l2 k3 x7_1 x8_2 (wrap64 (x9_3 + t150)) (wrap64 (x10_3 + t152)) (wrap64 (x11_3 + 1)) a0_0 a0_1 l0_2 a1_0 a1_1 l1_2 t141 t142 x147002_2)) else (some (0, 0, ([] : List Int), false))) = some (r1, r2, r3, r4) := H
          have A33 := am_ A330
          clear A330
          by_cases c34 : t151 = true
          ·subst c34
           have H1 : (if (wrap64 (x10_3 + t152)) > 1000000000000 then (some (0, 0, ([] : List Int), false)) else (spec_l01Multiply.l2 k3 x7_1 x8_2 (wrap64 (x9_3 + t150)) (wrap64 (x10_3 + t152)) (wrap64 (x11_3 + 1)) a0_0 a0_1 l0_2 a1_0 a1_1 l1_2 t141 t142 x147002_2)) = some (r1, r2, r3, r4) := by rw [if_pos rfl] at H; exact H
           clear H
           have H := H1
           clear H1
           by_cases c35 : (wrap64 (x10_3 + t152)) > 1000000000000
           ·rw [if_pos c35] at H
            have c35b0 : decide (1000000000000 < (wrap64 (x10_3 + t152))) = true := decide_eq_true c35
            clear c35
            simp only [Option.some.injEq, Prod.mk.injEq] at H
            obtain ⟨rfl, rfl, rfl, rfl⟩ := H
            have hnb36 := NB138_139.out
            have hnc36 := NB139_138.out
            have hnb37 := NB138_140.out
            have hnc37 := NB140_138.out
            have hnb38 := NB138_146.out
            have hnc38 := NB146_138.out
            obtain ⟨hcz39_0, hcz39_1, hcz39_2, hfz39_0, hfz39_1, hfz39_2⟩ := bx3_ BK138
            try go_wp2
            have n0_ := am_ (Kd.R_drew HO_147002.out)
            have n1_ := am_ (blk_drew BK138.out)
            have n2_ := am_ (blk_drew BK139.out)
            have n3_ := am_ (blk_drew BK140.out)
            have n4_ := am_ (blk_drew BK146.out)
            have n5_ := am_ (below_drew1 HB.out)
            clear HO_147002 BK138 BK139 BK140 BK146 HB; revert n0_ n1_ n2_ n3_ n4_ n5_; intro HO_147002 BK138 BK139 BK140 BK146 HB
            refine start_ (n := 14) (S := fun w' => w'.cell? ⟨gb138, 0, none⟩ = some (.int .i64 a0_0) ∧ w'.cell? ⟨gb138, 1, none⟩ = some (.int .i64 a0_1) ∧ w'.cell? ⟨gb138, 2, none⟩ = some (.slice A0_2 l0_2.length c0_2) ∧ w'.cell? ⟨gb139, 0, none⟩ = some (.int .i64 a1_0) ∧ w'.cell? ⟨gb139, 1, none⟩ = some (.int .i64 a1_1) ∧ w'.cell? ⟨gb139, 2, none⟩ = some (.slice A1_2 l1_2.length c1_2)) (ds := []) #[false, false, false, false, false, false, false, false, false, false, false, false, false, false] (by kernel_rfl) rfl rfl ⟨bc_ BK138 0, bc_ BK138 1, bc_ BK138 2, bc_ BK139 0, bc_ BK139 1, bc_ BK139 2⟩ (fun hHeld => ?_); refine with_tabW spec_l01Multiply.tab12 spec_l01Multiply.bits12 (fun HT_ HW_ => ?_)
            generalize wr.drew = w40 at HO_147002 BK138 BK139 BK140 BK146 HB hHeld ⊢
            refine pure_ (i := 1) (N := some 39) (v := ?_) (a' := ?_) #[false, true, false, false, false, false, false, false, false, false, false, false, false, false] rfl rfl (any_of HT_.out (by kernel_rfl)) (fun _ _ _ h => h) (Or.inl ⟨by rfl, ?_⟩) ?_ ?_
            rotate_left
            ·intro w'
             go_simp
             with_reducible rfl
            rotate_left
            ·simp only [Act.put, List.setIfInBounds_toArray, List.set_cons_zero, List.set_cons_succ, i64_w, i32_w]
             rfl
            refine pure_ (i := 2) (N := some 40) (v := ?_) (a' := ?_) #[false, true, true, false, false, false, false, false, false, false, false, false, false, false] rfl rfl (any_of HT_.out (by kernel_rfl)) (fun _ _ _ h => h) (Or.inl ⟨by rfl, ?_⟩) ?_ ?_
            rotate_left
            ·intro w'
             go_simp
             with_reducible rfl
            rotate_left
            ·simp only [Act.put, List.setIfInBounds_toArray, List.set_cons_zero, List.set_cons_succ, i64_w, i32_w]
             rfl
            refine pure_ (i := 5) (N := some 43) (v := ?_) (a' := ?_) #[false, true, true, false, false, true, false, false, false, false, false, false, false, false] rfl rfl (any_of HT_.out (by kernel_rfl)) (fun _ _ _ h => h) (Or.inl ⟨by rfl, ?_⟩) ?_ ?_
            rotate_left
            ·intro w'
             go_simp
             with_reducible rfl
            rotate_left
            ·simp only [Act.put, List.setIfInBounds_toArray, List.set_cons_zero, List.set_cons_succ, i64_w, i32_w]
             rfl
            refine pure_ (i := 6) (N := some 44) (v := ?_) (a' := ?_) #[false, true, true, false, false, true, true, false, false, false, false, false, false, false] rfl rfl (any_of HT_.out (by kernel_rfl)) (fun _ _ _ h => h) (Or.inl ⟨by rfl, ?_⟩) ?_ ?_
            rotate_left
            ·intro w'
             go_simp
             with_reducible rfl
            rotate_left
            ·simp only [Act.put, List.setIfInBounds_toArray, List.set_cons_zero, List.set_cons_succ, i64_w, i32_w]
             rfl
            refine take_ (i := 0) (N := some 38) (v := ?_) (a' := ?_) #[true, true, true, false, false, true, true, false, false, false, false, false, false, false] rfl rfl (take_ofW HT_.out HW_.out (by kernel_rfl)) (fun _ _ _ h => h) (Or.inl ⟨by rfl, ?_⟩) hHeld ?_ ?_
            rotate_left
            ·rintro w' ⟨s0, s1, s2, s3, s4, s5⟩
             go_simp
             with_reducible rfl
            rotate_left
            ·simp only [Act.put, List.setIfInBounds_toArray, List.set_cons_zero, List.set_cons_succ, i64_w, i32_w]
             rfl
            refine take_ (i := 4) (N := some 42) (v := ?_) (a' := ?_) #[true, true, true, false, true, true, true, false, false, false, false, false, false, false] rfl rfl (take_ofW HT_.out HW_.out (by kernel_rfl)) (fun _ _ _ h => h) (Or.inl ⟨by rfl, ?_⟩) hHeld ?_ ?_
            rotate_left
            ·rintro w' ⟨s0, s1, s2, s3, s4, s5⟩
             go_simp
             with_reducible rfl
            rotate_left
            ·simp only [Act.put, List.setIfInBounds_toArray, List.set_cons_zero, List.set_cons_succ, i64_w, i32_w]
             rfl
            refine one_ (i := 3) (N := some 41) #[true, true, true, true, true, true, true, false, false, false, false, false, false, false] rfl rfl (one_of HT_.out (by kernel_rfl)) (by decide) (fun K hK => ?_)
            refine goes_ Try.func49 (by kernel_rfl) rfl #[.agg #[.int .i64 a0_0, .int .i64 a0_1, .slice A0_2 l0_2.length c0_2], .int .i64 x7_1, .int .i64 x11_3] (by rfl) rfl rfl lm_ ?_
            with_reducible refine (spec_l01At.calls a0_0 a0_1 _ _ l0_2 x7_1 x11_3 t148 _ ?side1 ?side2 A30.out).mono ?_
            (case side1 => repeat (first | exact (Kd.C_below HR0_2.out HB.out) | (with_reducible refine Kd.C_alloc ?_ _) | (with_reducible refine Kd.C_drewN ?_ _) | (with_reducible refine Kd.C_drew ?_)))
            (case side2 => exact HC0_2.out)
            rintro e w41 ⟨rfl, hb⟩
            refine ⟨_, rfl, ?_⟩
            have n0_ := am_ (Kd.R_below (rk_ HO_147002.out) hb)
            have n1_ := am_ (bw_ BK138 hb)
            have n2_ := am_ (bw_ BK139 hb)
            have n3_ := am_ (bw_ BK140 hb)
            have n4_ := am_ (bw_ BK146 hb)
            have n5_ := am_ (below_step (bb_ HB.out) hb)
            clear HO_147002 BK138 BK139 BK140 BK146 HB; revert n0_ n1_ n2_ n3_ n4_ n5_; intro HO_147002 BK138 BK139 BK140 BK146 HB
            (try clear hb)
            (try clear hb2)
            (try clear hk)
            (try clear hi)
            refine hK.out _ _ ⟨bc_ BK138 0, bc_ BK138 1, bc_ BK138 2, bc_ BK139 0, bc_ BK139 1, bc_ BK139 2⟩ (fun hHeld => ?_)
            clear hK K
            refine norm_ (a' := ?_) ?_ ?_
            rotate_left
            ·show Act.put _ (some 41) _ = _
             simp only [Act.put, List.setIfInBounds_toArray, List.set_cons_zero, List.set_cons_succ, i64_w, i32_w]
             rfl
            refine one_ (i := 7) (N := some 45) #[true, true, true, true, true, true, true, true, false, false, false, false, false, false] rfl rfl (one_of HT_.out (by kernel_rfl)) (by decide) (fun K hK => ?_)
            refine goes_ Try.func49 (by kernel_rfl) rfl #[.agg #[.int .i64 a1_0, .int .i64 a1_1, .slice A1_2 l1_2.length c1_2], .int .i64 x11_3, .int .i64 x8_2] (by rfl) rfl rfl lm_ ?_
            with_reducible refine (spec_l01At.calls a1_0 a1_1 _ _ l1_2 x11_3 x8_2 t149 _ ?side1 ?side2 A31.out).mono ?_
            (case side1 => repeat (first | exact (Kd.C_below HR1_2.out HB.out) | (with_reducible refine Kd.C_alloc ?_ _) | (with_reducible refine Kd.C_drewN ?_ _) | (with_reducible refine Kd.C_drew ?_)))
            (case side2 => exact HC1_2.out)
            rintro e w42 ⟨rfl, hb⟩
            refine ⟨_, rfl, ?_⟩
            have n0_ := am_ (Kd.R_below (rk_ HO_147002.out) hb)
            have n1_ := am_ (bw_ BK138 hb)
            have n2_ := am_ (bw_ BK139 hb)
            have n3_ := am_ (bw_ BK140 hb)
            have n4_ := am_ (bw_ BK146 hb)
            have n5_ := am_ (below_step (bb_ HB.out) hb)
            clear HO_147002 BK138 BK139 BK140 BK146 HB; revert n0_ n1_ n2_ n3_ n4_ n5_; intro HO_147002 BK138 BK139 BK140 BK146 HB
            (try clear hb)
            (try clear hb2)
            (try clear hk)
            (try clear hi)
            refine hK.out _ _ ⟨bc_ BK138 0, bc_ BK138 1, bc_ BK138 2, bc_ BK139 0, bc_ BK139 1, bc_ BK139 2⟩ (fun hHeld => ?_)
            clear hK K
            refine norm_ (a' := ?_) ?_ ?_
            rotate_left
            ·show Act.put _ (some 45) _ = _
             simp only [Act.put, List.setIfInBounds_toArray, List.set_cons_zero, List.set_cons_succ, i64_w, i32_w]
             rfl
            refine one_ (i := 8) (N := some 46) #[true, true, true, true, true, true, true, true, true, false, false, false, false, false] rfl rfl (one_of HT_.out (by kernel_rfl)) (by decide) (fun K hK => ?_)
            refine goes_ Try.func60 (by kernel_rfl) rfl #[.int .i64 t148, .int .i64 t149, .int .i64 1000000000000] (by rfl) rfl rfl lm_ ?_
            with_reducible refine (spec_l01Times.calls t148 t149 1000000000000 t150 true _ A32.out).mono ?_
            rintro e w43 ⟨rfl, hb⟩
            refine ⟨_, rfl, ?_⟩
            have n0_ := am_ (Kd.R_below (rk_ HO_147002.out) hb)
            have n1_ := am_ (bw_ BK138 hb)
            have n2_ := am_ (bw_ BK139 hb)
            have n3_ := am_ (bw_ BK140 hb)
            have n4_ := am_ (bw_ BK146 hb)
            have n5_ := am_ (below_step (bb_ HB.out) hb)
            clear HO_147002 BK138 BK139 BK140 BK146 HB; revert n0_ n1_ n2_ n3_ n4_ n5_; intro HO_147002 BK138 BK139 BK140 BK146 HB
            (try clear hb)
            (try clear hb2)
            (try clear hk)
            (try clear hi)
            refine hK.out _ _ ⟨bc_ BK138 0, bc_ BK138 1, bc_ BK138 2, bc_ BK139 0, bc_ BK139 1, bc_ BK139 2⟩ (fun hHeld => ?_)
            clear hK K
            refine norm_ (a' := ?_) ?_ ?_
            rotate_left
            ·show Act.put _ (some 46) _ = _
             simp only [Act.put, List.setIfInBounds_toArray, List.set_cons_zero, List.set_cons_succ, i64_w, i32_w]
             rfl
            refine pure_ (i := 9) (N := some 37) (v := ?_) (a' := ?_) #[true, true, true, true, true, true, true, true, true, true, false, false, false, false] rfl rfl (any_of HT_.out (by kernel_rfl)) (fun _ _ _ h => h) (Or.inl ⟨by rfl, ?_⟩) ?_ ?_
            rotate_left
            ·intro w'
             go_simp
             with_reducible rfl
            rotate_left
            ·simp only [Act.put, List.setIfInBounds_toArray, List.set_cons_zero, List.set_cons_succ, i64_w, i32_w]
             rfl
            refine pure_ (i := 10) (N := some 47) (v := ?_) (a' := ?_) #[true, true, true, true, true, true, true, true, true, true, true, false, false, false] rfl rfl (any_of HT_.out (by kernel_rfl)) (fun _ _ _ h => h) (Or.inl ⟨by rfl, ?_⟩) ?_ ?_
            rotate_left
            ·intro w'
             go_simp
             with_reducible rfl
            rotate_left
            ·simp only [Act.put, List.setIfInBounds_toArray, List.set_cons_zero, List.set_cons_succ, i64_w, i32_w]
             rfl
            refine pure_ (i := 11) (N := some 48) (v := ?_) (a' := ?_) #[true, true, true, true, true, true, true, true, true, true, true, true, false, false] rfl rfl (any_of HT_.out (by kernel_rfl)) (fun _ _ _ h => h) (Or.inl ⟨by rfl, ?_⟩) ?_ ?_
            rotate_left
            ·intro w'
             go_simp
             with_reducible rfl
            rotate_left
            ·simp only [Act.put, List.setIfInBounds_toArray, List.set_cons_zero, List.set_cons_succ, i64_w, i32_w]
             rfl
            refine pure_ (i := 12) (N := some 12) (v := ?_) (a' := ?_) #[true, true, true, true, true, true, true, true, true, true, true, true, true, false] rfl rfl (any_of HT_.out (by kernel_rfl)) (fun _ _ _ h => h) (Or.inl ⟨by rfl, ?_⟩) ?_ ?_
            rotate_left
            ·intro w'
             go_simp
             with_reducible rfl
            rotate_left
            ·simp only [Act.put, List.setIfInBounds_toArray, List.set_cons_zero, List.set_cons_succ, i64_w, i32_w]
             rfl
            refine pure_ (i := 13) (N := some 13) (v := ?_) (a' := ?_) #[true, true, true, true, true, true, true, true, true, true, true, true, true, true] rfl rfl (any_of HT_.out (by kernel_rfl)) (fun _ _ _ h => h) (Or.inl ⟨by rfl, ?_⟩) ?_ ?_
            rotate_left
            ·intro w'
             go_simp
             with_reducible rfl
            rotate_left
            ·simp only [Act.put, List.setIfInBounds_toArray, List.set_cons_zero, List.set_cons_succ, i64_w, i32_w]
             rfl
            refine done_ (done_of HT_.out (by kernel_rfl)) ?_
            try go_wp2_with (first | ((with_reducible refine gate_callee (f := 48) rfl ?_); refine goesL_ (some 51) rfl rfl Try.func48 (by kernel_rfl) rfl #[.int .i64 t150] rfl lm_ ?_; (with_reducible refine (spec_l01Abs.calls t150 t152 _ A33.out).mono ?_); rintro e w44 ⟨rfl, hb⟩; refine ⟨_, rfl, ?_⟩; have n0_ := am_ (Kd.R_below (rk_ HO_147002.out) hb); have n1_ := am_ (bw_ BK138 hb); have n2_ := am_ (bw_ BK139 hb); have n3_ := am_ (bw_ BK140 hb); have n4_ := am_ (bw_ BK146 hb); have n5_ := am_ (below_step (bb_ HB.out) hb); clear HO_147002 BK138 BK139 BK140 BK146 HB; revert n0_ n1_ n2_ n3_ n4_ n5_; intro HO_147002 BK138 BK139 BK140 BK146 HB; (try clear hb); (try clear hb2); (try clear hk); (try clear hi); have hnb45 := NB140_139.out; have hnc45 := NB139_140.out; have hnb46 := NB140_146.out; have hnc46 := NB146_140.out; obtain ⟨hcz47_0, hcz47_1, hcz47_2, hfz47_0, hfz47_1, hfz47_2⟩ := bx3_ BK140))
            refine bodyPost_ret (results_ct rfl _ _ gb140 28 #[.int .i64 0, .int .i64 0, .slice none 0 0] (0, 0) _ rfl (by (with_reducible repeat (first | refine blk_drewN ?_ _ | refine blk_drew ?_ | refine blk_alloc ?_ _)); refine blk_put (cs := #[.int .i64 0, .int .i64 0, .slice none 0 0]) ?_ 2 _ rfl; (with_reducible repeat (first | refine blk_drewN ?_ _ | refine blk_drew ?_ | refine blk_alloc ?_ _)); refine blk_put (cs := #[.int .i64 0, .int .i64 x141001_3, .slice none 0 0]) ?_ 1 _ rfl; (with_reducible repeat (first | refine blk_drewN ?_ _ | refine blk_drew ?_ | refine blk_alloc ?_ _)); refine blk_put (cs := #[.int .i64 x141000_3, .int .i64 x141001_3, .slice none 0 0]) ?_ 0 _ rfl; (with_reducible repeat (first | refine blk_drewN ?_ _ | refine blk_drew ?_ | refine blk_alloc ?_ _)); exact BK140.out) Try.underlying28 rfl (by kernel_rfl)) rfl ?_
            exact ⟨_, by first | rfl | (simp [errW_none, errW_some] <;> rfl) | (simp [*, errW_none, errW_some] <;> rfl), by first | exact Kd.R_nil _ _ _ _ _ | exact Kd.N_nil _ _ _ _ _ | exact Kd.V_nil _ _ _ _ _ | exact Kd.Q_nil _ _ _ _ _ | exact Kd.S_nil _ _ _ _ _, bb_ HB.out⟩
           ·rw [if_neg c35] at H
            have c35b0 : decide (1000000000000 < (wrap64 (x10_3 + t152))) = false := decide_eq_false c35
            clear c35
            have H' := am_ H
            clear H
            have hnb48 := NB138_139.out
            have hnc48 := NB139_138.out
            have hnb49 := NB138_140.out
            have hnc49 := NB140_138.out
            have hnb50 := NB138_146.out
            have hnc50 := NB146_138.out
            obtain ⟨hcz51_0, hcz51_1, hcz51_2, hfz51_0, hfz51_1, hfz51_2⟩ := bx3_ BK138
            try go_wp2
            have n0_ := am_ (Kd.R_drew HO_147002.out)
            have n1_ := am_ (blk_drew BK138.out)
            have n2_ := am_ (blk_drew BK139.out)
            have n3_ := am_ (blk_drew BK140.out)
            have n4_ := am_ (blk_drew BK146.out)
            have n5_ := am_ (below_drew1 HB.out)
            clear HO_147002 BK138 BK139 BK140 BK146 HB; revert n0_ n1_ n2_ n3_ n4_ n5_; intro HO_147002 BK138 BK139 BK140 BK146 HB
            refine start_ (n := 14) (S := fun w' => w'.cell? ⟨gb138, 0, none⟩ = some (.int .i64 a0_0) ∧ w'.cell? ⟨gb138, 1, none⟩ = some (.int .i64 a0_1) ∧ w'.cell? ⟨gb138, 2, none⟩ = some (.slice A0_2 l0_2.length c0_2) ∧ w'.cell? ⟨gb139, 0, none⟩ = some (.int .i64 a1_0) ∧ w'.cell? ⟨gb139, 1, none⟩ = some (.int .i64 a1_1) ∧ w'.cell? ⟨gb139, 2, none⟩ = some (.slice A1_2 l1_2.length c1_2)) (ds := []) #[false, false, false, false, false, false, false, false, false, false, false, false, false, false] (by kernel_rfl) rfl rfl ⟨bc_ BK138 0, bc_ BK138 1, bc_ BK138 2, bc_ BK139 0, bc_ BK139 1, bc_ BK139 2⟩ (fun hHeld => ?_); refine with_tabW spec_l01Multiply.tab12 spec_l01Multiply.bits12 (fun HT_ HW_ => ?_)
            generalize wr.drew = w52 at HO_147002 BK138 BK139 BK140 BK146 HB hHeld ⊢
            refine pure_ (i := 1) (N := some 39) (v := ?_) (a' := ?_) #[false, true, false, false, false, false, false, false, false, false, false, false, false, false] rfl rfl (any_of HT_.out (by kernel_rfl)) (fun _ _ _ h => h) (Or.inl ⟨by rfl, ?_⟩) ?_ ?_
            rotate_left
            ·intro w'
             go_simp
             with_reducible rfl
            rotate_left
            ·simp only [Act.put, List.setIfInBounds_toArray, List.set_cons_zero, List.set_cons_succ, i64_w, i32_w]
             rfl
            refine pure_ (i := 2) (N := some 40) (v := ?_) (a' := ?_) #[false, true, true, false, false, false, false, false, false, false, false, false, false, false] rfl rfl (any_of HT_.out (by kernel_rfl)) (fun _ _ _ h => h) (Or.inl ⟨by rfl, ?_⟩) ?_ ?_
            rotate_left
            ·intro w'
             go_simp
             with_reducible rfl
            rotate_left
            ·simp only [Act.put, List.setIfInBounds_toArray, List.set_cons_zero, List.set_cons_succ, i64_w, i32_w]
             rfl
            refine pure_ (i := 5) (N := some 43) (v := ?_) (a' := ?_) #[false, true, true, false, false, true, false, false, false, false, false, false, false, false] rfl rfl (any_of HT_.out (by kernel_rfl)) (fun _ _ _ h => h) (Or.inl ⟨by rfl, ?_⟩) ?_ ?_
            rotate_left
            ·intro w'
             go_simp
             with_reducible rfl
            rotate_left
            ·simp only [Act.put, List.setIfInBounds_toArray, List.set_cons_zero, List.set_cons_succ, i64_w, i32_w]
             rfl
            refine pure_ (i := 6) (N := some 44) (v := ?_) (a' := ?_) #[false, true, true, false, false, true, true, false, false, false, false, false, false, false] rfl rfl (any_of HT_.out (by kernel_rfl)) (fun _ _ _ h => h) (Or.inl ⟨by rfl, ?_⟩) ?_ ?_
            rotate_left
            ·intro w'
             go_simp
             with_reducible rfl
            rotate_left
            ·simp only [Act.put, List.setIfInBounds_toArray, List.set_cons_zero, List.set_cons_succ, i64_w, i32_w]
             rfl
            refine take_ (i := 0) (N := some 38) (v := ?_) (a' := ?_) #[true, true, true, false, false, true, true, false, false, false, false, false, false, false] rfl rfl (take_ofW HT_.out HW_.out (by kernel_rfl)) (fun _ _ _ h => h) (Or.inl ⟨by rfl, ?_⟩) hHeld ?_ ?_
            rotate_left
            ·rintro w' ⟨s0, s1, s2, s3, s4, s5⟩
             go_simp
             with_reducible rfl
            rotate_left
            ·simp only [Act.put, List.setIfInBounds_toArray, List.set_cons_zero, List.set_cons_succ, i64_w, i32_w]
             rfl
            refine take_ (i := 4) (N := some 42) (v := ?_) (a' := ?_) #[true, true, true, false, true, true, true, false, false, false, false, false, false, false] rfl rfl (take_ofW HT_.out HW_.out (by kernel_rfl)) (fun _ _ _ h => h) (Or.inl ⟨by rfl, ?_⟩) hHeld ?_ ?_
            rotate_left
            ·rintro w' ⟨s0, s1, s2, s3, s4, s5⟩
             go_simp
             with_reducible rfl
            rotate_left
            ·simp only [Act.put, List.setIfInBounds_toArray, List.set_cons_zero, List.set_cons_succ, i64_w, i32_w]
             rfl
            refine one_ (i := 3) (N := some 41) #[true, true, true, true, true, true, true, false, false, false, false, false, false, false] rfl rfl (one_of HT_.out (by kernel_rfl)) (by decide) (fun K hK => ?_)
            refine goes_ Try.func49 (by kernel_rfl) rfl #[.agg #[.int .i64 a0_0, .int .i64 a0_1, .slice A0_2 l0_2.length c0_2], .int .i64 x7_1, .int .i64 x11_3] (by rfl) rfl rfl lm_ ?_
            with_reducible refine (spec_l01At.calls a0_0 a0_1 _ _ l0_2 x7_1 x11_3 t148 _ ?side1 ?side2 A30.out).mono ?_
            (case side1 => repeat (first | exact (Kd.C_below HR0_2.out HB.out) | (with_reducible refine Kd.C_alloc ?_ _) | (with_reducible refine Kd.C_drewN ?_ _) | (with_reducible refine Kd.C_drew ?_)))
            (case side2 => exact HC0_2.out)
            rintro e w53 ⟨rfl, hb⟩
            refine ⟨_, rfl, ?_⟩
            have n0_ := am_ (Kd.R_below (rk_ HO_147002.out) hb)
            have n1_ := am_ (bw_ BK138 hb)
            have n2_ := am_ (bw_ BK139 hb)
            have n3_ := am_ (bw_ BK140 hb)
            have n4_ := am_ (bw_ BK146 hb)
            have n5_ := am_ (below_step (bb_ HB.out) hb)
            clear HO_147002 BK138 BK139 BK140 BK146 HB; revert n0_ n1_ n2_ n3_ n4_ n5_; intro HO_147002 BK138 BK139 BK140 BK146 HB
            (try clear hb)
            (try clear hb2)
            (try clear hk)
            (try clear hi)
            refine hK.out _ _ ⟨bc_ BK138 0, bc_ BK138 1, bc_ BK138 2, bc_ BK139 0, bc_ BK139 1, bc_ BK139 2⟩ (fun hHeld => ?_)
            clear hK K
            refine norm_ (a' := ?_) ?_ ?_
            rotate_left
            ·show Act.put _ (some 41) _ = _
             simp only [Act.put, List.setIfInBounds_toArray, List.set_cons_zero, List.set_cons_succ, i64_w, i32_w]
             rfl
            refine one_ (i := 7) (N := some 45) #[true, true, true, true, true, true, true, true, false, false, false, false, false, false] rfl rfl (one_of HT_.out (by kernel_rfl)) (by decide) (fun K hK => ?_)
            refine goes_ Try.func49 (by kernel_rfl) rfl #[.agg #[.int .i64 a1_0, .int .i64 a1_1, .slice A1_2 l1_2.length c1_2], .int .i64 x11_3, .int .i64 x8_2] (by rfl) rfl rfl lm_ ?_
            with_reducible refine (spec_l01At.calls a1_0 a1_1 _ _ l1_2 x11_3 x8_2 t149 _ ?side1 ?side2 A31.out).mono ?_
            (case side1 => repeat (first | exact (Kd.C_below HR1_2.out HB.out) | (with_reducible refine Kd.C_alloc ?_ _) | (with_reducible refine Kd.C_drewN ?_ _) | (with_reducible refine Kd.C_drew ?_)))
            (case side2 => exact HC1_2.out)
            rintro e w54 ⟨rfl, hb⟩
            refine ⟨_, rfl, ?_⟩
            have n0_ := am_ (Kd.R_below (rk_ HO_147002.out) hb)
            have n1_ := am_ (bw_ BK138 hb)
            have n2_ := am_ (bw_ BK139 hb)
            have n3_ := am_ (bw_ BK140 hb)
            have n4_ := am_ (bw_ BK146 hb)
            have n5_ := am_ (below_step (bb_ HB.out) hb)
            clear HO_147002 BK138 BK139 BK140 BK146 HB; revert n0_ n1_ n2_ n3_ n4_ n5_; intro HO_147002 BK138 BK139 BK140 BK146 HB
            (try clear hb)
            (try clear hb2)
            (try clear hk)
            (try clear hi)
            refine hK.out _ _ ⟨bc_ BK138 0, bc_ BK138 1, bc_ BK138 2, bc_ BK139 0, bc_ BK139 1, bc_ BK139 2⟩ (fun hHeld => ?_)
            clear hK K
            refine norm_ (a' := ?_) ?_ ?_
            rotate_left
            ·show Act.put _ (some 45) _ = _
             simp only [Act.put, List.setIfInBounds_toArray, List.set_cons_zero, List.set_cons_succ, i64_w, i32_w]
             rfl
            refine one_ (i := 8) (N := some 46) #[true, true, true, true, true, true, true, true, true, false, false, false, false, false] rfl rfl (one_of HT_.out (by kernel_rfl)) (by decide) (fun K hK => ?_)
            refine goes_ Try.func60 (by kernel_rfl) rfl #[.int .i64 t148, .int .i64 t149, .int .i64 1000000000000] (by rfl) rfl rfl lm_ ?_
            with_reducible refine (spec_l01Times.calls t148 t149 1000000000000 t150 true _ A32.out).mono ?_
            rintro e w55 ⟨rfl, hb⟩
            refine ⟨_, rfl, ?_⟩
            have n0_ := am_ (Kd.R_below (rk_ HO_147002.out) hb)
            have n1_ := am_ (bw_ BK138 hb)
            have n2_ := am_ (bw_ BK139 hb)
            have n3_ := am_ (bw_ BK140 hb)
            have n4_ := am_ (bw_ BK146 hb)
            have n5_ := am_ (below_step (bb_ HB.out) hb)
            clear HO_147002 BK138 BK139 BK140 BK146 HB; revert n0_ n1_ n2_ n3_ n4_ n5_; intro HO_147002 BK138 BK139 BK140 BK146 HB
            (try clear hb)
            (try clear hb2)
            (try clear hk)
            (try clear hi)
            refine hK.out _ _ ⟨bc_ BK138 0, bc_ BK138 1, bc_ BK138 2, bc_ BK139 0, bc_ BK139 1, bc_ BK139 2⟩ (fun hHeld => ?_)
            clear hK K
            refine norm_ (a' := ?_) ?_ ?_
            rotate_left
            ·show Act.put _ (some 46) _ = _
             simp only [Act.put, List.setIfInBounds_toArray, List.set_cons_zero, List.set_cons_succ, i64_w, i32_w]
             rfl
            refine pure_ (i := 9) (N := some 37) (v := ?_) (a' := ?_) #[true, true, true, true, true, true, true, true, true, true, false, false, false, false] rfl rfl (any_of HT_.out (by kernel_rfl)) (fun _ _ _ h => h) (Or.inl ⟨by rfl, ?_⟩) ?_ ?_
            rotate_left
            ·intro w'
             go_simp
             with_reducible rfl
            rotate_left
            ·simp only [Act.put, List.setIfInBounds_toArray, List.set_cons_zero, List.set_cons_succ, i64_w, i32_w]
             rfl
            refine pure_ (i := 10) (N := some 47) (v := ?_) (a' := ?_) #[true, true, true, true, true, true, true, true, true, true, true, false, false, false] rfl rfl (any_of HT_.out (by kernel_rfl)) (fun _ _ _ h => h) (Or.inl ⟨by rfl, ?_⟩) ?_ ?_
            rotate_left
            ·intro w'
             go_simp
             with_reducible rfl
            rotate_left
            ·simp only [Act.put, List.setIfInBounds_toArray, List.set_cons_zero, List.set_cons_succ, i64_w, i32_w]
             rfl
            refine pure_ (i := 11) (N := some 48) (v := ?_) (a' := ?_) #[true, true, true, true, true, true, true, true, true, true, true, true, false, false] rfl rfl (any_of HT_.out (by kernel_rfl)) (fun _ _ _ h => h) (Or.inl ⟨by rfl, ?_⟩) ?_ ?_
            rotate_left
            ·intro w'
             go_simp
             with_reducible rfl
            rotate_left
            ·simp only [Act.put, List.setIfInBounds_toArray, List.set_cons_zero, List.set_cons_succ, i64_w, i32_w]
             rfl
            refine pure_ (i := 12) (N := some 12) (v := ?_) (a' := ?_) #[true, true, true, true, true, true, true, true, true, true, true, true, true, false] rfl rfl (any_of HT_.out (by kernel_rfl)) (fun _ _ _ h => h) (Or.inl ⟨by rfl, ?_⟩) ?_ ?_
            rotate_left
            ·intro w'
             go_simp
             with_reducible rfl
            rotate_left
            ·simp only [Act.put, List.setIfInBounds_toArray, List.set_cons_zero, List.set_cons_succ, i64_w, i32_w]
             rfl
            refine pure_ (i := 13) (N := some 13) (v := ?_) (a' := ?_) #[true, true, true, true, true, true, true, true, true, true, true, true, true, true] rfl rfl (any_of HT_.out (by kernel_rfl)) (fun _ _ _ h => h) (Or.inl ⟨by rfl, ?_⟩) ?_ ?_
            rotate_left
            ·intro w'
             go_simp
             with_reducible rfl
            rotate_left
            ·simp only [Act.put, List.setIfInBounds_toArray, List.set_cons_zero, List.set_cons_succ, i64_w, i32_w]
             rfl
            refine done_ (done_of HT_.out (by kernel_rfl)) ?_
            try go_wp2_with (first | ((with_reducible refine gate_callee (f := 48) rfl ?_); refine goesL_ (some 51) rfl rfl Try.func48 (by kernel_rfl) rfl #[.int .i64 t150] rfl lm_ ?_; (with_reducible refine (spec_l01Abs.calls t150 t152 _ A33.out).mono ?_); rintro e w56 ⟨rfl, hb⟩; refine ⟨_, rfl, ?_⟩; have n0_ := am_ (Kd.R_below (rk_ HO_147002.out) hb); have n1_ := am_ (bw_ BK138 hb); have n2_ := am_ (bw_ BK139 hb); have n3_ := am_ (bw_ BK140 hb); have n4_ := am_ (bw_ BK146 hb); have n5_ := am_ (below_step (bb_ HB.out) hb); clear HO_147002 BK138 BK139 BK140 BK146 HB; revert n0_ n1_ n2_ n3_ n4_ n5_; intro HO_147002 BK138 BK139 BK140 BK146 HB; (try clear hb); (try clear hb2); (try clear hk); (try clear hi)))
            go_roundg k3
            case measure => have := HK1.out; have := HK2.out; have := HK3.out; omega
            case rel => exact ⟨(wrap64 (x9_3 + t150)), (wrap64 (x10_3 + t152)), (wrap64 (x11_3 + 1)), (x141000_3), (x141001_3), (by first | rfl | (simp; done) | (simp [*]; done)), (by first | rfl | (simp; done) | (simp [*]; done)), (by first | rfl | (simp; done) | (simp [*]; done)), H', ⟨by have := HK1.out; have := HK2.out; have := HK3.out; omega⟩, ⟨rk_ HO_147002.out⟩, ⟨bk_ BK138.out⟩, ⟨bk_ BK139.out⟩, ⟨bk_ BK140.out⟩, ⟨bk_ BK146.out⟩, ⟨bb_ HB.out⟩⟩
          ·replace c34 := Bool.eq_false_iff.mpr c34
           subst c34
           have H1 : (some (0, 0, ([] : List Int), false)) = some (r1, r2, r3, r4) := by rw [if_neg (show ¬ (false = true) by decide)] at H; exact H
           clear H
           have H := H1
           clear H1
           simp only [Option.some.injEq, Prod.mk.injEq] at H
           obtain ⟨rfl, rfl, rfl, rfl⟩ := H
           have hnb57 := NB138_139.out
           have hnc57 := NB139_138.out
           have hnb58 := NB138_140.out
           have hnc58 := NB140_138.out
           have hnb59 := NB138_146.out
           have hnc59 := NB146_138.out
           obtain ⟨hcz60_0, hcz60_1, hcz60_2, hfz60_0, hfz60_1, hfz60_2⟩ := bx3_ BK138
           try go_wp2
           have n0_ := am_ (Kd.R_drew HO_147002.out)
           have n1_ := am_ (blk_drew BK138.out)
           have n2_ := am_ (blk_drew BK139.out)
           have n3_ := am_ (blk_drew BK140.out)
           have n4_ := am_ (blk_drew BK146.out)
           have n5_ := am_ (below_drew1 HB.out)
           clear HO_147002 BK138 BK139 BK140 BK146 HB; revert n0_ n1_ n2_ n3_ n4_ n5_; intro HO_147002 BK138 BK139 BK140 BK146 HB
           refine start_ (n := 14) (S := fun w' => w'.cell? ⟨gb138, 0, none⟩ = some (.int .i64 a0_0) ∧ w'.cell? ⟨gb138, 1, none⟩ = some (.int .i64 a0_1) ∧ w'.cell? ⟨gb138, 2, none⟩ = some (.slice A0_2 l0_2.length c0_2) ∧ w'.cell? ⟨gb139, 0, none⟩ = some (.int .i64 a1_0) ∧ w'.cell? ⟨gb139, 1, none⟩ = some (.int .i64 a1_1) ∧ w'.cell? ⟨gb139, 2, none⟩ = some (.slice A1_2 l1_2.length c1_2)) (ds := []) #[false, false, false, false, false, false, false, false, false, false, false, false, false, false] (by kernel_rfl) rfl rfl ⟨bc_ BK138 0, bc_ BK138 1, bc_ BK138 2, bc_ BK139 0, bc_ BK139 1, bc_ BK139 2⟩ (fun hHeld => ?_); refine with_tabW spec_l01Multiply.tab12 spec_l01Multiply.bits12 (fun HT_ HW_ => ?_)
           generalize wr.drew = w61 at HO_147002 BK138 BK139 BK140 BK146 HB hHeld ⊢
           refine pure_ (i := 1) (N := some 39) (v := ?_) (a' := ?_) #[false, true, false, false, false, false, false, false, false, false, false, false, false, false] rfl rfl (any_of HT_.out (by kernel_rfl)) (fun _ _ _ h => h) (Or.inl ⟨by rfl, ?_⟩) ?_ ?_
           rotate_left
           ·intro w'
            go_simp
            with_reducible rfl
           rotate_left
           ·simp only [Act.put, List.setIfInBounds_toArray, List.set_cons_zero, List.set_cons_succ, i64_w, i32_w]
            rfl
           refine pure_ (i := 2) (N := some 40) (v := ?_) (a' := ?_) #[false, true, true, false, false, false, false, false, false, false, false, false, false, false] rfl rfl (any_of HT_.out (by kernel_rfl)) (fun _ _ _ h => h) (Or.inl ⟨by rfl, ?_⟩) ?_ ?_
           rotate_left
           ·intro w'
            go_simp
            with_reducible rfl
           rotate_left
           ·simp only [Act.put, List.setIfInBounds_toArray, List.set_cons_zero, List.set_cons_succ, i64_w, i32_w]
            rfl
           refine pure_ (i := 5) (N := some 43) (v := ?_) (a' := ?_) #[false, true, true, false, false, true, false, false, false, false, false, false, false, false] rfl rfl (any_of HT_.out (by kernel_rfl)) (fun _ _ _ h => h) (Or.inl ⟨by rfl, ?_⟩) ?_ ?_
           rotate_left
           ·intro w'
            go_simp
            with_reducible rfl
           rotate_left
           ·simp only [Act.put, List.setIfInBounds_toArray, List.set_cons_zero, List.set_cons_succ, i64_w, i32_w]
            rfl
           refine pure_ (i := 6) (N := some 44) (v := ?_) (a' := ?_) #[false, true, true, false, false, true, true, false, false, false, false, false, false, false] rfl rfl (any_of HT_.out (by kernel_rfl)) (fun _ _ _ h => h) (Or.inl ⟨by rfl, ?_⟩) ?_ ?_
           rotate_left
           ·intro w'
            go_simp
            with_reducible rfl
           rotate_left
           ·simp only [Act.put, List.setIfInBounds_toArray, List.set_cons_zero, List.set_cons_succ, i64_w, i32_w]
            rfl
           refine take_ (i := 0) (N := some 38) (v := ?_) (a' := ?_) #[true, true, true, false, false, true, true, false, false, false, false, false, false, false] rfl rfl (take_ofW HT_.out HW_.out (by kernel_rfl)) (fun _ _ _ h => h) (Or.inl ⟨by rfl, ?_⟩) hHeld ?_ ?_
           rotate_left
           ·rintro w' ⟨s0, s1, s2, s3, s4, s5⟩
            go_simp
            with_reducible rfl
           rotate_left
           ·simp only [Act.put, List.setIfInBounds_toArray, List.set_cons_zero, List.set_cons_succ, i64_w, i32_w]
            rfl
           refine take_ (i := 4) (N := some 42) (v := ?_) (a' := ?_) #[true, true, true, false, true, true, true, false, false, false, false, false, false, false] rfl rfl (take_ofW HT_.out HW_.out (by kernel_rfl)) (fun _ _ _ h => h) (Or.inl ⟨by rfl, ?_⟩) hHeld ?_ ?_
           rotate_left
           ·rintro w' ⟨s0, s1, s2, s3, s4, s5⟩
            go_simp
            with_reducible rfl
           rotate_left
           ·simp only [Act.put, List.setIfInBounds_toArray, List.set_cons_zero, List.set_cons_succ, i64_w, i32_w]
            rfl
           refine one_ (i := 3) (N := some 41) #[true, true, true, true, true, true, true, false, false, false, false, false, false, false] rfl rfl (one_of HT_.out (by kernel_rfl)) (by decide) (fun K hK => ?_)
           refine goes_ Try.func49 (by kernel_rfl) rfl #[.agg #[.int .i64 a0_0, .int .i64 a0_1, .slice A0_2 l0_2.length c0_2], .int .i64 x7_1, .int .i64 x11_3] (by rfl) rfl rfl lm_ ?_
           with_reducible refine (spec_l01At.calls a0_0 a0_1 _ _ l0_2 x7_1 x11_3 t148 _ ?side1 ?side2 A30.out).mono ?_
           (case side1 => repeat (first | exact (Kd.C_below HR0_2.out HB.out) | (with_reducible refine Kd.C_alloc ?_ _) | (with_reducible refine Kd.C_drewN ?_ _) | (with_reducible refine Kd.C_drew ?_)))
           (case side2 => exact HC0_2.out)
           rintro e w62 ⟨rfl, hb⟩
           refine ⟨_, rfl, ?_⟩
           have n0_ := am_ (Kd.R_below (rk_ HO_147002.out) hb)
           have n1_ := am_ (bw_ BK138 hb)
           have n2_ := am_ (bw_ BK139 hb)
           have n3_ := am_ (bw_ BK140 hb)
           have n4_ := am_ (bw_ BK146 hb)
           have n5_ := am_ (below_step (bb_ HB.out) hb)
           clear HO_147002 BK138 BK139 BK140 BK146 HB; revert n0_ n1_ n2_ n3_ n4_ n5_; intro HO_147002 BK138 BK139 BK140 BK146 HB
           (try clear hb)
           (try clear hb2)
           (try clear hk)
           (try clear hi)
           refine hK.out _ _ ⟨bc_ BK138 0, bc_ BK138 1, bc_ BK138 2, bc_ BK139 0, bc_ BK139 1, bc_ BK139 2⟩ (fun hHeld => ?_)
           clear hK K
           refine norm_ (a' := ?_) ?_ ?_
           rotate_left
           ·show Act.put _ (some 41) _ = _
            simp only [Act.put, List.setIfInBounds_toArray, List.set_cons_zero, List.set_cons_succ, i64_w, i32_w]
            rfl
           refine one_ (i := 7) (N := some 45) #[true, true, true, true, true, true, true, true, false, false, false, false, false, false] rfl rfl (one_of HT_.out (by kernel_rfl)) (by decide) (fun K hK => ?_)
           refine goes_ Try.func49 (by kernel_rfl) rfl #[.agg #[.int .i64 a1_0, .int .i64 a1_1, .slice A1_2 l1_2.length c1_2], .int .i64 x11_3, .int .i64 x8_2] (by rfl) rfl rfl lm_ ?_
           with_reducible refine (spec_l01At.calls a1_0 a1_1 _ _ l1_2 x11_3 x8_2 t149 _ ?side1 ?side2 A31.out).mono ?_
           (case side1 => repeat (first | exact (Kd.C_below HR1_2.out HB.out) | (with_reducible refine Kd.C_alloc ?_ _) | (with_reducible refine Kd.C_drewN ?_ _) | (with_reducible refine Kd.C_drew ?_)))
           (case side2 => exact HC1_2.out)
           rintro e w63 ⟨rfl, hb⟩
           refine ⟨_, rfl, ?_⟩
           have n0_ := am_ (Kd.R_below (rk_ HO_147002.out) hb)
           have n1_ := am_ (bw_ BK138 hb)
           have n2_ := am_ (bw_ BK139 hb)
           have n3_ := am_ (bw_ BK140 hb)
           have n4_ := am_ (bw_ BK146 hb)
           have n5_ := am_ (below_step (bb_ HB.out) hb)
           clear HO_147002 BK138 BK139 BK140 BK146 HB; revert n0_ n1_ n2_ n3_ n4_ n5_; intro HO_147002 BK138 BK139 BK140 BK146 HB
           (try clear hb)
           (try clear hb2)
           (try clear hk)
           (try clear hi)
           refine hK.out _ _ ⟨bc_ BK138 0, bc_ BK138 1, bc_ BK138 2, bc_ BK139 0, bc_ BK139 1, bc_ BK139 2⟩ (fun hHeld => ?_)
           clear hK K
           refine norm_ (a' := ?_) ?_ ?_
           rotate_left
           ·show Act.put _ (some 45) _ = _
            simp only [Act.put, List.setIfInBounds_toArray, List.set_cons_zero, List.set_cons_succ, i64_w, i32_w]
            rfl
           refine one_ (i := 8) (N := some 46) #[true, true, true, true, true, true, true, true, true, false, false, false, false, false] rfl rfl (one_of HT_.out (by kernel_rfl)) (by decide) (fun K hK => ?_)
           refine goes_ Try.func60 (by kernel_rfl) rfl #[.int .i64 t148, .int .i64 t149, .int .i64 1000000000000] (by rfl) rfl rfl lm_ ?_
           with_reducible refine (spec_l01Times.calls t148 t149 1000000000000 t150 false _ A32.out).mono ?_
           rintro e w64 ⟨rfl, hb⟩
           refine ⟨_, rfl, ?_⟩
           have n0_ := am_ (Kd.R_below (rk_ HO_147002.out) hb)
           have n1_ := am_ (bw_ BK138 hb)
           have n2_ := am_ (bw_ BK139 hb)
           have n3_ := am_ (bw_ BK140 hb)
           have n4_ := am_ (bw_ BK146 hb)
           have n5_ := am_ (below_step (bb_ HB.out) hb)
           clear HO_147002 BK138 BK139 BK140 BK146 HB; revert n0_ n1_ n2_ n3_ n4_ n5_; intro HO_147002 BK138 BK139 BK140 BK146 HB
           (try clear hb)
           (try clear hb2)
           (try clear hk)
           (try clear hi)
           refine hK.out _ _ ⟨bc_ BK138 0, bc_ BK138 1, bc_ BK138 2, bc_ BK139 0, bc_ BK139 1, bc_ BK139 2⟩ (fun hHeld => ?_)
           clear hK K
           refine norm_ (a' := ?_) ?_ ?_
           rotate_left
           ·show Act.put _ (some 46) _ = _
            simp only [Act.put, List.setIfInBounds_toArray, List.set_cons_zero, List.set_cons_succ, i64_w, i32_w]
            rfl
           refine pure_ (i := 9) (N := some 37) (v := ?_) (a' := ?_) #[true, true, true, true, true, true, true, true, true, true, false, false, false, false] rfl rfl (any_of HT_.out (by kernel_rfl)) (fun _ _ _ h => h) (Or.inl ⟨by rfl, ?_⟩) ?_ ?_
           rotate_left
           ·intro w'
            go_simp
            with_reducible rfl
           rotate_left
           ·simp only [Act.put, List.setIfInBounds_toArray, List.set_cons_zero, List.set_cons_succ, i64_w, i32_w]
            rfl
           refine pure_ (i := 10) (N := some 47) (v := ?_) (a' := ?_) #[true, true, true, true, true, true, true, true, true, true, true, false, false, false] rfl rfl (any_of HT_.out (by kernel_rfl)) (fun _ _ _ h => h) (Or.inl ⟨by rfl, ?_⟩) ?_ ?_
           rotate_left
           ·intro w'
            go_simp
            with_reducible rfl
           rotate_left
           ·simp only [Act.put, List.setIfInBounds_toArray, List.set_cons_zero, List.set_cons_succ, i64_w, i32_w]
            rfl
           refine pure_ (i := 11) (N := some 48) (v := ?_) (a' := ?_) #[true, true, true, true, true, true, true, true, true, true, true, true, false, false] rfl rfl (any_of HT_.out (by kernel_rfl)) (fun _ _ _ h => h) (Or.inl ⟨by rfl, ?_⟩) ?_ ?_
           rotate_left
           ·intro w'
            go_simp
            with_reducible rfl
           rotate_left
           ·simp only [Act.put, List.setIfInBounds_toArray, List.set_cons_zero, List.set_cons_succ, i64_w, i32_w]
            rfl
           refine pure_ (i := 12) (N := some 12) (v := ?_) (a' := ?_) #[true, true, true, true, true, true, true, true, true, true, true, true, true, false] rfl rfl (any_of HT_.out (by kernel_rfl)) (fun _ _ _ h => h) (Or.inl ⟨by rfl, ?_⟩) ?_ ?_
           rotate_left
           ·intro w'
            go_simp
            with_reducible rfl
           rotate_left
           ·simp only [Act.put, List.setIfInBounds_toArray, List.set_cons_zero, List.set_cons_succ, i64_w, i32_w]
            rfl
           refine pure_ (i := 13) (N := some 13) (v := ?_) (a' := ?_) #[true, true, true, true, true, true, true, true, true, true, true, true, true, true] rfl rfl (any_of HT_.out (by kernel_rfl)) (fun _ _ _ h => h) (Or.inl ⟨by rfl, ?_⟩) ?_ ?_
           rotate_left
           ·intro w'
            go_simp
            with_reducible rfl
           rotate_left
           ·simp only [Act.put, List.setIfInBounds_toArray, List.set_cons_zero, List.set_cons_succ, i64_w, i32_w]
            rfl
           refine done_ (done_of HT_.out (by kernel_rfl)) ?_
           try go_wp2_with (first | ((with_reducible refine gate_callee (f := 48) rfl ?_); refine goesL_ (some 51) rfl rfl Try.func48 (by kernel_rfl) rfl #[.int .i64 t150] rfl lm_ ?_; (with_reducible refine (spec_l01Abs.calls t150 t152 _ A33.out).mono ?_); rintro e w65 ⟨rfl, hb⟩; refine ⟨_, rfl, ?_⟩; have n0_ := am_ (Kd.R_below (rk_ HO_147002.out) hb); have n1_ := am_ (bw_ BK138 hb); have n2_ := am_ (bw_ BK139 hb); have n3_ := am_ (bw_ BK140 hb); have n4_ := am_ (bw_ BK146 hb); have n5_ := am_ (below_step (bb_ HB.out) hb); clear HO_147002 BK138 BK139 BK140 BK146 HB; revert n0_ n1_ n2_ n3_ n4_ n5_; intro HO_147002 BK138 BK139 BK140 BK146 HB; (try clear hb); (try clear hb2); (try clear hk); (try clear hi); have hnb66 := NB140_139.out; have hnc66 := NB139_140.out; have hnb67 := NB140_146.out; have hnc67 := NB146_140.out; obtain ⟨hcz68_0, hcz68_1, hcz68_2, hfz68_0, hfz68_1, hfz68_2⟩ := bx3_ BK140))
           refine bodyPost_ret (results_ct rfl _ _ gb140 28 #[.int .i64 0, .int .i64 0, .slice none 0 0] (0, 0) _ rfl (by (with_reducible repeat (first | refine blk_drewN ?_ _ | refine blk_drew ?_ | refine blk_alloc ?_ _)); refine blk_put (cs := #[.int .i64 0, .int .i64 0, .slice none 0 0]) ?_ 2 _ rfl; (with_reducible repeat (first | refine blk_drewN ?_ _ | refine blk_drew ?_ | refine blk_alloc ?_ _)); refine blk_put (cs := #[.int .i64 0, .int .i64 x141001_3, .slice none 0 0]) ?_ 1 _ rfl; (with_reducible repeat (first | refine blk_drewN ?_ _ | refine blk_drew ?_ | refine blk_alloc ?_ _)); refine blk_put (cs := #[.int .i64 x141000_3, .int .i64 x141001_3, .slice none 0 0]) ?_ 0 _ rfl; (with_reducible repeat (first | refine blk_drewN ?_ _ | refine blk_drew ?_ | refine blk_alloc ?_ _)); exact BK140.out) Try.underlying28 rfl (by kernel_rfl)) rfl ?_
           exact ⟨_, by first | rfl | (simp [errW_none, errW_some] <;> rfl) | (simp [*, errW_none, errW_some] <;> rfl), by first | exact Kd.R_nil _ _ _ _ _ | exact Kd.N_nil _ _ _ _ _ | exact Kd.V_nil _ _ _ _ _ | exact Kd.Q_nil _ _ _ _ _ | exact Kd.S_nil _ _ _ _ _, bb_ HB.out⟩
         ·rw [if_neg c29] at H
          have c29b0 : decide (x11_3 < a0_1) = false := decide_eq_false c29
          clear c29
          obtain ⟨ji69, hji69⟩ : ∃ j_ : Int, (wrap64 ((wrap64 (x7_1 * a1_1)) + x8_2)) = j_ := ⟨_, rfl⟩
          replace H : (if 0 ≤ (ji69) then (if (ji69) < (x147002_2.length : Int) then (spec_l01Multiply.l1 k3 x7_1 (wrap64 (x8_2 + 1)) a0_0 a0_1 l0_2 a1_0 a1_1 l1_2 t141 t142 (x147002_2.set ((ji69) : Int).toNat x9_3)) else (none)) else (none)) = some (r1, r2, r3, r4) := by first | (rw [hji69] at H; exact H) | (simp only [hji69] at H ⊢; exact H)
          have hji69w : (IntKind.i64.wrap ((wrap64 (x7_1 * a1_1)) + x8_2)) = ji69 := (i64_w _).trans hji69
          by_cases c70 : 0 ≤ (ji69)
          ·rw [if_pos c70] at H
           have c70b0 : decide (0 ≤ (ji69)) = true := decide_eq_true c70
           clear c70
           by_cases c71 : (ji69) < (x147002_2.length : Int)
           ·rw [if_pos c71] at H
            have c71b0 : decide ((ji69) < (x147002_2.length : Int)) = true := decide_eq_true c71
            clear c71
            obtain ⟨y147, hy147⟩ : ∃ y_ : List Int, y_ = (x147002_2.set ((ji69) : Int).toNat x9_3) := ⟨_, rfl⟩
            replace H : (spec_l01Multiply.l1 k3 x7_1 (wrap64 (x8_2 + 1)) a0_0 a0_1 l0_2 a1_0 a1_1 l1_2 t141 t142 y147) = some (r1, r2, r3, r4) := by first | (rw [hy147]; with_reducible exact H) | (have H2_ := (Option.bind_some _ _).symm.trans H; rw [hy147]; with_reducible exact H2_) | (have H2_ := (Option.bind_some _ _).symm.trans H; with_reducible exact H2_) | with_reducible exact H | (rw [hy147]; exact H) | exact H
            have Ny147 := am_ hy147
            clear hy147
            have H' := am_ H
            clear H
            have hnb73 := NB138_139.out
            have hnc73 := NB139_138.out
            have hnb74 := NB138_140.out
            have hnc74 := NB140_138.out
            have hnb75 := NB138_146.out
            have hnc75 := NB146_138.out
            obtain ⟨hcz76_0, hcz76_1, hcz76_2, hfz76_0, hfz76_1, hfz76_2⟩ := bx3_ BK138
            have hnb77 := NB146_139.out
            have hnc77 := NB139_146.out
            have hnb78 := NB146_140.out
            have hnc78 := NB140_146.out
            obtain ⟨hcz79_0, hcz79_1, hcz79_2, hfz79_0, hfz79_1, hfz79_2⟩ := bx3_ BK146
            have hnb80 := NB139_140.out
            have hnc80 := NB140_139.out
            obtain ⟨hcz81_0, hcz81_1, hcz81_2, hfz81_0, hfz81_1, hfz81_2⟩ := bx3_ BK139
            have p72 : 0 ≤ ((ji69) : Int) := of_decide_eq_true (by first | (with_reducible assumption) | assumption)
            have q72 : ((ji69) : Int) < ((x147002_2.length : Int) : Int) := of_decide_eq_true (by first | (with_reducible assumption) | assumption)
            obtain ⟨go72, co72, eo72, gb72, gl72, cl72, HG72⟩ := Kd.R_form HO_147002.out (by omega)
            (first | cases eo72 | (injection eo72 with ea_ en_ ec_; (first | subst ea_ | (injection ea_ with ea_; subst ea_)); subst ec_; clear en_))
            have GB72 := am_ gb72
            have GG72 := am_ HG72
            clear gb72 gl72 HG72
            obtain ⟨hx72_0, hf72_0⟩ := Kd.R_celln 0 HO_147002.out ((ji69) : Int) p72 q72
            replace p72 := eq_true p72
            replace q72 := eq_true q72
            have HP82 := Kd.R_putg HO_147002.out ((ji69) : Int) x9_3
            go_wp2_with (first | ((with_reducible refine gate_store (t := 2) (p := 72) rfl ?_); refine store_event (t := 2) (p := 72) (v := ?vo_w83) (w1 := (wr.setCell ⟨go72, ((ji69) : Int).toNat, none⟩ (.int .i64 x9_3))) ?hg ?ho ?hn ?hr ?_; (case ho => rfl); (case hg => rfl); (case hn => rfl); (case hr => first | (go_simp; done) | (go_simp; rfl)); intro w83 hw; have hg : wr.grownBy w83 (some go72) := (by rw [hw]; exact HP82.2); have hp_ : Kd.R (Kd.int .i64) 2 w83 w.heap.size (fun _ => True) (.slice (some ⟨go72, 0, none⟩) x147002_2.length co72) y147 := (by rw [hw, Ny147.out]; exact HP82.1); clear HP82; have n0_ := am_ (hp_); have n1_ := am_ (blk_grown (g := gb138) (o := .cells #[.int .i64 a0_0, .int .i64 a0_1, .slice A0_2 l0_2.length c0_2] 28 (0, 0)) (bk_ BK138.out) hg (Kd.R_ne HO_147002.out BK138.out (by decide))); have n2_ := am_ (blk_grown (g := gb139) (o := .cells #[.int .i64 a1_0, .int .i64 a1_1, .slice A1_2 l1_2.length c1_2] 28 (0, 0)) (bk_ BK139.out) hg (Kd.R_ne HO_147002.out BK139.out (by decide))); have n3_ := am_ (blk_grown (g := gb140) (o := .cells #[.int .i64 x141000_3, .int .i64 x141001_3, .slice none 0 0] 28 (0, 0)) (bk_ BK140.out) hg (Kd.R_ne HO_147002.out BK140.out (by decide))); have n4_ := am_ (blk_grown (g := gb146) (o := .cells #[.int .i64 t141, .int .i64 t142, .slice (some ⟨go72, 0, none⟩) x147002_2.length co72] 28 (0, 0)) (bk_ BK146.out) hg (Kd.R_ne HO_147002.out BK146.out (by decide))); have n5_ := am_ ((by rw [hw]; exact below_set (HB.out) GB72.out : Below w.heap.size w w83)); clear HO_147002 BK138 BK139 BK140 BK146 HB; revert n0_ n1_ n2_ n3_ n4_ n5_; intro HO_147002 BK138 BK139 BK140 BK146 HB; clear hg hw hp_))
            go_roundg k3
            case measure => have := HK1.out; have := HK2.out; have := HK3.out; omega
            case rel => exact ⟨(wrap64 (x8_2 + 1)), (x141000_3), (x141001_3), (y147), (.slice (some ⟨go72, 0, none⟩) x147002_2.length co72), (by first | rfl | (simp; done) | (simp [*]; done)), H', ⟨by have := HK1.out; have := HK2.out; have := HK3.out; omega⟩, ⟨rk_ HO_147002.out⟩, ⟨bk_ BK138.out⟩, ⟨bk_ BK139.out⟩, ⟨bk_ BK140.out⟩, ⟨bk_ BK146.out⟩, ⟨bb_ HB.out⟩⟩
           ·rw [if_neg c71] at H
            exact absurd H (by simp)
          ·rw [if_neg c70] at H
           exact absurd H (by simp)
      ·rw [if_neg c24] at H
       have c24b0 : decide (x8_2 < a1_1) = false := decide_eq_false c24
       clear c24
       have H' := am_ H
       clear H
       have hnb84 := NB139_138.out
       have hnc84 := NB138_139.out
       have hnb85 := NB139_140.out
       have hnc85 := NB140_139.out
       have hnb86 := NB139_146.out
       have hnc86 := NB146_139.out
       obtain ⟨hcz87_0, hcz87_1, hcz87_2, hfz87_0, hfz87_1, hfz87_2⟩ := bx3_ BK139
       go_wp2
       go_roundg k2
       case measure => have := HK1.out; have := HK2.out; omega
       case rel => exact ⟨(wrap64 (x7_1 + 1)), (x141000_2), (x141001_2), (x147002_2), (u147002), (by first | rfl | (simp; done) | (simp [*]; done)), H', ⟨by have := HK1.out; have := HK2.out; omega⟩, ⟨rk_ HO_147002.out⟩, ⟨bk_ BK138.out⟩, ⟨bk_ BK139.out⟩, ⟨bk_ BK140.out⟩, ⟨bk_ BK146.out⟩, ⟨bb_ HB.out⟩⟩
   ·rw [if_neg c19] at H
    have c19b0 : decide (x7_1 < a0_0) = false := decide_eq_false c19
    clear c19
    simp only [Option.some.injEq, Prod.mk.injEq] at H
    obtain ⟨rfl, rfl, rfl, rfl⟩ := H
    have hnb88 := NB138_139.out
    have hnc88 := NB139_138.out
    have hnb89 := NB138_140.out
    have hnc89 := NB140_138.out
    have hnb90 := NB138_146.out
    have hnc90 := NB146_138.out
    obtain ⟨hcz91_0, hcz91_1, hcz91_2, hfz91_0, hfz91_1, hfz91_2⟩ := bx3_ BK138
    have hnb92 := NB146_139.out
    have hnc92 := NB139_146.out
    have hnb93 := NB146_140.out
    have hnc93 := NB140_146.out
    obtain ⟨hcz94_0, hcz94_1, hcz94_2, hfz94_0, hfz94_1, hfz94_2⟩ := bx3_ BK146
    have hnb95 := NB140_139.out
    have hnc95 := NB139_140.out
    obtain ⟨hcz96_0, hcz96_1, hcz96_2, hfz96_0, hfz96_1, hfz96_2⟩ := bx3_ BK140
    obtain ⟨Ao97, co97, eo97⟩ := Kd.R_slice HO_147002.out
    subst eo97
    go_wp2
    refine bodyPost_ret (results_ct rfl _ _ gb140 28 #[.int .i64 t141, .int .i64 t142, .slice Ao97 x147002_1.length co97] (0, 0) _ rfl (by (with_reducible repeat (first | refine blk_drewN ?_ _ | refine blk_drew ?_ | refine blk_alloc ?_ _)); refine blk_put (cs := #[.int .i64 t141, .int .i64 t142, .slice none 0 0]) ?_ 2 _ rfl; (with_reducible repeat (first | refine blk_drewN ?_ _ | refine blk_drew ?_ | refine blk_alloc ?_ _)); refine blk_put (cs := #[.int .i64 t141, .int .i64 x141001_1, .slice none 0 0]) ?_ 1 _ rfl; (with_reducible repeat (first | refine blk_drewN ?_ _ | refine blk_drew ?_ | refine blk_alloc ?_ _)); refine blk_put (cs := #[.int .i64 x141000_1, .int .i64 x141001_1, .slice none 0 0]) ?_ 0 _ rfl; (with_reducible repeat (first | refine blk_drewN ?_ _ | refine blk_drew ?_ | refine blk_alloc ?_ _)); exact BK140.out) Try.underlying28 rfl (by kernel_rfl)) rfl ?_
    exact ⟨_, by first | rfl | (simp [errW_none, errW_some] <;> rfl) | (simp [*, errW_none, errW_some] <;> rfl), rm_ (Kd.R_far (p := ⟨gb140, 2, none⟩) (Kd.R_far (p := ⟨gb140, 1, none⟩) (Kd.R_far (p := ⟨gb140, 0, none⟩) (Kd.R_types HO_147002.out BK140.out (by decide)) (fun _ hk => hk.2) (.int .i64 t141)) (fun _ hk => hk.2) (.int .i64 t142)) (fun _ hk => hk.2) (.slice Ao97 x147002_1.length co97)) (fun _ hk => trivial), bb_ HB.out⟩

end Go.Proofs.Ytifbfloifdkacaa.PFnExactIsReduction
