/- Written by this session's program out of the kit's print and this session's contracts. -/
import Derived.Test.YtifbfloifdkacaaVFnProductsPx0
import Derived.Test.YtifbfloifdkacaaVFnProductsPx1
import Derived.Test.YtifbfloifdkacaaVFnProductsPx6
namespace Go.Proofs.Ytifbfloifdkacaa.PFnProducts
open Go.RowKit Go.Proofs.YtifbfloifdkacaaW.PrintWords Go.Proofs.YtifbfloifdkacaaW.PrintLast Go.Proofs.YtifbfloifdkacaaW.PrintMore
attribute [local go_sem] max2_int min2_int max_two min_two max_three min_three max_four min_four   -- for this text's walks alone
set_option linter.unusedVariables false
set_option linter.unusedSimpArgs false

/-! ### impl_MultiplyMatrices: function 13 -/
mutual
def impl_MultiplyMatrices.j0 : Nat → Bool → Int → Int → List Int → Int → Int → List Int → Option (Int × Int × List Int × Int)
 | 0, _, _, _, _, _, _, _ => none
 | k + 1, x11, x254000, x254001, x254002, x255000, x255001, x255002 => if x11 = true then (some (0, 0, ([] : List Int), 1)) else (if x254001 = x255000 then ((impl_zeroMatrix.f x254000 x255001).bind fun bt258 => (impl_MultiplyMatrices.l0 k x254000 0 x254000 x254001 x254002 x255000 x255001 x255002 bt258.1 bt258.2.1 bt258.2.2)) else (some (0, 0, ([] : List Int), 2)))
def impl_MultiplyMatrices.l0 : Nat → Int → Int → Int → Int → List Int → Int → Int → List Int → Int → Int → List Int → Option (Int × Int × List Int × Int)
 | 0, _, _, _, _, _, _, _, _, _, _, _ => none
 | k + 1, x34, x35, x254000, x254001, x254002, x255000, x255001, x255002, x264000, x264001, x264002 => if x35 < x34 then (impl_MultiplyMatrices.l1 k x35 x34 x35 x255001 0 x254000 x254001 x254002 x255000 x255001 x255002 x264000 x264001 x264002) else (some (x264000, x264001, x264002, 0))
def impl_MultiplyMatrices.l1 : Nat → Int → Int → Int → Int → Int → Int → Int → List Int → Int → Int → List Int → Int → Int → List Int → Option (Int × Int × List Int × Int)
 | 0, _, _, _, _, _, _, _, _, _, _, _, _, _, _ => none
 | k + 1, x7, x34, x35, x39, x40, x254000, x254001, x254002, x255000, x255001, x255002, x264000, x264001, x264002 => if x40 < x39 then ((impl_entryOf.f k x254000 x254001 x254002 x255000 x255001 x255002 x7 x40).bind fun bt264 => (if bt264.2 = true then ((impl_Matrix_at.f x264000 x264001 x264002 x7 x40).bind fun t266 => (if 0 ≤ t266 then (if t266 < (x264002.length : Int) then (impl_MultiplyMatrices.l1 k x7 x34 x35 x39 (wrap64 (x40 + 1)) x254000 x254001 x254002 x255000 x255001 x255002 x264000 x264001 (x264002.set (t266 : Int).toNat bt264.1)) else (none)) else (none))) else (some (0, 0, ([] : List Int), 3)))) else (impl_MultiplyMatrices.l0 k x34 (wrap64 (x35 + 1)) x254000 x254001 x254002 x255000 x255001 x255002 x264000 x264001 x264002)
end
def impl_MultiplyMatrices.f (k : Nat) (a0_0 : Int) (a0_1 : Int) (l0_2 : List Int) (a1_0 : Int) (a1_1 : Int) (l1_2 : List Int) : Option (Int × Int × List Int × Int) := (impl_isMatrix.f a0_0 a0_1 l0_2).bind fun t256 => (if t256 = true then ((impl_isMatrix.f a1_0 a1_1 l1_2).bind fun t257 => (impl_MultiplyMatrices.j0 k (!t257) a0_0 a0_1 l0_2 a1_0 a1_1 l1_2)) else (impl_MultiplyMatrices.j0 k true a0_0 a0_1 l0_2 a1_0 a1_1 l1_2))
theorem impl_MultiplyMatrices.mono_l : ∀ k, (∀ y0 y1 y2 y3 y4 y5 y6, LeO (impl_MultiplyMatrices.j0 k y0 y1 y2 y3 y4 y5 y6) (impl_MultiplyMatrices.j0 (k + 1) y0 y1 y2 y3 y4 y5 y6)) ∧ (∀ y0 y1 y2 y3 y4 y5 y6 y7 y8 y9 y10, LeO (impl_MultiplyMatrices.l0 k y0 y1 y2 y3 y4 y5 y6 y7 y8 y9 y10) (impl_MultiplyMatrices.l0 (k + 1) y0 y1 y2 y3 y4 y5 y6 y7 y8 y9 y10)) ∧ (∀ y0 y1 y2 y3 y4 y5 y6 y7 y8 y9 y10 y11 y12 y13, LeO (impl_MultiplyMatrices.l1 k y0 y1 y2 y3 y4 y5 y6 y7 y8 y9 y10 y11 y12 y13) (impl_MultiplyMatrices.l1 (k + 1) y0 y1 y2 y3 y4 y5 y6 y7 y8 y9 y10 y11 y12 y13))
 | 0 => ⟨fun _ _ _ _ _ _ _ r h => by simp [impl_MultiplyMatrices.j0] at h, fun _ _ _ _ _ _ _ _ _ _ _ r h => by simp [impl_MultiplyMatrices.l0] at h, fun _ _ _ _ _ _ _ _ _ _ _ _ _ _ r h => by simp [impl_MultiplyMatrices.l1] at h⟩
 | k + 1 => by
  obtain ⟨ih0, ih1, ih2⟩ := impl_MultiplyMatrices.mono_l k
  refine ⟨?_, ?_, ?_⟩
  ·intro y0 y1 y2 y3 y4 y5 y6
   unfold impl_MultiplyMatrices.j0
   repeat' first
   | (with_reducible exact ih0 _ _ _ _ _ _ _)
   | (with_reducible exact ih1 _ _ _ _ _ _ _ _ _ _ _)
   | (with_reducible exact ih2 _ _ _ _ _ _ _ _ _ _ _ _ _ _)
   | (with_reducible exact impl_entryOf.mono _ _ _ _ _ _ _ _ _)
   | (with_reducible exact LeO.refl _)
   | (with_reducible exact LeO.none _)
   | (with_reducible refine LeO.ite ?_ ?_)
   | (with_reducible refine LeO.bind ?_ (fun _ => ?_))
   | exact ih0 _ _ _ _ _ _ _
   | exact ih1 _ _ _ _ _ _ _ _ _ _ _
   | exact ih2 _ _ _ _ _ _ _ _ _ _ _ _ _ _
   | exact impl_entryOf.mono _ _ _ _ _ _ _ _ _
   | exact LeO.none _
   | refine LeO.ite ?_ ?_
   | refine LeO.bind ?_ (fun _ => ?_)
  ·intro y0 y1 y2 y3 y4 y5 y6 y7 y8 y9 y10
   unfold impl_MultiplyMatrices.l0
   repeat' first
   | (with_reducible exact ih0 _ _ _ _ _ _ _)
   | (with_reducible exact ih1 _ _ _ _ _ _ _ _ _ _ _)
   | (with_reducible exact ih2 _ _ _ _ _ _ _ _ _ _ _ _ _ _)
   | (with_reducible exact impl_entryOf.mono _ _ _ _ _ _ _ _ _)
   | (with_reducible exact LeO.refl _)
   | (with_reducible exact LeO.none _)
   | (with_reducible refine LeO.ite ?_ ?_)
   | (with_reducible refine LeO.bind ?_ (fun _ => ?_))
   | exact ih0 _ _ _ _ _ _ _
   | exact ih1 _ _ _ _ _ _ _ _ _ _ _
   | exact ih2 _ _ _ _ _ _ _ _ _ _ _ _ _ _
   | exact impl_entryOf.mono _ _ _ _ _ _ _ _ _
   | exact LeO.none _
   | refine LeO.ite ?_ ?_
   | refine LeO.bind ?_ (fun _ => ?_)
  ·intro y0 y1 y2 y3 y4 y5 y6 y7 y8 y9 y10 y11 y12 y13
   unfold impl_MultiplyMatrices.l1
   repeat' first
   | (with_reducible exact ih0 _ _ _ _ _ _ _)
   | (with_reducible exact ih1 _ _ _ _ _ _ _ _ _ _ _)
   | (with_reducible exact ih2 _ _ _ _ _ _ _ _ _ _ _ _ _ _)
   | (with_reducible exact impl_entryOf.mono _ _ _ _ _ _ _ _ _)
   | (with_reducible exact LeO.refl _)
   | (with_reducible exact LeO.none _)
   | (with_reducible refine LeO.ite ?_ ?_)
   | (with_reducible refine LeO.bind ?_ (fun _ => ?_))
   | exact ih0 _ _ _ _ _ _ _
   | exact ih1 _ _ _ _ _ _ _ _ _ _ _
   | exact ih2 _ _ _ _ _ _ _ _ _ _ _ _ _ _
   | exact impl_entryOf.mono _ _ _ _ _ _ _ _ _
   | exact LeO.none _
   | refine LeO.ite ?_ ?_
   | refine LeO.bind ?_ (fun _ => ?_)
theorem impl_MultiplyMatrices.mono : ∀ a0 a1 a2 a3 a4 a5 k, LeO (impl_MultiplyMatrices.f k a0 a1 a2 a3 a4 a5) (impl_MultiplyMatrices.f (k + 1) a0 a1 a2 a3 a4 a5) := by
 intro a0 a1 a2 a3 a4 a5 k
 obtain ⟨ih0, ih1, ih2⟩ := impl_MultiplyMatrices.mono_l k
 unfold impl_MultiplyMatrices.f
 repeat' first
   | (with_reducible exact ih0 _ _ _ _ _ _ _)
   | (with_reducible exact ih1 _ _ _ _ _ _ _ _ _ _ _)
   | (with_reducible exact ih2 _ _ _ _ _ _ _ _ _ _ _ _ _ _)
   | (with_reducible exact impl_entryOf.mono _ _ _ _ _ _ _ _ _)
   | (with_reducible exact LeO.refl _)
   | (with_reducible exact LeO.none _)
   | (with_reducible refine LeO.ite ?_ ?_)
   | (with_reducible refine LeO.bind ?_ (fun _ => ?_))
   | exact ih0 _ _ _ _ _ _ _
   | exact ih1 _ _ _ _ _ _ _ _ _ _ _
   | exact ih2 _ _ _ _ _ _ _ _ _ _ _ _ _ _
   | exact impl_entryOf.mono _ _ _ _ _ _ _ _ _
   | exact LeO.none _
   | refine LeO.ite ?_ ?_
   | refine LeO.bind ?_ (fun _ => ?_)
set_option maxHeartbeats 8000000 in
set_option maxRecDepth 100000 in
theorem impl_MultiplyMatrices.calls (k : Nat) (a0_0 : Int) (a0_1 : Int) (A0_2 : Option Addr) (c0_2 : Nat) (l0_2 : List Int) (a1_0 : Int) (a1_1 : Int) (A1_2 : Option Addr) (c1_2 : Nat) (l1_2 : List Int) (r1 : Int) (r2 : Int) (r3 : List Int) (r4 : Int) (w : World) (hr0_2 : Kd.C (Kd.int .i64) w A0_2 l0_2.length l0_2) (hc0_2 : l0_2.length ≤ c0_2) (hr1_2 : Kd.C (Kd.int .i64) w A1_2 l1_2.length l1_2) (hc1_2 : l1_2.length ≤ c1_2) (h : impl_MultiplyMatrices.f k a0_0 a0_1 l0_2 a1_0 a1_1 l1_2 = some (r1, r2, r3, r4)) :
  Calls Try.prog 13 #[.agg #[.int .i64 a0_0, .int .i64 a0_1, .slice A0_2 l0_2.length c0_2], .agg #[.int .i64 a1_0, .int .i64 a1_1, .slice A1_2 l1_2.length c1_2]] w fun e w' => ∃ v2_ : Value, e = .returned (.tuple #[.agg #[.int .i64 r1, .int .i64 r2, v2_], .int .i64 r4]) ∧ Kd.R (Kd.int .i64) 2 w' w.heap.size (fun _ => True) v2_ r3 ∧ Below w.heap.size w w' := by
 have hu28 := Try.underlying28
 have HR0_2 := am_ hr0_2
 have HC0_2 := am_ hc0_2
 clear hr0_2 hc0_2
 have HR1_2 := am_ hr1_2
 have HC1_2 := am_ hc1_2
 clear hr1_2 hc1_2
 have HB := am_ (Below.refl w.heap.size w)
 have H : ((impl_isMatrix.f a0_0 a0_1 l0_2).bind fun t256 => (if t256 = true then ((impl_isMatrix.f a1_0 a1_1 l1_2).bind fun t257 => (impl_MultiplyMatrices.j0 k (!t257) a0_0 a0_1 l0_2 a1_0 a1_1 l1_2)) else (impl_MultiplyMatrices.j0 k true a0_0 a0_1 l0_2 a1_0 a1_1 l1_2))) = some (r1, r2, r3, r4) := h
 clear h
 have HC3 := am_ H
 clear H
 go_enter Try.func13, Try.ntmps13
 go_upto_region 1 with (first | ((with_reducible refine gate_dst (N := 2) rfl ?_); refine box_event ?hg (N := 2) ?hd (cs := #[.int .i64 a0_0, .int .i64 a0_1, .slice A0_2 l0_2.length c0_2]) (t := 28) ?hr ?_; (case hd => rfl); (case hg => rfl); (case hr => first | (go_simp; done) | (go_simp; rfl)); intro gb253 hg w4 hbox hb; have n0_ := am_ (below_step (bb_ HB.out) hb); have n1_ := am_ (hbox); have n2_ := am_ ((by rw [hg]; exact (below_size (bb_ HB.out)) : w.heap.size ≤ gb253)); have n3_ := am_ ((by rw [hg]; exact (below_size (bb_ HB.out)) : w.heap.size ≤ gb253)); clear HB; revert n0_ n1_ n2_ n3_; intro HB BK253 GW253 GE253; clear hb hbox hg) | ((with_reducible refine gate_dst (N := 3) rfl ?_); refine box_event ?hg (N := 3) ?hd (cs := #[.int .i64 a1_0, .int .i64 a1_1, .slice A1_2 l1_2.length c1_2]) (t := 28) ?hr ?_; (case hd => rfl); (case hg => rfl); (case hr => first | (go_simp; done) | (go_simp; rfl)); intro gb254 hg w5 hbox hb; have n0_ := am_ (bw_ BK253 hb); have n1_ := am_ (below_step (bb_ HB.out) hb); have n2_ := am_ (hbox); have n3_ := am_ ((by rw [hg]; exact (below_size (bb_ HB.out)) : w.heap.size ≤ gb254)); have n4_ := am_ ((by rw [hg]; exact (below_size (bb_ HB.out)) : w.heap.size ≤ gb254)); have n5_ := am_ (nl_ BK253 hg); have n6_ := am_ (ng_ BK253 hg); clear BK253 HB; revert n0_ n1_ n2_ n3_ n4_ n5_ n6_; intro BK253 HB BK254 GW254 GE254 NB253_254 NB254_253; clear hb hbox hg) | ((with_reducible refine gate_dst (N := 4) rfl ?_); refine box_event ?hg (N := 4) ?hd (cs := #[.int .i64 0, .int .i64 0, .slice none 0 0]) (t := 28) ?hr ?_; (case hd => rfl); (case hg => rfl); (case hr => first | (go_simp; done) | (go_simp; rfl)); intro gb255 hg w6 hbox hb; have n0_ := am_ (bw_ BK253 hb); have n1_ := am_ (bw_ BK254 hb); have n2_ := am_ (below_step (bb_ HB.out) hb); have n3_ := am_ (hbox); have n4_ := am_ ((by rw [hg]; exact (below_size (bb_ HB.out)) : w.heap.size ≤ gb255)); have n5_ := am_ ((by rw [hg]; exact (below_size (bb_ HB.out)) : w.heap.size ≤ gb255)); have n6_ := am_ (nl_ BK253 hg); have n7_ := am_ (ng_ BK253 hg); have n8_ := am_ (nl_ BK254 hg); have n9_ := am_ (ng_ BK254 hg); clear BK253 BK254 HB; revert n0_ n1_ n2_ n3_ n4_ n5_ n6_ n7_ n8_ n9_; intro BK253 BK254 HB BK255 GW255 GE255 NB253_255 NB255_253 NB254_255 NB255_254; clear hb hbox hg))
 (try simp only [Act.put, List.setIfInBounds_toArray, List.set_cons_zero, List.set_cons_succ])
 go_cut [11] (fun v11 wc => ∃ (kq : Nat) (x11_2 : Bool), v11 = .bool x11_2 ∧ Aside0 (impl_MultiplyMatrices.j0 kq x11_2 a0_0 a0_1 l0_2 a1_0 a1_1 l1_2 = some (r1, r2, r3, r4)) ∧ Aside0 (kq ≤ k) ∧ Aside0 (wc.heap[gb253]? = some (.cells #[.int .i64 a0_0, .int .i64 a0_1, (.slice A0_2 l0_2.length c0_2)] 28 (0, 0))) ∧ Aside0 (wc.heap[gb254]? = some (.cells #[.int .i64 a1_0, .int .i64 a1_1, (.slice A1_2 l1_2.length c1_2)] 28 (0, 0))) ∧ Aside0 (wc.heap[gb255]? = some (.cells #[.int .i64 0, .int .i64 0, (.slice none 0 0)] 28 (0, 0))) ∧ Aside0 (Below w.heap.size w wc))
 case first =>
  have H := HC3.out
  clear HC3
  replace H := Option.bind_eq_some_iff.mp H
  obtain ⟨t256, A70, H⟩ := H
  replace H : (if t256 = true then ((impl_isMatrix.f a1_0 a1_1 l1_2).bind fun t257 => (impl_MultiplyMatrices.j0 k (!t257) a0_0 a0_1 l0_2 a1_0 a1_1 l1_2)) else (impl_MultiplyMatrices.j0 k true a0_0 a0_1 l0_2 a1_0 a1_1 l1_2)) = some (r1, r2, r3, r4) := H
  have A7 := am_ A70
  clear A70
  by_cases c8 : t256 = true
  ·subst c8
   have H1 : ((impl_isMatrix.f a1_0 a1_1 l1_2).bind fun t257 => (impl_MultiplyMatrices.j0 k (!t257) a0_0 a0_1 l0_2 a1_0 a1_1 l1_2)) = some (r1, r2, r3, r4) := by rw [if_pos rfl] at H; exact H
   clear H
   have H := H1
   clear H1
   replace H := Option.bind_eq_some_iff.mp H
   obtain ⟨t257, A90, H⟩ := H
   replace H : (impl_MultiplyMatrices.j0 k (!t257) a0_0 a0_1 l0_2 a1_0 a1_1 l1_2) = some (r1, r2, r3, r4) := H
   have A9 := am_ A90
   clear A90
   have H' := am_ H
   clear H
   have hnb10 := NB253_254.out
   have hnc10 := NB254_253.out
   have hnb11 := NB253_255.out
   have hnc11 := NB255_253.out
   have hcz12_0 : w6.cell? ⟨gb253, 0, none⟩ = some (.int .i64 a0_0) := bc_ BK253 0
   have hcz12_1 : w6.cell? ⟨gb253, 1, none⟩ = some (.int .i64 a0_1) := bc_ BK253 1
   have hcz12_2 : w6.cell? ⟨gb253, 2, none⟩ = some (.slice A0_2 l0_2.length c0_2) := bc_ BK253 2
   have hfz12_0 := blk_frozen BK253.out 0
   have hfz12_1 := blk_frozen BK253.out 1
   have hfz12_2 := blk_frozen BK253.out 2
   go_wp2_with (first | ((with_reducible refine gate_callee (f := 27) rfl ?_); refine goesL_ (some 13) rfl rfl Try.func27 (by kernel_rfl) rfl #[.agg #[.int .i64 a0_0, .int .i64 a0_1, .slice A0_2 l0_2.length c0_2]] rfl lm_ ?_; (with_reducible refine (impl_isMatrix.calls a0_0 a0_1 _ _ l0_2 true _ ?side1 ?side2 A7.out).mono ?_); (case side1 => repeat (first | exact (Kd.C_below HR0_2.out HB.out) | (with_reducible refine Kd.C_alloc ?_ _) | (with_reducible refine Kd.C_drewN ?_ _) | (with_reducible refine Kd.C_drew ?_))); (case side2 => exact HC0_2.out); rintro e w13 ⟨rfl, hb⟩; refine ⟨_, rfl, ?_⟩; have n0_ := am_ (bw_ BK253 hb); have n1_ := am_ (bw_ BK254 hb); have n2_ := am_ (bw_ BK255 hb); have n3_ := am_ (below_step (bb_ HB.out) hb); clear BK253 BK254 BK255 HB; revert n0_ n1_ n2_ n3_; intro BK253 BK254 BK255 HB; (try clear hb); (try clear hb2); (try clear hk); (try clear hi); have hnb14 := NB254_255.out; have hnc14 := NB255_254.out; have hcz15_0 : w13.cell? ⟨gb254, 0, none⟩ = some (.int .i64 a1_0) := bc_ BK254 0; have hcz15_1 : w13.cell? ⟨gb254, 1, none⟩ = some (.int .i64 a1_1) := bc_ BK254 1; have hcz15_2 : w13.cell? ⟨gb254, 2, none⟩ = some (.slice A1_2 l1_2.length c1_2) := bc_ BK254 2; have hfz15_0 := blk_frozen BK254.out 0; have hfz15_1 := blk_frozen BK254.out 1; have hfz15_2 := blk_frozen BK254.out 2) | (go_at_call 27; (with_reducible refine (impl_isMatrix.calls a1_0 a1_1 _ _ l1_2 t257 _ ?side1 ?side2 A9.out).mono ?_); (case side1 => repeat (first | exact (Kd.C_below HR1_2.out HB.out) | (with_reducible refine Kd.C_alloc ?_ _) | (with_reducible refine Kd.C_drewN ?_ _) | (with_reducible refine Kd.C_drew ?_))); (case side2 => exact HC1_2.out); rintro e w16 ⟨rfl, hb⟩; have n0_ := am_ (bw_ BK253 hb); have n1_ := am_ (bw_ BK254 hb); have n2_ := am_ (bw_ BK255 hb); have n3_ := am_ (below_step (bb_ HB.out) hb); clear BK253 BK254 BK255 HB; revert n0_ n1_ n2_ n3_; intro BK253 BK254 BK255 HB; (try clear hb); (try clear hb2); (try clear hk); (try clear hi)))
   go_meet
   case rel => exact ⟨_, (!t257), (by first | rfl | (simp; done) | (simp [*]; done)), H', ⟨by first | omega | exact Nat.le_refl _⟩, ⟨bk_ BK253.out⟩, ⟨bk_ BK254.out⟩, ⟨bk_ BK255.out⟩, ⟨bb_ HB.out⟩⟩
  ·replace c8 := Bool.eq_false_iff.mpr c8
   subst c8
   have H1 : (impl_MultiplyMatrices.j0 k true a0_0 a0_1 l0_2 a1_0 a1_1 l1_2) = some (r1, r2, r3, r4) := by rw [if_neg (show ¬ (false = true) by decide)] at H; exact H
   clear H
   have H := H1
   clear H1
   have H' := am_ H
   clear H
   have hnb17 := NB253_254.out
   have hnc17 := NB254_253.out
   have hnb18 := NB253_255.out
   have hnc18 := NB255_253.out
   have hcz19_0 : w6.cell? ⟨gb253, 0, none⟩ = some (.int .i64 a0_0) := bc_ BK253 0
   have hcz19_1 : w6.cell? ⟨gb253, 1, none⟩ = some (.int .i64 a0_1) := bc_ BK253 1
   have hcz19_2 : w6.cell? ⟨gb253, 2, none⟩ = some (.slice A0_2 l0_2.length c0_2) := bc_ BK253 2
   have hfz19_0 := blk_frozen BK253.out 0
   have hfz19_1 := blk_frozen BK253.out 1
   have hfz19_2 := blk_frozen BK253.out 2
   go_wp2_with (first | ((with_reducible refine gate_callee (f := 27) rfl ?_); refine goesL_ (some 13) rfl rfl Try.func27 (by kernel_rfl) rfl #[.agg #[.int .i64 a0_0, .int .i64 a0_1, .slice A0_2 l0_2.length c0_2]] rfl lm_ ?_; (with_reducible refine (impl_isMatrix.calls a0_0 a0_1 _ _ l0_2 false _ ?side1 ?side2 A7.out).mono ?_); (case side1 => repeat (first | exact (Kd.C_below HR0_2.out HB.out) | (with_reducible refine Kd.C_alloc ?_ _) | (with_reducible refine Kd.C_drewN ?_ _) | (with_reducible refine Kd.C_drew ?_))); (case side2 => exact HC0_2.out); rintro e w20 ⟨rfl, hb⟩; refine ⟨_, rfl, ?_⟩; have n0_ := am_ (bw_ BK253 hb); have n1_ := am_ (bw_ BK254 hb); have n2_ := am_ (bw_ BK255 hb); have n3_ := am_ (below_step (bb_ HB.out) hb); clear BK253 BK254 BK255 HB; revert n0_ n1_ n2_ n3_; intro BK253 BK254 BK255 HB; (try clear hb); (try clear hb2); (try clear hk); (try clear hi)))
   go_meet
   case rel => exact ⟨_, (true), (by first | rfl | (simp; done) | (simp [*]; done)), H', ⟨by first | omega | exact Nat.le_refl _⟩, ⟨bk_ BK253.out⟩, ⟨bk_ BK254.out⟩, ⟨bk_ BK255.out⟩, ⟨bb_ HB.out⟩⟩
 case rest =>
  clear HC3
  try clear c1
  try clear c2
  try clear p2
  try clear c8
  try clear c10
  try clear c11
  try clear c13
  try clear c14
  try clear c17
  try clear c18
  try clear hcz12_0
  try clear hcz12_1
  try clear hcz12_2
  try clear hcz15_0
  try clear hcz15_1
  try clear hcz15_2
  try clear hcz19_0
  try clear hcz19_1
  try clear hcz19_2
  try clear hfz12_0
  try clear hfz12_1
  try clear hfz12_2
  try clear hfz15_0
  try clear hfz15_1
  try clear hfz15_2
  try clear hfz19_0
  try clear hfz19_1
  try clear hfz19_2
  obtain ⟨kq, x11_2, rfl, HA, HJ2, BK253, BK254, BK255, HB⟩ := hcut
  cases kq with
  | zero => exact absurd HA.out (by simp [impl_MultiplyMatrices.j0])
  | succ kj2 =>
   have H := HA.out
   clear HA
   simp only [impl_MultiplyMatrices.j0] at H
   by_cases c21 : x11_2 = true
   ·subst c21
    have H1 : (some (0, 0, ([] : List Int), 1)) = some (r1, r2, r3, r4) := by rw [if_pos rfl] at H; exact H
    clear H
    have H := H1
    clear H1
    simp only [Option.some.injEq, Prod.mk.injEq] at H
    obtain ⟨rfl, rfl, rfl, rfl⟩ := H
    have hnb22 := NB255_253.out
    have hnc22 := NB253_255.out
    have hnb23 := NB255_254.out
    have hnc23 := NB254_255.out
    have hcz24_0 : wc.cell? ⟨gb255, 0, none⟩ = some (.int .i64 0) := bc_ BK255 0
    have hcz24_1 : wc.cell? ⟨gb255, 1, none⟩ = some (.int .i64 0) := bc_ BK255 1
    have hcz24_2 : wc.cell? ⟨gb255, 2, none⟩ = some (.slice none 0 0) := bc_ BK255 2
    have hfz24_0 := blk_frozen BK255.out 0
    have hfz24_1 := blk_frozen BK255.out 1
    have hfz24_2 := blk_frozen BK255.out 2
    go_wp2
    refine bodyPost_ret (results_ct rfl _ _ gb255 28 #[.int .i64 0, .int .i64 0, .slice none 0 0] (0, 0) _ rfl (by (with_reducible repeat (first | refine blk_drewN ?_ _ | refine blk_drew ?_ | refine blk_alloc ?_ _)); refine blk_put (cs := #[.int .i64 0, .int .i64 0, .slice none 0 0]) ?_ 2 _ rfl; (with_reducible repeat (first | refine blk_drewN ?_ _ | refine blk_drew ?_ | refine blk_alloc ?_ _)); refine blk_put (cs := #[.int .i64 0, .int .i64 0, .slice none 0 0]) ?_ 1 _ rfl; (with_reducible repeat (first | refine blk_drewN ?_ _ | refine blk_drew ?_ | refine blk_alloc ?_ _)); refine blk_put (cs := #[.int .i64 0, .int .i64 0, .slice none 0 0]) ?_ 0 _ rfl; (with_reducible repeat (first | refine blk_drewN ?_ _ | refine blk_drew ?_ | refine blk_alloc ?_ _)); exact BK255.out) Try.underlying28 rfl (by kernel_rfl)) rfl ?_
    exact ⟨_, by first | rfl | (simp [errW_none, errW_some] <;> rfl) | (simp [*, errW_none, errW_some] <;> rfl), by first | exact Kd.R_nil _ _ _ _ _ | exact Kd.N_nil _ _ _ _ _ | exact Kd.V_nil _ _ _ _ _ | exact Kd.Q_nil _ _ _ _ _ | exact Kd.S_nil _ _ _ _ _, bb_ HB.out⟩
   ·replace c21 := Bool.eq_false_iff.mpr c21
    subst c21
    have H1 : (if a0_1 = a1_0 then ((impl_zeroMatrix.f a0_0 a1_1).bind fun bt258 => (impl_MultiplyMatrices.l0 kj2 a0_0 0 a0_0 a0_1 l0_2 a1_0 a1_1 l1_2 bt258.1 bt258.2.1 bt258.2.2)) else (some (0, 0, ([] : List Int), 2))) = some (r1, r2, r3, r4) := by rw [if_neg (show ¬ (false = true) by decide)] at H; exact H
    clear H
    have H := H1
    clear H1
    by_cases c25 : a0_1 = a1_0
    ·rw [if_pos c25] at H
     have c25b0 : (a0_1 == a1_0) = true := beq_iff_eq.mpr c25
     have c25b1 : (a0_1 != a1_0) = false := bne_eq_false_iff_eq.mpr c25
     clear c25
     replace H := Option.bind_eq_some_iff.mp H
     obtain ⟨⟨t258, t259, t260⟩, A260, H⟩ := H
     replace H : (impl_MultiplyMatrices.l0 kj2 a0_0 0 a0_0 a0_1 l0_2 a1_0 a1_1 l1_2 t258 t259 t260) = some (r1, r2, r3, r4) := H
     have A26 := am_ A260
     clear A260
     have H' := am_ H
     clear H
     have hnb27 := NB253_254.out
     have hnc27 := NB254_253.out
     have hnb28 := NB253_255.out
     have hnc28 := NB255_253.out
     have hcz29_0 : wc.cell? ⟨gb253, 0, none⟩ = some (.int .i64 a0_0) := bc_ BK253 0
     have hcz29_1 : wc.cell? ⟨gb253, 1, none⟩ = some (.int .i64 a0_1) := bc_ BK253 1
     have hcz29_2 : wc.cell? ⟨gb253, 2, none⟩ = some (.slice A0_2 l0_2.length c0_2) := bc_ BK253 2
     have hfz29_0 := blk_frozen BK253.out 0
     have hfz29_1 := blk_frozen BK253.out 1
     have hfz29_2 := blk_frozen BK253.out 2
     have hnb30 := NB254_255.out
     have hnc30 := NB255_254.out
     have hcz31_0 : wc.cell? ⟨gb254, 0, none⟩ = some (.int .i64 a1_0) := bc_ BK254 0
     have hcz31_1 : wc.cell? ⟨gb254, 1, none⟩ = some (.int .i64 a1_1) := bc_ BK254 1
     have hcz31_2 : wc.cell? ⟨gb254, 2, none⟩ = some (.slice A1_2 l1_2.length c1_2) := bc_ BK254 2
     have hfz31_0 := blk_frozen BK254.out 0
     have hfz31_1 := blk_frozen BK254.out 1
     have hfz31_2 := blk_frozen BK254.out 2
     go_wp2_with (first | ((with_reducible refine gate_callee (f := 36) rfl ?_); refine goesL_ (some 32) rfl rfl Try.func36 (by kernel_rfl) rfl #[.int .i64 a0_0, .int .i64 a1_1] rfl lm_ ?_; (with_reducible refine (impl_zeroMatrix.calls a0_0 a1_1 t258 t259 t260 _ A26.out).mono ?_); rintro e w32 ⟨v261, rfl, ho0, hb⟩; refine ⟨_, rfl, ?_⟩; have n0_ := am_ (Kd.R_lower ho0 (below_size (bb_ HB.out))); have n1_ := am_ (bw_ BK253 hb); have n2_ := am_ (bw_ BK254 hb); have n3_ := am_ (bw_ BK255 hb); have n4_ := am_ (below_step (bb_ HB.out) hb); clear BK253 BK254 BK255 HB; revert n0_ n1_ n2_ n3_ n4_; intro HO262 BK253 BK254 BK255 HB; (try clear hb); (try clear hb2); (try clear hk); (try clear hi); (try clear ho0)) | ((with_reducible refine gate_dst (N := 6) rfl ?_); refine box_event ?hg (N := 6) ?hd (cs := #[.int .i64 0, .int .i64 0, .slice none 0 0]) (t := 28) ?hr ?_; (case hd => rfl); (case hg => rfl); (case hr => first | (go_simp; done) | (go_simp; rfl)); intro gb263 hg w33 hbox hb; have n0_ := am_ (Kd.R_below (rk_ HO262.out) hb); have n1_ := am_ (bw_ BK253 hb); have n2_ := am_ (bw_ BK254 hb); have n3_ := am_ (bw_ BK255 hb); have n4_ := am_ (below_step (bb_ HB.out) hb); have n5_ := am_ (hbox); have n6_ := am_ ((by rw [hg]; exact (below_size (bb_ HB.out)) : w.heap.size ≤ gb263)); have n7_ := am_ ((by rw [hg]; exact (below_size (bb_ HB.out)) : w.heap.size ≤ gb263)); have n8_ := am_ (nl_ BK253 hg); have n9_ := am_ (ng_ BK253 hg); have n10_ := am_ (nl_ BK254 hg); have n11_ := am_ (ng_ BK254 hg); have n12_ := am_ (nl_ BK255 hg); have n13_ := am_ (ng_ BK255 hg); clear HO262 BK253 BK254 BK255 HB; revert n0_ n1_ n2_ n3_ n4_ n5_ n6_ n7_ n8_ n9_ n10_ n11_ n12_ n13_; intro HO262 BK253 BK254 BK255 HB BK263 GW263 GE263 NB253_263 NB263_253 NB254_263 NB263_254 NB255_263 NB263_255; clear hb hbox hg; have hnb34 := NB263_253.out; have hnc34 := NB253_263.out; have hnb35 := NB263_254.out; have hnc35 := NB254_263.out; have hnb36 := NB263_255.out; have hnc36 := NB255_263.out; have hcz37_0 : w33.cell? ⟨gb263, 0, none⟩ = some (.int .i64 0) := bc_ BK263 0; have hcz37_1 : w33.cell? ⟨gb263, 1, none⟩ = some (.int .i64 0) := bc_ BK263 1; have hcz37_2 : w33.cell? ⟨gb263, 2, none⟩ = some (.slice none 0 0) := bc_ BK263 2; have hfz37_0 := blk_frozen BK263.out 0; have hfz37_1 := blk_frozen BK263.out 1; have hfz37_2 := blk_frozen BK263.out 2; obtain ⟨Ao38, co38, eo38⟩ := Kd.R_slice HO262.out; subst eo38; have hcz39_0 : w33.cell? ⟨gb253, 0, none⟩ = some (.int .i64 a0_0) := bc_ BK253 0; have hcz39_1 : w33.cell? ⟨gb253, 1, none⟩ = some (.int .i64 a0_1) := bc_ BK253 1; have hcz39_2 : w33.cell? ⟨gb253, 2, none⟩ = some (.slice A0_2 l0_2.length c0_2) := bc_ BK253 2; have hfz39_0 := blk_frozen BK253.out 0; have hfz39_1 := blk_frozen BK253.out 1; have hfz39_2 := blk_frozen BK253.out 2))
     go_loopg [35] kj2 (fun kq v35 w' => ∃ (x35_2 : Int) (x256000_2 : Int) (x256001_2 : Int) (x264002_2 : List Int) (u264002 : Value), v35 = .int .i64 x35_2 ∧ Aside0 (impl_MultiplyMatrices.l0 kq a0_0 x35_2 a0_0 a0_1 l0_2 a1_0 a1_1 l1_2 t258 t259 x264002_2 = some (r1, r2, r3, r4)) ∧ Aside0 (kq ≤ kj2) ∧ Aside0 (Kd.R (Kd.int .i64) 2 w' w.heap.size (fun _ => True) u264002 x264002_2) ∧ Aside0 (w'.heap[gb253]? = some (.cells #[.int .i64 a0_0, .int .i64 a0_1, (.slice A0_2 l0_2.length c0_2)] 28 (0, 0))) ∧ Aside0 (w'.heap[gb254]? = some (.cells #[.int .i64 a1_0, .int .i64 a1_1, (.slice A1_2 l1_2.length c1_2)] 28 (0, 0))) ∧ Aside0 (w'.heap[gb255]? = some (.cells #[.int .i64 x256000_2, .int .i64 x256001_2, (.slice none 0 0)] 28 (0, 0))) ∧ Aside0 (w'.heap[gb263]? = some (.cells #[.int .i64 t258, .int .i64 t259, u264002] 28 (0, 0))) ∧ Aside0 (Below w.heap.size w w'))
     case atStart => exact ⟨(0), (0), (0), (t260), (.slice Ao38 t260.length co38), (by first | rfl | (simp; done) | (simp [*]; done)), H', ⟨Nat.le_refl _⟩, ⟨rm_ (Kd.R_far (p := ⟨gb263, 2, none⟩) (Kd.R_far (p := ⟨gb263, 1, none⟩) (Kd.R_far (p := ⟨gb263, 0, none⟩) (Kd.R_types HO262.out BK263.out (by decide)) (fun _ hk => hk.2) (.int .i64 t258)) (fun _ hk => hk.2) (.int .i64 t259)) (fun _ hk => hk.2) (.slice Ao38 t260.length co38)) (fun _ hk => trivial)⟩, ⟨bk_ BK253.out⟩, ⟨bk_ BK254.out⟩, ⟨bk_ BK255.out⟩, ⟨by (with_reducible repeat (first | refine blk_drewN ?_ _ | refine blk_drew ?_ | refine blk_alloc ?_ _)); refine blk_put (cs := #[.int .i64 t258, .int .i64 t259, .slice none 0 0]) ?_ 2 _ rfl; (with_reducible repeat (first | refine blk_drewN ?_ _ | refine blk_drew ?_ | refine blk_alloc ?_ _)); refine blk_put (cs := #[.int .i64 t258, .int .i64 0, .slice none 0 0]) ?_ 1 _ rfl; (with_reducible repeat (first | refine blk_drewN ?_ _ | refine blk_drew ?_ | refine blk_alloc ?_ _)); refine blk_put (cs := #[.int .i64 0, .int .i64 0, .slice none 0 0]) ?_ 0 _ rfl; (with_reducible repeat (first | refine blk_drewN ?_ _ | refine blk_drew ?_ | refine blk_alloc ?_ _)); exact BK263.out⟩, ⟨bb_ HB.out⟩⟩
     case round =>
      clear H'
      try clear c1
      try clear c2
      try clear p2
      try clear c3
      try clear c8
      try clear c10
      try clear c11
      try clear c13
      try clear c14
      try clear c17
      try clear c18
      try clear c21
      try clear c22
      try clear c23
      try clear c25
      try clear c25b0
      try clear c25b1
      try clear c27
      try clear c28
      try clear c30
      try clear c34
      try clear c35
      try clear c36
      try clear hcz12_0
      try clear hcz12_1
      try clear hcz12_2
      try clear hcz15_0
      try clear hcz15_1
      try clear hcz15_2
      try clear hcz19_0
      try clear hcz19_1
      try clear hcz19_2
      try clear hcz24_0
      try clear hcz24_1
      try clear hcz24_2
      try clear hcz29_0
      try clear hcz29_1
      try clear hcz29_2
      try clear hcz31_0
      try clear hcz31_1
      try clear hcz31_2
      try clear hcz37_0
      try clear hcz37_1
      try clear hcz37_2
      try clear hcz39_0
      try clear hcz39_1
      try clear hcz39_2
      try clear hfz12_0
      try clear hfz12_1
      try clear hfz12_2
      try clear hfz15_0
      try clear hfz15_1
      try clear hfz15_2
      try clear hfz19_0
      try clear hfz19_1
      try clear hfz19_2
      try clear hfz24_0
      try clear hfz24_1
      try clear hfz24_2
      try clear hfz29_0
      try clear hfz29_1
      try clear hfz29_2
      try clear hfz31_0
      try clear hfz31_1
      try clear hfz31_2
      try clear hfz37_0
      try clear hfz37_1
      try clear hfz37_2
      try clear hfz39_0
      try clear hfz39_1
      try clear hfz39_2
      try clear p2
      obtain ⟨x35_2, x256000_2, x256001_2, x264002_2, u264002, rfl, HA, HK2, HO_264002, BK253, BK254, BK255, BK263, HB⟩ := hrel
      cases gk with
      | zero => exact absurd HA.out (by simp [impl_MultiplyMatrices.l0])
      | succ k2 =>
       have H := HA.out
       clear HA
       simp only [impl_MultiplyMatrices.l0] at H
       by_cases c40 : x35_2 < a0_0
       ·rw [if_pos c40] at H
        have c40b0 : decide (x35_2 < a0_0) = true := decide_eq_true c40
        clear c40
        have H' := am_ H
        clear H
        have hnb41 := NB254_253.out
        have hnc41 := NB253_254.out
        have hnb42 := NB254_255.out
        have hnc42 := NB255_254.out
        have hnb43 := NB254_263.out
        have hnc43 := NB263_254.out
        have hcz44_0 : wr.cell? ⟨gb254, 0, none⟩ = some (.int .i64 a1_0) := bc_ BK254 0
        have hcz44_1 : wr.cell? ⟨gb254, 1, none⟩ = some (.int .i64 a1_1) := bc_ BK254 1
        have hcz44_2 : wr.cell? ⟨gb254, 2, none⟩ = some (.slice A1_2 l1_2.length c1_2) := bc_ BK254 2
        have hfz44_0 := blk_frozen BK254.out 0
        have hfz44_1 := blk_frozen BK254.out 1
        have hfz44_2 := blk_frozen BK254.out 2
        go_wp2
        go_loopg [40] k2 (fun kq v40 w' => ∃ (x40_3 : Int) (x256000_3 : Int) (x256001_3 : Int) (x264002_3 : List Int) (u264002 : Value), v40 = .int .i64 x40_3 ∧ Aside0 (impl_MultiplyMatrices.l1 kq x35_2 a0_0 x35_2 a1_1 x40_3 a0_0 a0_1 l0_2 a1_0 a1_1 l1_2 t258 t259 x264002_3 = some (r1, r2, r3, r4)) ∧ Aside0 (kq ≤ k2) ∧ Aside0 (Kd.R (Kd.int .i64) 2 w' w.heap.size (fun _ => True) u264002 x264002_3) ∧ Aside0 (w'.heap[gb253]? = some (.cells #[.int .i64 a0_0, .int .i64 a0_1, (.slice A0_2 l0_2.length c0_2)] 28 (0, 0))) ∧ Aside0 (w'.heap[gb254]? = some (.cells #[.int .i64 a1_0, .int .i64 a1_1, (.slice A1_2 l1_2.length c1_2)] 28 (0, 0))) ∧ Aside0 (w'.heap[gb255]? = some (.cells #[.int .i64 x256000_3, .int .i64 x256001_3, (.slice none 0 0)] 28 (0, 0))) ∧ Aside0 (w'.heap[gb263]? = some (.cells #[.int .i64 t258, .int .i64 t259, u264002] 28 (0, 0))) ∧ Aside0 (Below w.heap.size w w'))
        case atStart => exact ⟨(0), (x256000_2), (x256001_2), (x264002_2), (u264002), (by first | rfl | (simp; done) | (simp [*]; done)), H', ⟨Nat.le_refl _⟩, ⟨rk_ HO_264002.out⟩, ⟨bk_ BK253.out⟩, ⟨bk_ BK254.out⟩, ⟨bk_ BK255.out⟩, ⟨bk_ BK263.out⟩, ⟨bb_ HB.out⟩⟩
        case round =>
         clear H'
         try clear c1
         try clear c2
         try clear p2
         try clear c3
         try clear c4
         try clear c8
         try clear c10
         try clear c11
         try clear c13
         try clear c14
         try clear c17
         try clear c18
         try clear c21
         try clear c22
         try clear c23
         try clear c25
         try clear c25b0
         try clear c25b1
         try clear c27
         try clear c28
         try clear c30
         try clear c34
         try clear c35
         try clear c36
         try clear c40
         try clear c40b0
         try clear c41
         try clear c42
         try clear c43
         try clear hcz12_0
         try clear hcz12_1
         try clear hcz12_2
         try clear hcz15_0
         try clear hcz15_1
         try clear hcz15_2
         try clear hcz19_0
         try clear hcz19_1
         try clear hcz19_2
         try clear hcz24_0
         try clear hcz24_1
         try clear hcz24_2
         try clear hcz29_0
         try clear hcz29_1
         try clear hcz29_2
         try clear hcz31_0
         try clear hcz31_1
         try clear hcz31_2
         try clear hcz37_0
         try clear hcz37_1
         try clear hcz37_2
         try clear hcz39_0
         try clear hcz39_1
         try clear hcz39_2
         try clear hcz44_0
         try clear hcz44_1
         try clear hcz44_2
         try clear hfz12_0
         try clear hfz12_1
         try clear hfz12_2
         try clear hfz15_0
         try clear hfz15_1
         try clear hfz15_2
         try clear hfz19_0
         try clear hfz19_1
         try clear hfz19_2
         try clear hfz24_0
         try clear hfz24_1
         try clear hfz24_2
         try clear hfz29_0
         try clear hfz29_1
         try clear hfz29_2
         try clear hfz31_0
         try clear hfz31_1
         try clear hfz31_2
         try clear hfz37_0
         try clear hfz37_1
         try clear hfz37_2
         try clear hfz39_0
         try clear hfz39_1
         try clear hfz39_2
         try clear hfz44_0
         try clear hfz44_1
         try clear hfz44_2
         try clear p2
         obtain ⟨x40_3, x256000_3, x256001_3, x264002_3, u264002, rfl, HA, HK3, HO_264002, BK253, BK254, BK255, BK263, HB⟩ := hrel
         cases gk with
         | zero => exact absurd HA.out (by simp [impl_MultiplyMatrices.l1])
         | succ k3 =>
          have H := HA.out
          clear HA
          simp only [impl_MultiplyMatrices.l1] at H
          by_cases c45 : x40_3 < a1_1
          ·rw [if_pos c45] at H
           have c45b0 : decide (x40_3 < a1_1) = true := decide_eq_true c45
           clear c45
           replace H := Option.bind_eq_some_iff.mp H
           obtain ⟨⟨t264, t265⟩, A460, H⟩ := H
           replace H : (if t265 = true then ((impl_Matrix_at.f t258 t259 x264002_3 x35_2 x40_3).bind fun t266 => (if 0 ≤ t266 then (if t266 < (x264002_3.length : Int) then (impl_MultiplyMatrices.l1 k3 x35_2 a0_0 x35_2 a1_1 (wrap64 (x40_3 + 1)) a0_0 a0_1 l0_2 a1_0 a1_1 l1_2 t258 t259 (x264002_3.set (t266 : Int).toNat t264)) else (none)) else (none))) else (some (0, 0, ([] : List Int), 3))) = some (r1, r2, r3, r4) := H
           have A46 := am_ A460
           clear A460
           by_cases c47 : t265 = true
           ·subst c47
            have H1 : ((impl_Matrix_at.f t258 t259 x264002_3 x35_2 x40_3).bind fun t266 => (if 0 ≤ t266 then (if t266 < (x264002_3.length : Int) then (impl_MultiplyMatrices.l1 k3 x35_2 a0_0 x35_2 a1_1 (wrap64 (x40_3 + 1)) a0_0 a0_1 l0_2 a1_0 a1_1 l1_2 t258 t259 (x264002_3.set (t266 : Int).toNat t264)) else (none)) else (none))) = some (r1, r2, r3, r4) := by rw [if_pos rfl] at H; exact H
            clear H
            have H := H1
            clear H1
            replace H := Option.bind_eq_some_iff.mp H
            obtain ⟨t266, A480, H⟩ := H
            replace H : (if 0 ≤ t266 then (if t266 < (x264002_3.length : Int) then (impl_MultiplyMatrices.l1 k3 x35_2 a0_0 x35_2 a1_1 (wrap64 (x40_3 + 1)) a0_0 a0_1 l0_2 a1_0 a1_1 l1_2 t258 t259 (x264002_3.set (t266 : Int).toNat t264)) else (none)) else (none)) = some (r1, r2, r3, r4) := H
            have A48 := am_ A480
            clear A480
            by_cases c49 : 0 ≤ t266
            ·rw [if_pos c49] at H
             have c49b0 : decide (0 ≤ t266) = true := decide_eq_true c49
             clear c49
             by_cases c50 : t266 < (x264002_3.length : Int)
             ·rw [if_pos c50] at H
              have c50b0 : decide (t266 < (x264002_3.length : Int)) = true := decide_eq_true c50
              clear c50
              obtain ⟨y267, hy267⟩ : ∃ y_ : List Int, y_ = (x264002_3.set (t266 : Int).toNat t264) := ⟨_, rfl⟩
              replace H : (impl_MultiplyMatrices.l1 k3 x35_2 a0_0 x35_2 a1_1 (wrap64 (x40_3 + 1)) a0_0 a0_1 l0_2 a1_0 a1_1 l1_2 t258 t259 y267) = some (r1, r2, r3, r4) := by first | (rw [hy267]; with_reducible exact H) | (have H2_ := (Option.bind_some _ _).symm.trans H; rw [hy267]; with_reducible exact H2_) | (have H2_ := (Option.bind_some _ _).symm.trans H; with_reducible exact H2_) | with_reducible exact H | (rw [hy267]; exact H) | exact H
              have Ny267 := am_ hy267
              clear hy267
              have H' := am_ H
              clear H
              have hnb52 := NB253_254.out
              have hnc52 := NB254_253.out
              have hnb53 := NB253_255.out
              have hnc53 := NB255_253.out
              have hnb54 := NB253_263.out
              have hnc54 := NB263_253.out
              have hcz55_0 : wr.cell? ⟨gb253, 0, none⟩ = some (.int .i64 a0_0) := bc_ BK253 0
              have hcz55_1 : wr.cell? ⟨gb253, 1, none⟩ = some (.int .i64 a0_1) := bc_ BK253 1
              have hcz55_2 : wr.cell? ⟨gb253, 2, none⟩ = some (.slice A0_2 l0_2.length c0_2) := bc_ BK253 2
              have hfz55_0 := blk_frozen BK253.out 0
              have hfz55_1 := blk_frozen BK253.out 1
              have hfz55_2 := blk_frozen BK253.out 2
              have hnb56 := NB254_255.out
              have hnc56 := NB255_254.out
              have hnb57 := NB254_263.out
              have hnc57 := NB263_254.out
              have hcz58_0 : wr.cell? ⟨gb254, 0, none⟩ = some (.int .i64 a1_0) := bc_ BK254 0
              have hcz58_1 : wr.cell? ⟨gb254, 1, none⟩ = some (.int .i64 a1_1) := bc_ BK254 1
              have hcz58_2 : wr.cell? ⟨gb254, 2, none⟩ = some (.slice A1_2 l1_2.length c1_2) := bc_ BK254 2
              have hfz58_0 := blk_frozen BK254.out 0
              have hfz58_1 := blk_frozen BK254.out 1
              have hfz58_2 := blk_frozen BK254.out 2
              go_wp2_with (first | ((with_reducible refine gate_callee (f := 37) rfl ?_); refine goesL_ (some 48) rfl rfl Try.func37 (by kernel_rfl) rfl #[.agg #[.int .i64 a0_0, .int .i64 a0_1, .slice A0_2 l0_2.length c0_2], .agg #[.int .i64 a1_0, .int .i64 a1_1, .slice A1_2 l1_2.length c1_2], .int .i64 x35_2, .int .i64 x40_3] rfl lm_ ?_; (with_reducible refine (impl_entryOf.calls k3 a0_0 a0_1 _ _ l0_2 a1_0 a1_1 _ _ l1_2 x35_2 x40_3 t264 true _ ?side1 ?side2 ?side3 ?side4 A46.out).mono ?_); (case side1 => repeat (first | exact (Kd.C_below HR0_2.out HB.out) | (with_reducible refine Kd.C_alloc ?_ _) | (with_reducible refine Kd.C_drewN ?_ _) | (with_reducible refine Kd.C_drew ?_))); (case side2 => exact HC0_2.out); (case side3 => repeat (first | exact (Kd.C_below HR1_2.out HB.out) | (with_reducible refine Kd.C_alloc ?_ _) | (with_reducible refine Kd.C_drewN ?_ _) | (with_reducible refine Kd.C_drew ?_))); (case side4 => exact HC1_2.out); rintro e w59 ⟨rfl, hb⟩; refine ⟨_, rfl, ?_⟩; have n0_ := am_ (Kd.R_below (rk_ HO_264002.out) hb); have n1_ := am_ (bw_ BK253 hb); have n2_ := am_ (bw_ BK254 hb); have n3_ := am_ (bw_ BK255 hb); have n4_ := am_ (bw_ BK263 hb); have n5_ := am_ (below_step (bb_ HB.out) hb); clear HO_264002 BK253 BK254 BK255 BK263 HB; revert n0_ n1_ n2_ n3_ n4_ n5_; intro HO_264002 BK253 BK254 BK255 BK263 HB; (try clear hb); (try clear hb2); (try clear hk); (try clear hi); have hnb60 := NB263_255.out; have hnc60 := NB255_263.out; have hcz61_0 : w59.cell? ⟨gb263, 0, none⟩ = some (.int .i64 t258) := bc_ BK263 0; have hcz61_1 : w59.cell? ⟨gb263, 1, none⟩ = some (.int .i64 t259) := bc_ BK263 1; have hcz61_2 : w59.cell? ⟨gb263, 2, none⟩ = some (u264002) := bc_ BK263 2; have hfz61_0 := blk_frozen BK263.out 0; have hfz61_1 := blk_frozen BK263.out 1; have hfz61_2 := blk_frozen BK263.out 2; obtain ⟨Ao62, co62, eo62⟩ := Kd.R_slice HO_264002.out; subst eo62) | ((with_reducible refine gate_callee (f := 38) rfl ?_); refine goesL_ (some 57) rfl rfl Try.func38 (by kernel_rfl) rfl #[.agg #[.int .i64 t258, .int .i64 t259, .slice Ao62 x264002_3.length co62], .int .i64 x35_2, .int .i64 x40_3] rfl lm_ ?_; (with_reducible refine (impl_Matrix_at.calls t258 t259 _ _ x264002_3 x35_2 x40_3 t266 _ ?side1 ?side2 A48.out).mono ?_); (case side1 => repeat (first | exact (Kd.R_reads' HO_264002.out).2.2 | (with_reducible refine Kd.C_alloc ?_ _) | (with_reducible refine Kd.C_drewN ?_ _) | (with_reducible refine Kd.C_drew ?_))); (case side2 => exact (Kd.R_reads' HO_264002.out).2.1); rintro e w63 ⟨rfl, hb⟩; refine ⟨_, rfl, ?_⟩; have n0_ := am_ (Kd.R_below (rk_ HO_264002.out) hb); have n1_ := am_ (bw_ BK253 hb); have n2_ := am_ (bw_ BK254 hb); have n3_ := am_ (bw_ BK255 hb); have n4_ := am_ (bw_ BK263 hb); have n5_ := am_ (below_step (bb_ HB.out) hb); clear HO_264002 BK253 BK254 BK255 BK263 HB; revert n0_ n1_ n2_ n3_ n4_ n5_; intro HO_264002 BK253 BK254 BK255 BK263 HB; (try clear hb); (try clear hb2); (try clear hk); (try clear hi); have p51 : 0 ≤ (t266 : Int) := of_decide_eq_true (by first | (with_reducible assumption) | assumption); have q51 : (t266 : Int) < ((x264002_3.length : Int) : Int) := of_decide_eq_true (by first | (with_reducible assumption) | assumption); obtain ⟨go51, co51, eo51, gb51, gl51, cl51, HG51⟩ := Kd.R_form HO_264002.out (by omega); (first | cases eo51 | (injection eo51 with ea_ en_ ec_; (first | subst ea_ | (injection ea_ with ea_; subst ea_)); subst ec_; clear en_)); have GB51 := am_ gb51; have GG51 := am_ HG51; clear gb51 gl51 HG51; obtain ⟨hx51_0, hf51_0⟩ := Kd.R_celln 0 HO_264002.out (t266 : Int) p51 q51; replace p51 := eq_true p51; replace q51 := eq_true q51; obtain ⟨hy64_, hz64_⟩ := Kd.R_celln 0 HO_264002.out (t266 : Int) (of_decide_eq_true (by first | (with_reducible assumption) | assumption)) (of_decide_eq_true (by first | (with_reducible assumption) | assumption)); have HP64 := Kd.R_putg HO_264002.out (t266 : Int) t264) | ((with_reducible refine gate_store (t := 2) (p := 59) rfl ?_); refine store_event (t := 2) (p := 59) (v := ?vo_w65) (w1 := (w63.setCell ⟨go51, (t266 : Int).toNat, none⟩ (.int .i64 t264))) ?hg ?ho ?hn ?hr ?_; (case ho => rfl); (case hg => rfl); (case hn => rfl); (case hr => first | (go_simp; done) | (go_simp; rfl)); intro w65 hw; have hg : w63.grownBy w65 (some go51) := (by rw [hw]; exact HP64.2); have hp_ : Kd.R (Kd.int .i64) 2 w65 w.heap.size (fun _ => True) (.slice (some ⟨go51, 0, none⟩) x264002_3.length co62) y267 := (by rw [hw, Ny267.out]; exact HP64.1); clear HP64; have n0_ := am_ (hp_); have n1_ := am_ (blk_grown (g := gb253) (o := .cells #[.int .i64 a0_0, .int .i64 a0_1, .slice A0_2 l0_2.length c0_2] 28 (0, 0)) (bk_ BK253.out) hg (Kd.R_ne HO_264002.out BK253.out (by decide))); have n2_ := am_ (blk_grown (g := gb254) (o := .cells #[.int .i64 a1_0, .int .i64 a1_1, .slice A1_2 l1_2.length c1_2] 28 (0, 0)) (bk_ BK254.out) hg (Kd.R_ne HO_264002.out BK254.out (by decide))); have n3_ := am_ (blk_grown (g := gb255) (o := .cells #[.int .i64 x256000_3, .int .i64 x256001_3, .slice none 0 0] 28 (0, 0)) (bk_ BK255.out) hg (Kd.R_ne HO_264002.out BK255.out (by decide))); have n4_ := am_ (blk_grown (g := gb263) (o := .cells #[.int .i64 t258, .int .i64 t259, .slice (some ⟨go51, 0, none⟩) x264002_3.length co62] 28 (0, 0)) (bk_ BK263.out) hg (Kd.R_ne HO_264002.out BK263.out (by decide))); have n5_ := am_ ((by rw [hw]; exact below_set (HB.out) GB51.out : Below w.heap.size w w65)); clear HO_264002 BK253 BK254 BK255 BK263 HB; revert n0_ n1_ n2_ n3_ n4_ n5_; intro HO_264002 BK253 BK254 BK255 BK263 HB; clear hg hw hp_))
              go_roundg k3
              case measure => have := HJ2.out; have := HK2.out; have := HK3.out; omega
              case rel => exact ⟨(wrap64 (x40_3 + 1)), (x256000_3), (x256001_3), (y267), (.slice (some ⟨go51, 0, none⟩) x264002_3.length co62), (by first | rfl | (simp; done) | (simp [*]; done)), H', ⟨by have := HJ2.out; have := HK2.out; have := HK3.out; omega⟩, ⟨rk_ HO_264002.out⟩, ⟨bk_ BK253.out⟩, ⟨bk_ BK254.out⟩, ⟨bk_ BK255.out⟩, ⟨bk_ BK263.out⟩, ⟨bb_ HB.out⟩⟩
             ·rw [if_neg c50] at H
              exact absurd H (by simp)
            ·rw [if_neg c49] at H
             exact absurd H (by simp)
           ·replace c47 := Bool.eq_false_iff.mpr c47
            subst c47
            have H1 : (some (0, 0, ([] : List Int), 3)) = some (r1, r2, r3, r4) := by rw [if_neg (show ¬ (false = true) by decide)] at H; exact H
            clear H
            have H := H1
            clear H1
            simp only [Option.some.injEq, Prod.mk.injEq] at H
            obtain ⟨rfl, rfl, rfl, rfl⟩ := H
            have hnb66 := NB253_254.out
            have hnc66 := NB254_253.out
            have hnb67 := NB253_255.out
            have hnc67 := NB255_253.out
            have hnb68 := NB253_263.out
            have hnc68 := NB263_253.out
            have hcz69_0 : wr.cell? ⟨gb253, 0, none⟩ = some (.int .i64 a0_0) := bc_ BK253 0
            have hcz69_1 : wr.cell? ⟨gb253, 1, none⟩ = some (.int .i64 a0_1) := bc_ BK253 1
            have hcz69_2 : wr.cell? ⟨gb253, 2, none⟩ = some (.slice A0_2 l0_2.length c0_2) := bc_ BK253 2
            have hfz69_0 := blk_frozen BK253.out 0
            have hfz69_1 := blk_frozen BK253.out 1
            have hfz69_2 := blk_frozen BK253.out 2
            have hnb70 := NB254_255.out
            have hnc70 := NB255_254.out
            have hnb71 := NB254_263.out
            have hnc71 := NB263_254.out
            have hcz72_0 : wr.cell? ⟨gb254, 0, none⟩ = some (.int .i64 a1_0) := bc_ BK254 0
            have hcz72_1 : wr.cell? ⟨gb254, 1, none⟩ = some (.int .i64 a1_1) := bc_ BK254 1
            have hcz72_2 : wr.cell? ⟨gb254, 2, none⟩ = some (.slice A1_2 l1_2.length c1_2) := bc_ BK254 2
            have hfz72_0 := blk_frozen BK254.out 0
            have hfz72_1 := blk_frozen BK254.out 1
            have hfz72_2 := blk_frozen BK254.out 2
            go_wp2_with (first | ((with_reducible refine gate_callee (f := 37) rfl ?_); refine goesL_ (some 48) rfl rfl Try.func37 (by kernel_rfl) rfl #[.agg #[.int .i64 a0_0, .int .i64 a0_1, .slice A0_2 l0_2.length c0_2], .agg #[.int .i64 a1_0, .int .i64 a1_1, .slice A1_2 l1_2.length c1_2], .int .i64 x35_2, .int .i64 x40_3] rfl lm_ ?_; (with_reducible refine (impl_entryOf.calls k3 a0_0 a0_1 _ _ l0_2 a1_0 a1_1 _ _ l1_2 x35_2 x40_3 t264 false _ ?side1 ?side2 ?side3 ?side4 A46.out).mono ?_); (case side1 => repeat (first | exact (Kd.C_below HR0_2.out HB.out) | (with_reducible refine Kd.C_alloc ?_ _) | (with_reducible refine Kd.C_drewN ?_ _) | (with_reducible refine Kd.C_drew ?_))); (case side2 => exact HC0_2.out); (case side3 => repeat (first | exact (Kd.C_below HR1_2.out HB.out) | (with_reducible refine Kd.C_alloc ?_ _) | (with_reducible refine Kd.C_drewN ?_ _) | (with_reducible refine Kd.C_drew ?_))); (case side4 => exact HC1_2.out); rintro e w73 ⟨rfl, hb⟩; refine ⟨_, rfl, ?_⟩; have n0_ := am_ (Kd.R_below (rk_ HO_264002.out) hb); have n1_ := am_ (bw_ BK253 hb); have n2_ := am_ (bw_ BK254 hb); have n3_ := am_ (bw_ BK255 hb); have n4_ := am_ (bw_ BK263 hb); have n5_ := am_ (below_step (bb_ HB.out) hb); clear HO_264002 BK253 BK254 BK255 BK263 HB; revert n0_ n1_ n2_ n3_ n4_ n5_; intro HO_264002 BK253 BK254 BK255 BK263 HB; (try clear hb); (try clear hb2); (try clear hk); (try clear hi); have hnb74 := NB255_263.out; have hnc74 := NB263_255.out; have hcz75_0 : w73.cell? ⟨gb255, 0, none⟩ = some (.int .i64 x256000_3) := bc_ BK255 0; have hcz75_1 : w73.cell? ⟨gb255, 1, none⟩ = some (.int .i64 x256001_3) := bc_ BK255 1; have hcz75_2 : w73.cell? ⟨gb255, 2, none⟩ = some (.slice none 0 0) := bc_ BK255 2; have hfz75_0 := blk_frozen BK255.out 0; have hfz75_1 := blk_frozen BK255.out 1; have hfz75_2 := blk_frozen BK255.out 2))
            refine bodyPost_ret (results_ct rfl _ _ gb255 28 #[.int .i64 0, .int .i64 0, .slice none 0 0] (0, 0) _ rfl (by (with_reducible repeat (first | refine blk_drewN ?_ _ | refine blk_drew ?_ | refine blk_alloc ?_ _)); refine blk_put (cs := #[.int .i64 0, .int .i64 0, .slice none 0 0]) ?_ 2 _ rfl; (with_reducible repeat (first | refine blk_drewN ?_ _ | refine blk_drew ?_ | refine blk_alloc ?_ _)); refine blk_put (cs := #[.int .i64 0, .int .i64 x256001_3, .slice none 0 0]) ?_ 1 _ rfl; (with_reducible repeat (first | refine blk_drewN ?_ _ | refine blk_drew ?_ | refine blk_alloc ?_ _)); refine blk_put (cs := #[.int .i64 x256000_3, .int .i64 x256001_3, .slice none 0 0]) ?_ 0 _ rfl; (with_reducible repeat (first | refine blk_drewN ?_ _ | refine blk_drew ?_ | refine blk_alloc ?_ _)); exact BK255.out) Try.underlying28 rfl (by kernel_rfl)) rfl ?_
            exact ⟨_, by first | rfl | (simp [errW_none, errW_some] <;> rfl) | (simp [*, errW_none, errW_some] <;> rfl), by first | exact Kd.R_nil _ _ _ _ _ | exact Kd.N_nil _ _ _ _ _ | exact Kd.V_nil _ _ _ _ _ | exact Kd.Q_nil _ _ _ _ _ | exact Kd.S_nil _ _ _ _ _, bb_ HB.out⟩
          ·rw [if_neg c45] at H
           have c45b0 : decide (x40_3 < a1_1) = false := decide_eq_false c45
           clear c45
           have H' := am_ H
           clear H
           go_wp2
           go_roundg k3
           case measure => have := HJ2.out; have := HK2.out; have := HK3.out; omega
           case rel => exact ⟨(wrap64 (x35_2 + 1)), (x256000_3), (x256001_3), (x264002_3), (u264002), (by first | rfl | (simp; done) | (simp [*]; done)), H', ⟨by have := HJ2.out; have := HK2.out; have := HK3.out; omega⟩, ⟨rk_ HO_264002.out⟩, ⟨bk_ BK253.out⟩, ⟨bk_ BK254.out⟩, ⟨bk_ BK255.out⟩, ⟨bk_ BK263.out⟩, ⟨bb_ HB.out⟩⟩
       ·rw [if_neg c40] at H
        have c40b0 : decide (x35_2 < a0_0) = false := decide_eq_false c40
        clear c40
        simp only [Option.some.injEq, Prod.mk.injEq] at H
        obtain ⟨rfl, rfl, rfl, rfl⟩ := H
        have hnb76 := NB263_253.out
        have hnc76 := NB253_263.out
        have hnb77 := NB263_254.out
        have hnc77 := NB254_263.out
        have hnb78 := NB263_255.out
        have hnc78 := NB255_263.out
        have hcz79_0 : wr.cell? ⟨gb263, 0, none⟩ = some (.int .i64 t258) := bc_ BK263 0
        have hcz79_1 : wr.cell? ⟨gb263, 1, none⟩ = some (.int .i64 t259) := bc_ BK263 1
        have hcz79_2 : wr.cell? ⟨gb263, 2, none⟩ = some (u264002) := bc_ BK263 2
        have hfz79_0 := blk_frozen BK263.out 0
        have hfz79_1 := blk_frozen BK263.out 1
        have hfz79_2 := blk_frozen BK263.out 2
        have hnb80 := NB255_253.out
        have hnc80 := NB253_255.out
        have hnb81 := NB255_254.out
        have hnc81 := NB254_255.out
        have hcz82_0 : wr.cell? ⟨gb255, 0, none⟩ = some (.int .i64 x256000_2) := bc_ BK255 0
        have hcz82_1 : wr.cell? ⟨gb255, 1, none⟩ = some (.int .i64 x256001_2) := bc_ BK255 1
        have hcz82_2 : wr.cell? ⟨gb255, 2, none⟩ = some (.slice none 0 0) := bc_ BK255 2
        have hfz82_0 := blk_frozen BK255.out 0
        have hfz82_1 := blk_frozen BK255.out 1
        have hfz82_2 := blk_frozen BK255.out 2
        obtain ⟨Ao83, co83, eo83⟩ := Kd.R_slice HO_264002.out
        subst eo83
        go_wp2
        refine bodyPost_ret (results_ct rfl _ _ gb255 28 #[.int .i64 t258, .int .i64 t259, .slice Ao83 x264002_2.length co83] (0, 0) _ rfl (by (with_reducible repeat (first | refine blk_drewN ?_ _ | refine blk_drew ?_ | refine blk_alloc ?_ _)); refine blk_put (cs := #[.int .i64 t258, .int .i64 t259, .slice none 0 0]) ?_ 2 _ rfl; (with_reducible repeat (first | refine blk_drewN ?_ _ | refine blk_drew ?_ | refine blk_alloc ?_ _)); refine blk_put (cs := #[.int .i64 t258, .int .i64 x256001_2, .slice none 0 0]) ?_ 1 _ rfl; (with_reducible repeat (first | refine blk_drewN ?_ _ | refine blk_drew ?_ | refine blk_alloc ?_ _)); refine blk_put (cs := #[.int .i64 x256000_2, .int .i64 x256001_2, .slice none 0 0]) ?_ 0 _ rfl; (with_reducible repeat (first | refine blk_drewN ?_ _ | refine blk_drew ?_ | refine blk_alloc ?_ _)); exact BK255.out) Try.underlying28 rfl (by kernel_rfl)) rfl ?_
        exact ⟨_, by first | rfl | (simp [errW_none, errW_some] <;> rfl) | (simp [*, errW_none, errW_some] <;> rfl), rm_ (Kd.R_far (p := ⟨gb255, 2, none⟩) (Kd.R_far (p := ⟨gb255, 1, none⟩) (Kd.R_far (p := ⟨gb255, 0, none⟩) (Kd.R_types HO_264002.out BK255.out (by decide)) (fun _ hk => hk.2) (.int .i64 t258)) (fun _ hk => hk.2) (.int .i64 t259)) (fun _ hk => hk.2) (.slice Ao83 x264002_2.length co83)) (fun _ hk => trivial), bb_ HB.out⟩
    ·rw [if_neg c25] at H
     have c25b0 : (a0_1 == a1_0) = false := beq_eq_false_iff_ne.mpr c25
     have c25b1 : (a0_1 != a1_0) = true := bne_iff_ne.mpr c25
     simp only [Option.some.injEq, Prod.mk.injEq] at H
     obtain ⟨rfl, rfl, rfl, rfl⟩ := H
     have hnb84 := NB253_254.out
     have hnc84 := NB254_253.out
     have hnb85 := NB253_255.out
     have hnc85 := NB255_253.out
     have hcz86_0 : wc.cell? ⟨gb253, 0, none⟩ = some (.int .i64 a0_0) := bc_ BK253 0
     have hcz86_1 : wc.cell? ⟨gb253, 1, none⟩ = some (.int .i64 a0_1) := bc_ BK253 1
     have hcz86_2 : wc.cell? ⟨gb253, 2, none⟩ = some (.slice A0_2 l0_2.length c0_2) := bc_ BK253 2
     have hfz86_0 := blk_frozen BK253.out 0
     have hfz86_1 := blk_frozen BK253.out 1
     have hfz86_2 := blk_frozen BK253.out 2
     have hnb87 := NB254_255.out
     have hnc87 := NB255_254.out
     have hcz88_0 : wc.cell? ⟨gb254, 0, none⟩ = some (.int .i64 a1_0) := bc_ BK254 0
     have hcz88_1 : wc.cell? ⟨gb254, 1, none⟩ = some (.int .i64 a1_1) := bc_ BK254 1
     have hcz88_2 : wc.cell? ⟨gb254, 2, none⟩ = some (.slice A1_2 l1_2.length c1_2) := bc_ BK254 2
     have hfz88_0 := blk_frozen BK254.out 0
     have hfz88_1 := blk_frozen BK254.out 1
     have hfz88_2 := blk_frozen BK254.out 2
     have hcz89_0 : wc.cell? ⟨gb255, 0, none⟩ = some (.int .i64 0) := bc_ BK255 0
     have hcz89_1 : wc.cell? ⟨gb255, 1, none⟩ = some (.int .i64 0) := bc_ BK255 1
     have hcz89_2 : wc.cell? ⟨gb255, 2, none⟩ = some (.slice none 0 0) := bc_ BK255 2
     have hfz89_0 := blk_frozen BK255.out 0
     have hfz89_1 := blk_frozen BK255.out 1
     have hfz89_2 := blk_frozen BK255.out 2
     go_wp2
     refine bodyPost_ret (results_ct rfl _ _ gb255 28 #[.int .i64 0, .int .i64 0, .slice none 0 0] (0, 0) _ rfl (by (with_reducible repeat (first | refine blk_drewN ?_ _ | refine blk_drew ?_ | refine blk_alloc ?_ _)); refine blk_put (cs := #[.int .i64 0, .int .i64 0, .slice none 0 0]) ?_ 2 _ rfl; (with_reducible repeat (first | refine blk_drewN ?_ _ | refine blk_drew ?_ | refine blk_alloc ?_ _)); refine blk_put (cs := #[.int .i64 0, .int .i64 0, .slice none 0 0]) ?_ 1 _ rfl; (with_reducible repeat (first | refine blk_drewN ?_ _ | refine blk_drew ?_ | refine blk_alloc ?_ _)); refine blk_put (cs := #[.int .i64 0, .int .i64 0, .slice none 0 0]) ?_ 0 _ rfl; (with_reducible repeat (first | refine blk_drewN ?_ _ | refine blk_drew ?_ | refine blk_alloc ?_ _)); exact BK255.out) Try.underlying28 rfl (by kernel_rfl)) rfl ?_
     exact ⟨_, by first | rfl | (simp [errW_none, errW_some] <;> rfl) | (simp [*, errW_none, errW_some] <;> rfl), by first | exact Kd.R_nil _ _ _ _ _ | exact Kd.N_nil _ _ _ _ _ | exact Kd.V_nil _ _ _ _ _ | exact Kd.Q_nil _ _ _ _ _ | exact Kd.S_nil _ _ _ _ _, bb_ HB.out⟩

/-! ### spec_l01In: function 47 -/
def spec_l01In.f (a0 : Int) (a1 : Int) (a2 : Int) : Option (Bool) := if a0 ≥ a1 then (some (decide (a0 ≤ a2))) else (some false)
set_option maxHeartbeats 8000000 in
set_option maxRecDepth 100000 in
theorem spec_l01In.calls (a0 : Int) (a1 : Int) (a2 : Int) (r : Bool) (w : World) (h : spec_l01In.f a0 a1 a2 = some r) :
    Calls Try.prog 47 #[.int .i64 a0, .int .i64 a1, .int .i64 a2] w fun e w' => e = .returned (.bool r) ∧ Drawn0 w w' := by
  have H : (if a0 ≥ a1 then (some (decide (a0 ≤ a2))) else (some false)) = some r := h
  clear h
  by_cases c4 : a0 ≥ a1
  · rw [if_pos c4] at H
    have c4b0 : decide (a1 ≤ a0) = true := decide_eq_true c4
    clear c4
    obtain rfl := Option.some.inj H
    go_enter Try.func47, Try.ntmps47
    go_wp2
    go_ret
    exact ⟨by first | rfl | (simp; done) | (simp [*]; done), by repeat (first | exact Drawn0.refl _ | apply Drawn0.step)⟩
  · rw [if_neg c4] at H
    have c4b0 : decide (a1 ≤ a0) = false := decide_eq_false c4
    clear c4
    obtain rfl := Option.some.inj H
    go_enter Try.func47, Try.ntmps47
    go_wp2
    go_ret
    exact ⟨by first | rfl | (simp; done) | (simp [*]; done), by repeat (first | exact Drawn0.refl _ | apply Drawn0.step)⟩

end Go.Proofs.Ytifbfloifdkacaa.PFnProducts
