/- Written by this session's program out of the kit's print and this session's contracts. -/
import Derived.Test.YtifbfloifdkacaaVFnProductsPx0
import Derived.Test.YtifbfloifdkacaaVFnProductsPx3
import Derived.Test.YtifbfloifdkacaaVFnProductsPx8
namespace Go.Proofs.Ytifbfloifdkacaa.PFnProducts
open Go.RowKit Go.Proofs.YtifbfloifdkacaaW.PrintWords Go.Proofs.YtifbfloifdkacaaW.PrintLast Go.Proofs.YtifbfloifdkacaaW.PrintMore
attribute [local go_sem] max2_int min2_int max_two min_two max_three min_three max_four min_four   -- for this text's walks alone
set_option linter.unusedVariables false
set_option linter.unusedSimpArgs false

/-! ### spec_l01Multiply: function 39 -/
mutual
def spec_l01Multiply.l0 : Nat → Int → Int → Int → List Int → Int → Int → List Int → Int → Int → List Int → Option (Int × Int × List Int × Bool)
 | 0, _, _, _, _, _, _, _, _, _, _ => none
 | k + 1, x7, x278000, x278001, x278002, x279000, x279001, x279002, x286000, x286001, x286002 => if x7 < x278000 then (spec_l01Multiply.l1 k x7 0 x278000 x278001 x278002 x279000 x279001 x279002 x286000 x286001 x286002) else (some (x286000, x286001, x286002, true))
def spec_l01Multiply.l1 : Nat → Int → Int → Int → Int → List Int → Int → Int → List Int → Int → Int → List Int → Option (Int × Int × List Int × Bool)
 | 0, _, _, _, _, _, _, _, _, _, _, _ => none
 | k + 1, x7, x8, x278000, x278001, x278002, x279000, x279001, x279002, x286000, x286001, x286002 => if x8 < x279001 then (spec_l01Multiply.l2 k x7 x8 0 0 0 x278000 x278001 x278002 x279000 x279001 x279002 x286000 x286001 x286002) else (spec_l01Multiply.l0 k (wrap64 (x7 + 1)) x278000 x278001 x278002 x279000 x279001 x279002 x286000 x286001 x286002)
def spec_l01Multiply.l2 : Nat → Int → Int → Int → Int → Int → Int → Int → List Int → Int → Int → List Int → Int → Int → List Int → Option (Int × Int × List Int × Bool)
 | 0, _, _, _, _, _, _, _, _, _, _, _, _, _, _ => none
 | k + 1, x7, x8, x9, x10, x11, x278000, x278001, x278002, x279000, x279001, x279002, x286000, x286001, x286002 => if x11 < x278001 then ((spec_l01At.f x278000 x278001 x278002 x7 x11).bind fun t287 => ((spec_l01At.f x279000 x279001 x279002 x11 x8).bind fun t288 => ((spec_l01Times.f t287 t288 1000000000000).bind fun bt289 => ((spec_l01Abs.f bt289.1).bind fun t291 => (if bt289.2 = true then (if (wrap64 (x10 + t291)) > 1000000000000 then (some (0, 0, ([] : List Int), false)) else (spec_l01Multiply.l2 k x7 x8 (wrap64 (x9 + bt289.1)) (wrap64 (x10 + t291)) (wrap64 (x11 + 1)) x278000 x278001 x278002 x279000 x279001 x279002 x286000 x286001 x286002)) else (some (0, 0, ([] : List Int), false))))))) else (if 0 ≤ (wrap64 ((wrap64 (x7 * x279001)) + x8)) then (if (wrap64 ((wrap64 (x7 * x279001)) + x8)) < (x286002.length : Int) then (spec_l01Multiply.l1 k x7 (wrap64 (x8 + 1)) x278000 x278001 x278002 x279000 x279001 x279002 x286000 x286001 (x286002.set ((wrap64 ((wrap64 (x7 * x279001)) + x8)) : Int).toNat x9)) else (none)) else (none))
end
def spec_l01Multiply.f (k : Nat) (a0_0 : Int) (a0_1 : Int) (l0_2 : List Int) (a1_0 : Int) (a1_1 : Int) (l1_2 : List Int) : Option (Int × Int × List Int × Bool) := (spec_l01Zero.f a0_0 a1_1).bind fun bt280 => (spec_l01Multiply.l0 k 0 a0_0 a0_1 l0_2 a1_0 a1_1 l1_2 bt280.1 bt280.2.1 bt280.2.2)
theorem spec_l01Multiply.mono_l : ∀ k, (∀ y0 y1 y2 y3 y4 y5 y6 y7 y8 y9, LeO (spec_l01Multiply.l0 k y0 y1 y2 y3 y4 y5 y6 y7 y8 y9) (spec_l01Multiply.l0 (k + 1) y0 y1 y2 y3 y4 y5 y6 y7 y8 y9)) ∧ (∀ y0 y1 y2 y3 y4 y5 y6 y7 y8 y9 y10, LeO (spec_l01Multiply.l1 k y0 y1 y2 y3 y4 y5 y6 y7 y8 y9 y10) (spec_l01Multiply.l1 (k + 1) y0 y1 y2 y3 y4 y5 y6 y7 y8 y9 y10)) ∧ (∀ y0 y1 y2 y3 y4 y5 y6 y7 y8 y9 y10 y11 y12 y13, LeO (spec_l01Multiply.l2 k y0 y1 y2 y3 y4 y5 y6 y7 y8 y9 y10 y11 y12 y13) (spec_l01Multiply.l2 (k + 1) y0 y1 y2 y3 y4 y5 y6 y7 y8 y9 y10 y11 y12 y13))
 | 0 => ⟨fun _ _ _ _ _ _ _ _ _ _ r h => by simp [spec_l01Multiply.l0] at h, fun _ _ _ _ _ _ _ _ _ _ _ r h => by simp [spec_l01Multiply.l1] at h, fun _ _ _ _ _ _ _ _ _ _ _ _ _ _ r h => by simp [spec_l01Multiply.l2] at h⟩
 | k + 1 => by
  obtain ⟨ih0, ih1, ih2⟩ := spec_l01Multiply.mono_l k
  refine ⟨?_, ?_, ?_⟩
  ·intro y0 y1 y2 y3 y4 y5 y6 y7 y8 y9
   unfold spec_l01Multiply.l0
   repeat' first
   | (with_reducible exact ih0 _ _ _ _ _ _ _ _ _ _)
   | (with_reducible exact ih1 _ _ _ _ _ _ _ _ _ _ _)
   | (with_reducible exact ih2 _ _ _ _ _ _ _ _ _ _ _ _ _ _)
   | (with_reducible exact LeO.refl _)
   | (with_reducible exact LeO.none _)
   | (with_reducible refine LeO.ite ?_ ?_)
   | (with_reducible refine LeO.bind ?_ (fun _ => ?_))
   | exact ih0 _ _ _ _ _ _ _ _ _ _
   | exact ih1 _ _ _ _ _ _ _ _ _ _ _
   | exact ih2 _ _ _ _ _ _ _ _ _ _ _ _ _ _
   | exact LeO.none _
   | refine LeO.ite ?_ ?_
   | refine LeO.bind ?_ (fun _ => ?_)
  ·intro y0 y1 y2 y3 y4 y5 y6 y7 y8 y9 y10
   unfold spec_l01Multiply.l1
   repeat' first
   | (with_reducible exact ih0 _ _ _ _ _ _ _ _ _ _)
   | (with_reducible exact ih1 _ _ _ _ _ _ _ _ _ _ _)
   | (with_reducible exact ih2 _ _ _ _ _ _ _ _ _ _ _ _ _ _)
   | (with_reducible exact LeO.refl _)
   | (with_reducible exact LeO.none _)
   | (with_reducible refine LeO.ite ?_ ?_)
   | (with_reducible refine LeO.bind ?_ (fun _ => ?_))
   | exact ih0 _ _ _ _ _ _ _ _ _ _
   | exact ih1 _ _ _ _ _ _ _ _ _ _ _
   | exact ih2 _ _ _ _ _ _ _ _ _ _ _ _ _ _
   | exact LeO.none _
   | refine LeO.ite ?_ ?_
   | refine LeO.bind ?_ (fun _ => ?_)
  ·intro y0 y1 y2 y3 y4 y5 y6 y7 y8 y9 y10 y11 y12 y13
   unfold spec_l01Multiply.l2
   repeat' first
   | (with_reducible exact ih0 _ _ _ _ _ _ _ _ _ _)
   | (with_reducible exact ih1 _ _ _ _ _ _ _ _ _ _ _)
   | (with_reducible exact ih2 _ _ _ _ _ _ _ _ _ _ _ _ _ _)
   | (with_reducible exact LeO.refl _)
   | (with_reducible exact LeO.none _)
   | (with_reducible refine LeO.ite ?_ ?_)
   | (with_reducible refine LeO.bind ?_ (fun _ => ?_))
   | exact ih0 _ _ _ _ _ _ _ _ _ _
   | exact ih1 _ _ _ _ _ _ _ _ _ _ _
   | exact ih2 _ _ _ _ _ _ _ _ _ _ _ _ _ _
   | exact LeO.none _
   | refine LeO.ite ?_ ?_
   | refine LeO.bind ?_ (fun _ => ?_)
theorem spec_l01Multiply.mono : ∀ a0 a1 a2 a3 a4 a5 k, LeO (spec_l01Multiply.f k a0 a1 a2 a3 a4 a5) (spec_l01Multiply.f (k + 1) a0 a1 a2 a3 a4 a5) := by
 intro a0 a1 a2 a3 a4 a5 k
 obtain ⟨ih0, ih1, ih2⟩ := spec_l01Multiply.mono_l k
 unfold spec_l01Multiply.f
 repeat' first
   | (with_reducible exact ih0 _ _ _ _ _ _ _ _ _ _)
   | (with_reducible exact ih1 _ _ _ _ _ _ _ _ _ _ _)
   | (with_reducible exact ih2 _ _ _ _ _ _ _ _ _ _ _ _ _ _)
   | (with_reducible exact LeO.refl _)
   | (with_reducible exact LeO.none _)
   | (with_reducible refine LeO.ite ?_ ?_)
   | (with_reducible refine LeO.bind ?_ (fun _ => ?_))
   | exact ih0 _ _ _ _ _ _ _ _ _ _
   | exact ih1 _ _ _ _ _ _ _ _ _ _ _
   | exact ih2 _ _ _ _ _ _ _ _ _ _ _ _ _ _
   | exact LeO.none _
   | refine LeO.ite ?_ ?_
   | refine LeO.bind ?_ (fun _ => ?_)
def spec_l01Multiply.T12 : Bool × List (List Nat × List Nat) := (true, [([], []), ([], []), ([], []), ([0, 1, 2], [0, 1, 2]), ([], []), ([], []), ([], []), ([4, 5, 6, 3], [4, 5, 6]), ([3, 7, 7], [3, 7]), ([8], [8]), ([9], [9]), ([9], [9]), ([10, 8, 0, 1, 2, 3, 4, 5, 6, 7, 8, 9, 10], [10]), ([11, 12, 0, 1, 2, 3, 4, 5, 6, 7, 8, 9, 10, 11, 12], [11])])
def spec_l01Multiply.B12 : List Nat := [0, 0, 0, 7, 0, 0, 0, 127, 255, 511, 1023, 1023, 2047, 8191]
theorem spec_l01Multiply.tab12 : rtab .any (opsOf Try.f39 12) = spec_l01Multiply.T12 := by kernel_rfl
theorem spec_l01Multiply.bits12 : waitsOk spec_l01Multiply.T12.2 spec_l01Multiply.B12 = true := by kernel_rfl
set_option maxHeartbeats 8000000 in
set_option maxRecDepth 100000 in
theorem spec_l01Multiply.calls (k : Nat) (a0_0 : Int) (a0_1 : Int) (A0_2 : Option Addr) (c0_2 : Nat) (l0_2 : List Int) (a1_0 : Int) (a1_1 : Int) (A1_2 : Option Addr) (c1_2 : Nat) (l1_2 : List Int) (r1 : Int) (r2 : Int) (r3 : List Int) (r4 : Bool) (w : World) (hr0_2 : Kd.C (Kd.int .i64) w A0_2 l0_2.length l0_2) (hc0_2 : l0_2.length ≤ c0_2) (hr1_2 : Kd.C (Kd.int .i64) w A1_2 l1_2.length l1_2) (hc1_2 : l1_2.length ≤ c1_2) (h : spec_l01Multiply.f k a0_0 a0_1 l0_2 a1_0 a1_1 l1_2 = some (r1, r2, r3, r4)) :
  Calls Try.prog 39 #[.agg #[.int .i64 a0_0, .int .i64 a0_1, .slice A0_2 l0_2.length c0_2], .agg #[.int .i64 a1_0, .int .i64 a1_1, .slice A1_2 l1_2.length c1_2]] w fun e w' => ∃ v2_ : Value, e = .returned (.tuple #[.agg #[.int .i64 r1, .int .i64 r2, v2_], .bool r4]) ∧ Kd.R (Kd.int .i64) 2 w' w.heap.size (fun _ => True) v2_ r3 ∧ Below w.heap.size w w' := by
 have hu28 := Try.underlying28
 have HR0_2 := am_ hr0_2
 have HC0_2 := am_ hc0_2
 clear hr0_2 hc0_2
 have HR1_2 := am_ hr1_2
 have HC1_2 := am_ hc1_2
 clear hr1_2 hc1_2
 have HB := am_ (Below.refl w.heap.size w)
 have H : ((spec_l01Zero.f a0_0 a1_1).bind fun bt280 => (spec_l01Multiply.l0 k 0 a0_0 a0_1 l0_2 a1_0 a1_1 l1_2 bt280.1 bt280.2.1 bt280.2.2)) = some (r1, r2, r3, r4) := h
 clear h
 replace H := Option.bind_eq_some_iff.mp H
 obtain ⟨⟨t280, t281, t282⟩, A30, H⟩ := H
 replace H : (spec_l01Multiply.l0 k 0 a0_0 a0_1 l0_2 a1_0 a1_1 l1_2 t280 t281 t282) = some (r1, r2, r3, r4) := H
 have A3 := am_ A30
 clear A30
 have H' := am_ H
 clear H
 go_enter Try.func39, Try.ntmps39
 go_wp2_with (first | ((with_reducible refine gate_dst (N := 2) rfl ?_); refine box_event ?hg (N := 2) ?hd (cs := #[.int .i64 a0_0, .int .i64 a0_1, .slice A0_2 l0_2.length c0_2]) (t := 28) ?hr ?_; (case hd => rfl); (case hg => rfl); (case hr => first | (go_simp; done) | (go_simp; rfl)); intro gb277 hg w4 hbox hb; have n0_ := am_ (below_step (bb_ HB.out) hb); have n1_ := am_ (hbox); have n2_ := am_ ((by rw [hg]; exact (below_size (bb_ HB.out)) : w.heap.size ≤ gb277)); have n3_ := am_ ((by rw [hg]; exact (below_size (bb_ HB.out)) : w.heap.size ≤ gb277)); clear HB; revert n0_ n1_ n2_ n3_; intro HB BK277 GW277 GE277; clear hb hbox hg) | ((with_reducible refine gate_dst (N := 3) rfl ?_); refine box_event ?hg (N := 3) ?hd (cs := #[.int .i64 a1_0, .int .i64 a1_1, .slice A1_2 l1_2.length c1_2]) (t := 28) ?hr ?_; (case hd => rfl); (case hg => rfl); (case hr => first | (go_simp; done) | (go_simp; rfl)); intro gb278 hg w5 hbox hb; have n0_ := am_ (bw_ BK277 hb); have n1_ := am_ (below_step (bb_ HB.out) hb); have n2_ := am_ (hbox); have n3_ := am_ ((by rw [hg]; exact (below_size (bb_ HB.out)) : w.heap.size ≤ gb278)); have n4_ := am_ ((by rw [hg]; exact (below_size (bb_ HB.out)) : w.heap.size ≤ gb278)); have n5_ := am_ (nl_ BK277 hg); have n6_ := am_ (ng_ BK277 hg); clear BK277 HB; revert n0_ n1_ n2_ n3_ n4_ n5_ n6_; intro BK277 HB BK278 GW278 GE278 NB277_278 NB278_277; clear hb hbox hg) | ((with_reducible refine gate_dst (N := 4) rfl ?_); refine box_event ?hg (N := 4) ?hd (cs := #[.int .i64 0, .int .i64 0, .slice none 0 0]) (t := 28) ?hr ?_; (case hd => rfl); (case hg => rfl); (case hr => first | (go_simp; done) | (go_simp; rfl)); intro gb279 hg w6 hbox hb; have n0_ := am_ (bw_ BK277 hb); have n1_ := am_ (bw_ BK278 hb); have n2_ := am_ (below_step (bb_ HB.out) hb); have n3_ := am_ (hbox); have n4_ := am_ ((by rw [hg]; exact (below_size (bb_ HB.out)) : w.heap.size ≤ gb279)); have n5_ := am_ ((by rw [hg]; exact (below_size (bb_ HB.out)) : w.heap.size ≤ gb279)); have n6_ := am_ (nl_ BK277 hg); have n7_ := am_ (ng_ BK277 hg); have n8_ := am_ (nl_ BK278 hg); have n9_ := am_ (ng_ BK278 hg); clear BK277 BK278 HB; revert n0_ n1_ n2_ n3_ n4_ n5_ n6_ n7_ n8_ n9_; intro BK277 BK278 HB BK279 GW279 GE279 NB277_279 NB279_277 NB278_279 NB279_278; clear hb hbox hg; have hnb7 := NB277_278.out; have hnc7 := NB278_277.out; have hnb8 := NB277_279.out; have hnc8 := NB279_277.out; have hcz9_0 : w6.cell? ⟨gb277, 0, none⟩ = some (.int .i64 a0_0) := bc_ BK277 0; have hcz9_1 : w6.cell? ⟨gb277, 1, none⟩ = some (.int .i64 a0_1) := bc_ BK277 1; have hcz9_2 : w6.cell? ⟨gb277, 2, none⟩ = some (.slice A0_2 l0_2.length c0_2) := bc_ BK277 2; have hfz9_0 := blk_frozen BK277.out 0; have hfz9_1 := blk_frozen BK277.out 1; have hfz9_2 := blk_frozen BK277.out 2; have hnb10 := NB278_279.out; have hnc10 := NB279_278.out; have hcz11_0 : w6.cell? ⟨gb278, 0, none⟩ = some (.int .i64 a1_0) := bc_ BK278 0; have hcz11_1 : w6.cell? ⟨gb278, 1, none⟩ = some (.int .i64 a1_1) := bc_ BK278 1; have hcz11_2 : w6.cell? ⟨gb278, 2, none⟩ = some (.slice A1_2 l1_2.length c1_2) := bc_ BK278 2; have hfz11_0 := blk_frozen BK278.out 0; have hfz11_1 := blk_frozen BK278.out 1; have hfz11_2 := blk_frozen BK278.out 2) | ((with_reducible refine gate_callee (f := 58) rfl ?_); refine goesL_ (some 18) rfl rfl Try.func58 (by kernel_rfl) rfl #[.int .i64 a0_0, .int .i64 a1_1] rfl lm_ ?_; (with_reducible refine (spec_l01Zero.calls a0_0 a1_1 t280 t281 t282 _ A3.out).mono ?_); rintro e w12 ⟨v283, rfl, ho0, hb⟩; refine ⟨_, rfl, ?_⟩; have n0_ := am_ (Kd.R_lower ho0 (below_size (bb_ HB.out))); have n1_ := am_ (bw_ BK277 hb); have n2_ := am_ (bw_ BK278 hb); have n3_ := am_ (bw_ BK279 hb); have n4_ := am_ (below_step (bb_ HB.out) hb); clear BK277 BK278 BK279 HB; revert n0_ n1_ n2_ n3_ n4_; intro HO284 BK277 BK278 BK279 HB; (try clear hb); (try clear hb2); (try clear hk); (try clear hi); (try clear ho0)) | ((with_reducible refine gate_dst (N := 6) rfl ?_); refine box_event ?hg (N := 6) ?hd (cs := #[.int .i64 0, .int .i64 0, .slice none 0 0]) (t := 28) ?hr ?_; (case hd => rfl); (case hg => rfl); (case hr => first | (go_simp; done) | (go_simp; rfl)); intro gb285 hg w13 hbox hb; have n0_ := am_ (Kd.R_below (rk_ HO284.out) hb); have n1_ := am_ (bw_ BK277 hb); have n2_ := am_ (bw_ BK278 hb); have n3_ := am_ (bw_ BK279 hb); have n4_ := am_ (below_step (bb_ HB.out) hb); have n5_ := am_ (hbox); have n6_ := am_ ((by rw [hg]; exact (below_size (bb_ HB.out)) : w.heap.size ≤ gb285)); have n7_ := am_ ((by rw [hg]; exact (below_size (bb_ HB.out)) : w.heap.size ≤ gb285)); have n8_ := am_ (nl_ BK277 hg); have n9_ := am_ (ng_ BK277 hg); have n10_ := am_ (nl_ BK278 hg); have n11_ := am_ (ng_ BK278 hg); have n12_ := am_ (nl_ BK279 hg); have n13_ := am_ (ng_ BK279 hg); clear HO284 BK277 BK278 BK279 HB; revert n0_ n1_ n2_ n3_ n4_ n5_ n6_ n7_ n8_ n9_ n10_ n11_ n12_ n13_; intro HO284 BK277 BK278 BK279 HB BK285 GW285 GE285 NB277_285 NB285_277 NB278_285 NB285_278 NB279_285 NB285_279; clear hb hbox hg; have hnb14 := NB285_277.out; have hnc14 := NB277_285.out; have hnb15 := NB285_278.out; have hnc15 := NB278_285.out; have hnb16 := NB285_279.out; have hnc16 := NB279_285.out; have hcz17_0 : w13.cell? ⟨gb285, 0, none⟩ = some (.int .i64 0) := bc_ BK285 0; have hcz17_1 : w13.cell? ⟨gb285, 1, none⟩ = some (.int .i64 0) := bc_ BK285 1; have hcz17_2 : w13.cell? ⟨gb285, 2, none⟩ = some (.slice none 0 0) := bc_ BK285 2; have hfz17_0 := blk_frozen BK285.out 0; have hfz17_1 := blk_frozen BK285.out 1; have hfz17_2 := blk_frozen BK285.out 2; obtain ⟨Ao18, co18, eo18⟩ := Kd.R_slice HO284.out; subst eo18))
 go_loopg [7] k (fun kq v7 w' => ∃ (x7_1 : Int) (x280000_1 : Int) (x280001_1 : Int) (x286002_1 : List Int) (u286002 : Value), v7 = .int .i64 x7_1 ∧ Aside0 (spec_l01Multiply.l0 kq x7_1 a0_0 a0_1 l0_2 a1_0 a1_1 l1_2 t280 t281 x286002_1 = some (r1, r2, r3, r4)) ∧ Aside0 (kq ≤ k) ∧ Aside0 (Kd.R (Kd.int .i64) 2 w' w.heap.size (fun _ => True) u286002 x286002_1) ∧ Aside0 (w'.heap[gb277]? = some (.cells #[.int .i64 a0_0, .int .i64 a0_1, (.slice A0_2 l0_2.length c0_2)] 28 (0, 0))) ∧ Aside0 (w'.heap[gb278]? = some (.cells #[.int .i64 a1_0, .int .i64 a1_1, (.slice A1_2 l1_2.length c1_2)] 28 (0, 0))) ∧ Aside0 (w'.heap[gb279]? = some (.cells #[.int .i64 x280000_1, .int .i64 x280001_1, (.slice none 0 0)] 28 (0, 0))) ∧ Aside0 (w'.heap[gb285]? = some (.cells #[.int .i64 t280, .int .i64 t281, u286002] 28 (0, 0))) ∧ Aside0 (Below w.heap.size w w'))
 case atStart => exact ⟨(0), (0), (0), (t282), (.slice Ao18 t282.length co18), (by first | rfl | (simp; done) | (simp [*]; done)), H', ⟨Nat.le_refl _⟩, ⟨rm_ (Kd.R_far (p := ⟨gb285, 2, none⟩) (Kd.R_far (p := ⟨gb285, 1, none⟩) (Kd.R_far (p := ⟨gb285, 0, none⟩) (Kd.R_types HO284.out BK285.out (by decide)) (fun _ hk => hk.2) (.int .i64 t280)) (fun _ hk => hk.2) (.int .i64 t281)) (fun _ hk => hk.2) (.slice Ao18 t282.length co18)) (fun _ hk => trivial)⟩, ⟨bk_ BK277.out⟩, ⟨bk_ BK278.out⟩, ⟨bk_ BK279.out⟩, ⟨by (with_reducible repeat (first | refine blk_drewN ?_ _ | refine blk_drew ?_ | refine blk_alloc ?_ _)); refine blk_put (cs := #[.int .i64 t280, .int .i64 t281, .slice none 0 0]) ?_ 2 _ rfl; (with_reducible repeat (first | refine blk_drewN ?_ _ | refine blk_drew ?_ | refine blk_alloc ?_ _)); refine blk_put (cs := #[.int .i64 t280, .int .i64 0, .slice none 0 0]) ?_ 1 _ rfl; (with_reducible repeat (first | refine blk_drewN ?_ _ | refine blk_drew ?_ | refine blk_alloc ?_ _)); refine blk_put (cs := #[.int .i64 0, .int .i64 0, .slice none 0 0]) ?_ 0 _ rfl; (with_reducible repeat (first | refine blk_drewN ?_ _ | refine blk_drew ?_ | refine blk_alloc ?_ _)); exact BK285.out⟩, ⟨bb_ HB.out⟩⟩
 case round =>
  clear H'
  try clear c1
  try clear p2
  try clear c3
  try clear c5
  try clear c7
  try clear c8
  try clear c10
  try clear c14
  try clear c15
  try clear c16
  try clear hcz11_0
  try clear hcz11_1
  try clear hcz11_2
  try clear hcz17_0
  try clear hcz17_1
  try clear hcz17_2
  try clear hcz9_0
  try clear hcz9_1
  try clear hcz9_2
  try clear hfz11_0
  try clear hfz11_1
  try clear hfz11_2
  try clear hfz17_0
  try clear hfz17_1
  try clear hfz17_2
  try clear hfz9_0
  try clear hfz9_1
  try clear hfz9_2
  obtain ⟨x7_1, x280000_1, x280001_1, x286002_1, u286002, rfl, HA, HK1, HO_286002, BK277, BK278, BK279, BK285, HB⟩ := hrel
  cases gk with
  | zero => exact absurd HA.out (by simp [spec_l01Multiply.l0])
  | succ k1 =>
   have H := HA.out
   clear HA
   simp only [spec_l01Multiply.l0] at H
   by_cases c19 : x7_1 < a0_0
   ·rw [if_pos c19] at H
    have c19b0 : decide (x7_1 < a0_0) = true := decide_eq_true c19
    clear c19
    have H' := am_ H
    clear H
    have hnb20 := NB277_278.out
    have hnc20 := NB278_277.out
    have hnb21 := NB277_279.out
    have hnc21 := NB279_277.out
    have hnb22 := NB277_285.out
    have hnc22 := NB285_277.out
    have hcz23_0 : wr.cell? ⟨gb277, 0, none⟩ = some (.int .i64 a0_0) := bc_ BK277 0
    have hcz23_1 : wr.cell? ⟨gb277, 1, none⟩ = some (.int .i64 a0_1) := bc_ BK277 1
    have hcz23_2 : wr.cell? ⟨gb277, 2, none⟩ = some (.slice A0_2 l0_2.length c0_2) := bc_ BK277 2
    have hfz23_0 := blk_frozen BK277.out 0
    have hfz23_1 := blk_frozen BK277.out 1
    have hfz23_2 := blk_frozen BK277.out 2
    go_wp2
    go_loopg [8] k1 (fun kq v8 w' => ∃ (x8_2 : Int) (x280000_2 : Int) (x280001_2 : Int) (x286002_2 : List Int) (u286002 : Value), v8 = .int .i64 x8_2 ∧ Aside0 (spec_l01Multiply.l1 kq x7_1 x8_2 a0_0 a0_1 l0_2 a1_0 a1_1 l1_2 t280 t281 x286002_2 = some (r1, r2, r3, r4)) ∧ Aside0 (kq ≤ k1) ∧ Aside0 (Kd.R (Kd.int .i64) 2 w' w.heap.size (fun _ => True) u286002 x286002_2) ∧ Aside0 (w'.heap[gb277]? = some (.cells #[.int .i64 a0_0, .int .i64 a0_1, (.slice A0_2 l0_2.length c0_2)] 28 (0, 0))) ∧ Aside0 (w'.heap[gb278]? = some (.cells #[.int .i64 a1_0, .int .i64 a1_1, (.slice A1_2 l1_2.length c1_2)] 28 (0, 0))) ∧ Aside0 (w'.heap[gb279]? = some (.cells #[.int .i64 x280000_2, .int .i64 x280001_2, (.slice none 0 0)] 28 (0, 0))) ∧ Aside0 (w'.heap[gb285]? = some (.cells #[.int .i64 t280, .int .i64 t281, u286002] 28 (0, 0))) ∧ Aside0 (Below w.heap.size w w'))
    case atStart => exact ⟨(0), (x280000_1), (x280001_1), (x286002_1), (u286002), (by first | rfl | (simp; done) | (simp [*]; done)), H', ⟨Nat.le_refl _⟩, ⟨rk_ HO_286002.out⟩, ⟨bk_ BK277.out⟩, ⟨bk_ BK278.out⟩, ⟨bk_ BK279.out⟩, ⟨bk_ BK285.out⟩, ⟨bb_ HB.out⟩⟩
    case round =>
     clear H'
     try clear c1
     try clear c2
     try clear p2
     try clear c3
     try clear c5
     try clear c7
     try clear c8
     try clear c10
     try clear c14
     try clear c15
     try clear c16
     try clear c19
     try clear c19b0
     try clear c20
     try clear c21
     try clear c22
     try clear hcz11_0
     try clear hcz11_1
     try clear hcz11_2
     try clear hcz17_0
     try clear hcz17_1
     try clear hcz17_2
     try clear hcz23_0
     try clear hcz23_1
     try clear hcz23_2
     try clear hcz9_0
     try clear hcz9_1
     try clear hcz9_2
     try clear hfz11_0
     try clear hfz11_1
     try clear hfz11_2
     try clear hfz17_0
     try clear hfz17_1
     try clear hfz17_2
     try clear hfz23_0
     try clear hfz23_1
     try clear hfz23_2
     try clear hfz9_0
     try clear hfz9_1
     try clear hfz9_2
     try clear p2
     obtain ⟨x8_2, x280000_2, x280001_2, x286002_2, u286002, rfl, HA, HK2, HO_286002, BK277, BK278, BK279, BK285, HB⟩ := hrel
     cases gk with
     | zero => exact absurd HA.out (by simp [spec_l01Multiply.l1])
     | succ k2 =>
      have H := HA.out
      clear HA
      simp only [spec_l01Multiply.l1] at H
      by_cases c24 : x8_2 < a1_1
      ·rw [if_pos c24] at H
       have c24b0 : decide (x8_2 < a1_1) = true := decide_eq_true c24
       clear c24
       have H' := am_ H
       clear H
       have hnb25 := NB278_277.out
       have hnc25 := NB277_278.out
       have hnb26 := NB278_279.out
       have hnc26 := NB279_278.out
       have hnb27 := NB278_285.out
       have hnc27 := NB285_278.out
       have hcz28_0 : wr.cell? ⟨gb278, 0, none⟩ = some (.int .i64 a1_0) := bc_ BK278 0
       have hcz28_1 : wr.cell? ⟨gb278, 1, none⟩ = some (.int .i64 a1_1) := bc_ BK278 1
       have hcz28_2 : wr.cell? ⟨gb278, 2, none⟩ = some (.slice A1_2 l1_2.length c1_2) := bc_ BK278 2
       have hfz28_0 := blk_frozen BK278.out 0
       have hfz28_1 := blk_frozen BK278.out 1
       have hfz28_2 := blk_frozen BK278.out 2
       go_wp2
       go_loopg [9, 10, 11] k2 (fun kq v9 v10 v11 w' => ∃ (x9_3 : Int) (x10_3 : Int) (x11_3 : Int) (x280000_3 : Int) (x280001_3 : Int), v9 = .int .i64 x9_3 ∧ v10 = .int .i64 x10_3 ∧ v11 = .int .i64 x11_3 ∧ Aside0 (spec_l01Multiply.l2 kq x7_1 x8_2 x9_3 x10_3 x11_3 a0_0 a0_1 l0_2 a1_0 a1_1 l1_2 t280 t281 x286002_2 = some (r1, r2, r3, r4)) ∧ Aside0 (kq ≤ k2) ∧ Aside0 (Kd.R (Kd.int .i64) 2 w' w.heap.size (fun _ => True) u286002 x286002_2) ∧ Aside0 (w'.heap[gb277]? = some (.cells #[.int .i64 a0_0, .int .i64 a0_1, (.slice A0_2 l0_2.length c0_2)] 28 (0, 0))) ∧ Aside0 (w'.heap[gb278]? = some (.cells #[.int .i64 a1_0, .int .i64 a1_1, (.slice A1_2 l1_2.length c1_2)] 28 (0, 0))) ∧ Aside0 (w'.heap[gb279]? = some (.cells #[.int .i64 x280000_3, .int .i64 x280001_3, (.slice none 0 0)] 28 (0, 0))) ∧ Aside0 (w'.heap[gb285]? = some (.cells #[.int .i64 t280, .int .i64 t281, u286002] 28 (0, 0))) ∧ Aside0 (Below w.heap.size w w'))
       case atStart => exact ⟨(0), (0), (0), (x280000_2), (x280001_2), (by first | rfl | (simp; done) | (simp [*]; done)), (by first | rfl | (simp; done) | (simp [*]; done)), (by first | rfl | (simp; done) | (simp [*]; done)), H', ⟨Nat.le_refl _⟩, ⟨rk_ HO_286002.out⟩, ⟨bk_ BK277.out⟩, ⟨bk_ BK278.out⟩, ⟨bk_ BK279.out⟩, ⟨bk_ BK285.out⟩, ⟨bb_ HB.out⟩⟩
       case round =>
        clear H'
        try clear c1
        try clear c2
        try clear p2
        try clear c3
        try clear c5
        try clear c7
        try clear c8
        try clear c10
        try clear c14
        try clear c15
        try clear c16
        try clear c19
        try clear c19b0
        try clear c20
        try clear c21
        try clear c22
        try clear c24
        try clear c24b0
        try clear c25
        try clear c26
        try clear c27
        try clear hcz11_0
        try clear hcz11_1
        try clear hcz11_2
        try clear hcz17_0
        try clear hcz17_1
        try clear hcz17_2
        try clear hcz23_0
        try clear hcz23_1
        try clear hcz23_2
        try clear hcz28_0
        try clear hcz28_1
        try clear hcz28_2
        try clear hcz9_0
        try clear hcz9_1
        try clear hcz9_2
        try clear hfz11_0
        try clear hfz11_1
        try clear hfz11_2
        try clear hfz17_0
        try clear hfz17_1
        try clear hfz17_2
        try clear hfz23_0
        try clear hfz23_1
        try clear hfz23_2
        try clear hfz28_0
        try clear hfz28_1
        try clear hfz28_2
        try clear hfz9_0
        try clear hfz9_1
        try clear hfz9_2
        try clear p2
        obtain ⟨x9_3, x10_3, x11_3, x280000_3, x280001_3, rfl, rfl, rfl, HA, HK3, HO_286002, BK277, BK278, BK279, BK285, HB⟩ := hrel
        cases gk with
        | zero => exact absurd HA.out (by simp [spec_l01Multiply.l2])
        | succ k3 =>
         have H := HA.out
         clear HA
         simp only [spec_l01Multiply.l2] at H
         by_cases c29 : x11_3 < a0_1
         ·rw [if_pos c29] at H
          have c29b0 : decide (x11_3 < a0_1) = true := decide_eq_true c29
          clear c29
          replace H := Option.bind_eq_some_iff.mp H
          obtain ⟨t287, A300, H⟩ := H
          replace H : ((spec_l01At.f a1_0 a1_1 l1_2 x11_3 x8_2).bind fun t288 => ((spec_l01Times.f t287 t288 1000000000000).bind fun bt289 => ((spec_l01Abs.f bt289.1).bind fun t291 => (if bt289.2 = true then (if (wrap64 (x10_3 + t291)) > 1000000000000 then (some (0, 0, ([] : List Int), false)) else (spec_l01Multiply.l2 k3 x7_1 x8_2 (wrap64 (x9_3 + bt289.1)) (wrap64 (x10_3 + t291)) (wrap64 (x11_3 + 1)) a0_0 a0_1 l0_2 a1_0 a1_1 l1_2 t280 t281 x286002_2)) else (some (0, 0, ([] : List Int), false)))))) = some (r1, r2, r3, r4) := H
          have A30 := am_ A300
          clear A300
          replace H := Option.bind_eq_some_iff.mp H
          obtain ⟨t288, A310, H⟩ := H
          replace H : ((spec_l01Times.f t287 t288 1000000000000).bind fun bt289 => ((spec_l01Abs.f bt289.1).bind fun t291 => (if bt289.2 = true then (if (wrap64 (x10_3 + t291)) > 1000000000000 then (some (0, 0, ([] : List Int), false)) else (spec_l01Multiply.l2 k3 x7_1 x8_2 (wrap64 (x9_3 + bt289.1)) (wrap64 (x10_3 + t291)) (wrap64 (x11_3 + 1)) a0_0 a0_1 l0_2 a1_0 a1_1 l1_2 t280 t281 x286002_2)) else (some (0, 0, ([] : List Int), false))))) = some (r1, r2, r3, r4) := H
          have A31 := am_ A310
          clear A310
          replace H := Option.bind_eq_some_iff.mp H
          obtain ⟨⟨t289, t290⟩, A320, H⟩ := H
          replace H : ((spec_l01Abs.f t289).bind fun t291 => (if t290 = true then (if (wrap64 (x10_3 + t291)) > 1000000000000 then (some (0, 0, ([] : List Int), false)) else (spec_l01Multiply.l2 k3 x7_1 x8_2 (wrap64 (x9_3 + t289)) (wrap64 (x10_3 + t291)) (wrap64 (x11_3 + 1)) a0_0 a0_1 l0_2 a1_0 a1_1 l1_2 t280 t281 x286002_2)) else (some (0, 0, ([] : List Int), false)))) = some (r1, r2, r3, r4) := H
          have A32 := am_ A320
          clear A320
          replace H := Option.bind_eq_some_iff.mp H
          obtain ⟨t291, A330, H⟩ := H
          replace H : (if t290 = true then (if (wrap64 (x10_3 + t291)) > 1000000000000 then (some (0, 0, ([] : List Int), false)) else (spec_l01Multiply.l2 k3 x7_1 x8_2 (wrap64 (x9_3 + t289)) (wrap64 (x10_3 + t291)) (wrap64 (x11_3 + 1)) a0_0 a0_1 l0_2 a1_0 a1_1 l1_2 t280 t281 x286002_2)) else (some (0, 0, ([] : List Int), false))) = some (r1, r2, r3, r4) := H
          have A33 := am_ A330
          clear A330
          by_cases c34 : t290 = true
          ·subst c34
           have H1 : (if (wrap64 (x10_3 + t291)) > 1000000000000 then (some (0, 0, ([] : List Int), false)) else (spec_l01Multiply.l2 k3 x7_1 x8_2 (wrap64 (x9_3 + t289)) (wrap64 (x10_3 + t291)) (wrap64 (x11_3 + 1)) a0_0 a0_1 l0_2 a1_0 a1_1 l1_2 t280 t281 x286002_2)) = some (r1, r2, r3, r4) := by rw [if_pos rfl] at H; exact H
           clear H
           have H := H1
           clear H1
           by_cases c35 : (wrap64 (x10_3 + t291)) > 1000000000000
           ·rw [if_pos c35] at H
            have c35b0 : decide (1000000000000 < (wrap64 (x10_3 + t291))) = true := decide_eq_true c35
            clear c35
            simp only [Option.some.injEq, Prod.mk.injEq] at H
            obtain ⟨rfl, rfl, rfl, rfl⟩ := H
            have hnb36 := NB277_278.out
            have hnc36 := NB278_277.out
            have hnb37 := NB277_279.out
            have hnc37 := NB279_277.out
            have hnb38 := NB277_285.out
            have hnc38 := NB285_277.out
            have hcz39_0 : wr.cell? ⟨gb277, 0, none⟩ = some (.int .i64 a0_0) := bc_ BK277 0
            have hcz39_1 : wr.cell? ⟨gb277, 1, none⟩ = some (.int .i64 a0_1) := bc_ BK277 1
            have hcz39_2 : wr.cell? ⟨gb277, 2, none⟩ = some (.slice A0_2 l0_2.length c0_2) := bc_ BK277 2
            have hfz39_0 := blk_frozen BK277.out 0
            have hfz39_1 := blk_frozen BK277.out 1
            have hfz39_2 := blk_frozen BK277.out 2
            try go_wp2
            have n0_ := am_ (Kd.R_drew HO_286002.out)
            have n1_ := am_ (blk_drew BK277.out)
            have n2_ := am_ (blk_drew BK278.out)
            have n3_ := am_ (blk_drew BK279.out)
            have n4_ := am_ (blk_drew BK285.out)
            have n5_ := am_ (below_drew1 HB.out)
            clear HO_286002 BK277 BK278 BK279 BK285 HB; revert n0_ n1_ n2_ n3_ n4_ n5_; intro HO_286002 BK277 BK278 BK279 BK285 HB
            refine start_ (n := 14) (S := fun w' => w'.cell? ⟨gb277, 0, none⟩ = some (.int .i64 a0_0) ∧ w'.cell? ⟨gb277, 1, none⟩ = some (.int .i64 a0_1) ∧ w'.cell? ⟨gb277, 2, none⟩ = some (.slice A0_2 l0_2.length c0_2) ∧ w'.cell? ⟨gb278, 0, none⟩ = some (.int .i64 a1_0) ∧ w'.cell? ⟨gb278, 1, none⟩ = some (.int .i64 a1_1) ∧ w'.cell? ⟨gb278, 2, none⟩ = some (.slice A1_2 l1_2.length c1_2)) (ds := []) #[false, false, false, false, false, false, false, false, false, false, false, false, false, false] (by kernel_rfl) rfl rfl ⟨bc_ BK277 0, bc_ BK277 1, bc_ BK277 2, bc_ BK278 0, bc_ BK278 1, bc_ BK278 2⟩ (fun hHeld => ?_); refine with_tabW spec_l01Multiply.tab12 spec_l01Multiply.bits12 (fun HT_ HW_ => ?_)
            generalize wr.drew = w40 at HO_286002 BK277 BK278 BK279 BK285 HB hHeld ⊢
            refine pure_ (i := 1) (N := some 39) (v := ?_) (a' := ?_) #[false, true, false, false, false, false, false, false, false, false, false, false, false, false] rfl rfl (any_of HT_.out (by kernel_rfl)) (fun _ _ _ h => h) (Or.inl ⟨by rfl, ?_⟩) ?_ ?_
            rotate_left
            ·intro w'
             go_simp
             with_reducible rfl
            rotate_left
            ·simp only [Act.put, List.setIfInBounds_toArray, List.set_cons_zero, List.set_cons_succ, i64_w, i32_w]
             rfl
            refine pure_ (i := 2) (N := some 40) (v := ?_) (a' := ?_) #[false, true, true, false, false, false, false, false, false, false, false, false, false, false] rfl rfl (any_of HT_.out (by kernel_rfl)) (fun _ _ _ h => h) (Or.inl ⟨by rfl, ?_⟩) ?_ ?_
            rotate_left
            ·intro w'
             go_simp
             with_reducible rfl
            rotate_left
            ·simp only [Act.put, List.setIfInBounds_toArray, List.set_cons_zero, List.set_cons_succ, i64_w, i32_w]
             rfl
            refine pure_ (i := 5) (N := some 43) (v := ?_) (a' := ?_) #[false, true, true, false, false, true, false, false, false, false, false, false, false, false] rfl rfl (any_of HT_.out (by kernel_rfl)) (fun _ _ _ h => h) (Or.inl ⟨by rfl, ?_⟩) ?_ ?_
            rotate_left
            ·intro w'
             go_simp
             with_reducible rfl
            rotate_left
            ·simp only [Act.put, List.setIfInBounds_toArray, List.set_cons_zero, List.set_cons_succ, i64_w, i32_w]
             rfl
            refine pure_ (i := 6) (N := some 44) (v := ?_) (a' := ?_) #[false, true, true, false, false, true, true, false, false, false, false, false, false, false] rfl rfl (any_of HT_.out (by kernel_rfl)) (fun _ _ _ h => h) (Or.inl ⟨by rfl, ?_⟩) ?_ ?_
            rotate_left
            ·intro w'
             go_simp
             with_reducible rfl
            rotate_left
            ·simp only [Act.put, List.setIfInBounds_toArray, List.set_cons_zero, List.set_cons_succ, i64_w, i32_w]
             rfl
            refine take_ (i := 0) (N := some 38) (v := ?_) (a' := ?_) #[true, true, true, false, false, true, true, false, false, false, false, false, false, false] rfl rfl (take_ofW HT_.out HW_.out (by kernel_rfl)) (fun _ _ _ h => h) (Or.inl ⟨by rfl, ?_⟩) hHeld ?_ ?_
            rotate_left
            ·rintro w' ⟨s0, s1, s2, s3, s4, s5⟩
             go_simp
             with_reducible rfl
            rotate_left
            ·simp only [Act.put, List.setIfInBounds_toArray, List.set_cons_zero, List.set_cons_succ, i64_w, i32_w]
             rfl
            refine take_ (i := 4) (N := some 42) (v := ?_) (a' := ?_) #[true, true, true, false, true, true, true, false, false, false, false, false, false, false] rfl rfl (take_ofW HT_.out HW_.out (by kernel_rfl)) (fun _ _ _ h => h) (Or.inl ⟨by rfl, ?_⟩) hHeld ?_ ?_
            rotate_left
            ·rintro w' ⟨s0, s1, s2, s3, s4, s5⟩
             go_simp
             with_reducible rfl
            rotate_left
            ·simp only [Act.put, List.setIfInBounds_toArray, List.set_cons_zero, List.set_cons_succ, i64_w, i32_w]
             rfl
            refine one_ (i := 3) (N := some 41) #[true, true, true, true, true, true, true, false, false, false, false, false, false, false] rfl rfl (one_of HT_.out (by kernel_rfl)) (by decide) (fun K hK => ?_)
            refine goes_ Try.func49 (by kernel_rfl) rfl #[.agg #[.int .i64 a0_0, .int .i64 a0_1, .slice A0_2 l0_2.length c0_2], .int .i64 x7_1, .int .i64 x11_3] (by rfl) rfl rfl lm_ ?_
            with_reducible refine (spec_l01At.calls a0_0 a0_1 _ _ l0_2 x7_1 x11_3 t287 _ ?side1 ?side2 A30.out).mono ?_
            (case side1 => repeat (first | exact (Kd.C_below HR0_2.out HB.out) | (with_reducible refine Kd.C_alloc ?_ _) | (with_reducible refine Kd.C_drewN ?_ _) | (with_reducible refine Kd.C_drew ?_)))
            (case side2 => exact HC0_2.out)
            rintro e w41 ⟨rfl, hb⟩
            refine ⟨_, rfl, ?_⟩
            have n0_ := am_ (Kd.R_below (rk_ HO_286002.out) hb)
            have n1_ := am_ (bw_ BK277 hb)
            have n2_ := am_ (bw_ BK278 hb)
            have n3_ := am_ (bw_ BK279 hb)
            have n4_ := am_ (bw_ BK285 hb)
            have n5_ := am_ (below_step (bb_ HB.out) hb)
            clear HO_286002 BK277 BK278 BK279 BK285 HB; revert n0_ n1_ n2_ n3_ n4_ n5_; intro HO_286002 BK277 BK278 BK279 BK285 HB
            (try clear hb)
            (try clear hb2)
            (try clear hk)
            (try clear hi)
            refine hK.out _ _ ⟨bc_ BK277 0, bc_ BK277 1, bc_ BK277 2, bc_ BK278 0, bc_ BK278 1, bc_ BK278 2⟩ (fun hHeld => ?_)
            clear hK K
            refine norm_ (a' := ?_) ?_ ?_
            rotate_left
            ·show Act.put _ (some 41) _ = _
             simp only [Act.put, List.setIfInBounds_toArray, List.set_cons_zero, List.set_cons_succ, i64_w, i32_w]
             rfl
            refine one_ (i := 7) (N := some 45) #[true, true, true, true, true, true, true, true, false, false, false, false, false, false] rfl rfl (one_of HT_.out (by kernel_rfl)) (by decide) (fun K hK => ?_)
            refine goes_ Try.func49 (by kernel_rfl) rfl #[.agg #[.int .i64 a1_0, .int .i64 a1_1, .slice A1_2 l1_2.length c1_2], .int .i64 x11_3, .int .i64 x8_2] (by rfl) rfl rfl lm_ ?_
            with_reducible refine (spec_l01At.calls a1_0 a1_1 _ _ l1_2 x11_3 x8_2 t288 _ ?side1 ?side2 A31.out).mono ?_
            (case side1 => repeat (first | exact (Kd.C_below HR1_2.out HB.out) | (with_reducible refine Kd.C_alloc ?_ _) | (with_reducible refine Kd.C_drewN ?_ _) | (with_reducible refine Kd.C_drew ?_)))
            (case side2 => exact HC1_2.out)
            rintro e w42 ⟨rfl, hb⟩
            refine ⟨_, rfl, ?_⟩
            have n0_ := am_ (Kd.R_below (rk_ HO_286002.out) hb)
            have n1_ := am_ (bw_ BK277 hb)
            have n2_ := am_ (bw_ BK278 hb)
            have n3_ := am_ (bw_ BK279 hb)
            have n4_ := am_ (bw_ BK285 hb)
            have n5_ := am_ (below_step (bb_ HB.out) hb)
            clear HO_286002 BK277 BK278 BK279 BK285 HB; revert n0_ n1_ n2_ n3_ n4_ n5_; intro HO_286002 BK277 BK278 BK279 BK285 HB
            (try clear hb)
            (try clear hb2)
            (try clear hk)
            (try clear hi)
            refine hK.out _ _ ⟨bc_ BK277 0, bc_ BK277 1, bc_ BK277 2, bc_ BK278 0, bc_ BK278 1, bc_ BK278 2⟩ (fun hHeld => ?_)
            clear hK K
            refine norm_ (a' := ?_) ?_ ?_
            rotate_left
            ·show Act.put _ (some 45) _ = _
             simp only [Act.put, List.setIfInBounds_toArray, List.set_cons_zero, List.set_cons_succ, i64_w, i32_w]
             rfl
            refine one_ (i := 8) (N := some 46) #[true, true, true, true, true, true, true, true, true, false, false, false, false, false] rfl rfl (one_of HT_.out (by kernel_rfl)) (by decide) (fun K hK => ?_)
            refine goes_ Try.func60 (by kernel_rfl) rfl #[.int .i64 t287, .int .i64 t288, .int .i64 1000000000000] (by rfl) rfl rfl lm_ ?_
            with_reducible refine (spec_l01Times.calls t287 t288 1000000000000 t289 true _ A32.out).mono ?_
            rintro e w43 ⟨rfl, hb⟩
            refine ⟨_, rfl, ?_⟩
            have n0_ := am_ (Kd.R_below (rk_ HO_286002.out) hb)
            have n1_ := am_ (bw_ BK277 hb)
            have n2_ := am_ (bw_ BK278 hb)
            have n3_ := am_ (bw_ BK279 hb)
            have n4_ := am_ (bw_ BK285 hb)
            have n5_ := am_ (below_step (bb_ HB.out) hb)
            clear HO_286002 BK277 BK278 BK279 BK285 HB; revert n0_ n1_ n2_ n3_ n4_ n5_; intro HO_286002 BK277 BK278 BK279 BK285 HB
            (try clear hb)
            (try clear hb2)
            (try clear hk)
            (try clear hi)
            refine hK.out _ _ ⟨bc_ BK277 0, bc_ BK277 1, bc_ BK277 2, bc_ BK278 0, bc_ BK278 1, bc_ BK278 2⟩ (fun hHeld => ?_)
            clear hK K
            refine norm_ (a' := ?_) ?_ ?_
            rotate_left
            ·show Act.put _ (some 46) _ = _
             simp only [Act.put, List.setIfInBounds_toArray, List.set_cons_zero, List.set_cons_succ, i64_w, i32_w]
             rfl
            refine pure_ (i := 9) (N := some 37) (v := ?_) (a' := ?_) #[true, true, true, true, true, true, true, true, true, true, false, false, false, false] rfl rfl (any_of HT_.out (by kernel_rfl)) (fun _ _ _ h => h) (Or.inl ⟨by rfl, ?_⟩) ?_ ?_
            rotate_left
            ·intro w'
             go_simp
             with_reducible rfl
            rotate_left
            ·simp only [Act.put, List.setIfInBounds_toArray, List.set_cons_zero, List.set_cons_succ, i64_w, i32_w]
             rfl
            refine pure_ (i := 10) (N := some 47) (v := ?_) (a' := ?_) #[true, true, true, true, true, true, true, true, true, true, true, false, false, false] rfl rfl (any_of HT_.out (by kernel_rfl)) (fun _ _ _ h => h) (Or.inl ⟨by rfl, ?_⟩) ?_ ?_
            rotate_left
            ·intro w'
             go_simp
             with_reducible rfl
            rotate_left
            ·simp only [Act.put, List.setIfInBounds_toArray, List.set_cons_zero, List.set_cons_succ, i64_w, i32_w]
             rfl
            refine pure_ (i := 11) (N := some 48) (v := ?_) (a' := ?_) #[true, true, true, true, true, true, true, true, true, true, true, true, false, false] rfl rfl (any_of HT_.out (by kernel_rfl)) (fun _ _ _ h => h) (Or.inl ⟨by rfl, ?_⟩) ?_ ?_
            rotate_left
            ·intro w'
             go_simp
             with_reducible rfl
            rotate_left
            ·simp only [Act.put, List.setIfInBounds_toArray, List.set_cons_zero, List.set_cons_succ, i64_w, i32_w]
             rfl
            refine pure_ (i := 12) (N := some 12) (v := ?_) (a' := ?_) #[true, true, true, true, true, true, true, true, true, true, true, true, true, false] rfl rfl (any_of HT_.out (by kernel_rfl)) (fun _ _ _ h => h) (Or.inl ⟨by rfl, ?_⟩) ?_ ?_
            rotate_left
            ·intro w'
             go_simp
             with_reducible rfl
            rotate_left
            ·simp only [Act.put, List.setIfInBounds_toArray, List.set_cons_zero, List.set_cons_succ, i64_w, i32_w]
             rfl
            refine pure_ (i := 13) (N := some 13) (v := ?_) (a' := ?_) #[true, true, true, true, true, true, true, true, true, true, true, true, true, true] rfl rfl (any_of HT_.out (by kernel_rfl)) (fun _ _ _ h => h) (Or.inl ⟨by rfl, ?_⟩) ?_ ?_
            rotate_left
            ·intro w'
             go_simp
             with_reducible rfl
            rotate_left
            ·simp only [Act.put, List.setIfInBounds_toArray, List.set_cons_zero, List.set_cons_succ, i64_w, i32_w]
             rfl
            refine done_ (done_of HT_.out (by kernel_rfl)) ?_
            try go_wp2_with (first | ((with_reducible refine gate_callee (f := 48) rfl ?_); refine goesL_ (some 51) rfl rfl Try.func48 (by kernel_rfl) rfl #[.int .i64 t289] rfl lm_ ?_; (with_reducible refine (spec_l01Abs.calls t289 t291 _ A33.out).mono ?_); rintro e w44 ⟨rfl, hb⟩; refine ⟨_, rfl, ?_⟩; have n0_ := am_ (Kd.R_below (rk_ HO_286002.out) hb); have n1_ := am_ (bw_ BK277 hb); have n2_ := am_ (bw_ BK278 hb); have n3_ := am_ (bw_ BK279 hb); have n4_ := am_ (bw_ BK285 hb); have n5_ := am_ (below_step (bb_ HB.out) hb); clear HO_286002 BK277 BK278 BK279 BK285 HB; revert n0_ n1_ n2_ n3_ n4_ n5_; intro HO_286002 BK277 BK278 BK279 BK285 HB; (try clear hb); (try clear hb2); (try clear hk); (try clear hi); have hnb45 := NB279_278.out; have hnc45 := NB278_279.out; have hnb46 := NB279_285.out; have hnc46 := NB285_279.out; have hcz47_0 : w44.cell? ⟨gb279, 0, none⟩ = some (.int .i64 x280000_3) := bc_ BK279 0; have hcz47_1 : w44.cell? ⟨gb279, 1, none⟩ = some (.int .i64 x280001_3) := bc_ BK279 1; have hcz47_2 : w44.cell? ⟨gb279, 2, none⟩ = some (.slice none 0 0) := bc_ BK279 2; have hfz47_0 := blk_frozen BK279.out 0; have hfz47_1 := blk_frozen BK279.out 1; have hfz47_2 := blk_frozen BK279.out 2))
            refine bodyPost_ret (results_ct rfl _ _ gb279 28 #[.int .i64 0, .int .i64 0, .slice none 0 0] (0, 0) _ rfl (by (with_reducible repeat (first | refine blk_drewN ?_ _ | refine blk_drew ?_ | refine blk_alloc ?_ _)); refine blk_put (cs := #[.int .i64 0, .int .i64 0, .slice none 0 0]) ?_ 2 _ rfl; (with_reducible repeat (first | refine blk_drewN ?_ _ | refine blk_drew ?_ | refine blk_alloc ?_ _)); refine blk_put (cs := #[.int .i64 0, .int .i64 x280001_3, .slice none 0 0]) ?_ 1 _ rfl; (with_reducible repeat (first | refine blk_drewN ?_ _ | refine blk_drew ?_ | refine blk_alloc ?_ _)); refine blk_put (cs := #[.int .i64 x280000_3, .int .i64 x280001_3, .slice none 0 0]) ?_ 0 _ rfl; (with_reducible repeat (first | refine blk_drewN ?_ _ | refine blk_drew ?_ | refine blk_alloc ?_ _)); exact BK279.out) Try.underlying28 rfl (by kernel_rfl)) rfl ?_
            exact ⟨_, by first | rfl | (simp [errW_none, errW_some] <;> rfl) | (simp [*, errW_none, errW_some] <;> rfl), by first | exact Kd.R_nil _ _ _ _ _ | exact Kd.N_nil _ _ _ _ _ | exact Kd.V_nil _ _ _ _ _ | exact Kd.Q_nil _ _ _ _ _ | exact Kd.S_nil _ _ _ _ _, bb_ HB.out⟩
           ·rw [if_neg c35] at H
            have c35b0 : decide (1000000000000 < (wrap64 (x10_3 + t291))) = false := decide_eq_false c35
            clear c35
            have H' := am_ H
            clear H
            have hnb48 := NB277_278.out
            have hnc48 := NB278_277.out
            have hnb49 := NB277_279.out
            have hnc49 := NB279_277.out
            have hnb50 := NB277_285.out
            have hnc50 := NB285_277.out
            have hcz51_0 : wr.cell? ⟨gb277, 0, none⟩ = some (.int .i64 a0_0) := bc_ BK277 0
            have hcz51_1 : wr.cell? ⟨gb277, 1, none⟩ = some (.int .i64 a0_1) := bc_ BK277 1
            have hcz51_2 : wr.cell? ⟨gb277, 2, none⟩ = some (.slice A0_2 l0_2.length c0_2) := bc_ BK277 2
            have hfz51_0 := blk_frozen BK277.out 0
            have hfz51_1 := blk_frozen BK277.out 1
            have hfz51_2 := blk_frozen BK277.out 2
            try go_wp2
            have n0_ := am_ (Kd.R_drew HO_286002.out)
            have n1_ := am_ (blk_drew BK277.out)
            have n2_ := am_ (blk_drew BK278.out)
            have n3_ := am_ (blk_drew BK279.out)
            have n4_ := am_ (blk_drew BK285.out)
            have n5_ := am_ (below_drew1 HB.out)
            clear HO_286002 BK277 BK278 BK279 BK285 HB; revert n0_ n1_ n2_ n3_ n4_ n5_; intro HO_286002 BK277 BK278 BK279 BK285 HB
            refine start_ (n := 14) (S := fun w' => w'.cell? ⟨gb277, 0, none⟩ = some (.int .i64 a0_0) ∧ w'.cell? ⟨gb277, 1, none⟩ = some (.int .i64 a0_1) ∧ w'.cell? ⟨gb277, 2, none⟩ = some (.slice A0_2 l0_2.length c0_2) ∧ w'.cell? ⟨gb278, 0, none⟩ = some (.int .i64 a1_0) ∧ w'.cell? ⟨gb278, 1, none⟩ = some (.int .i64 a1_1) ∧ w'.cell? ⟨gb278, 2, none⟩ = some (.slice A1_2 l1_2.length c1_2)) (ds := []) #[false, false, false, false, false, false, false, false, false, false, false, false, false, false] (by kernel_rfl) rfl rfl ⟨bc_ BK277 0, bc_ BK277 1, bc_ BK277 2, bc_ BK278 0, bc_ BK278 1, bc_ BK278 2⟩ (fun hHeld => ?_); refine with_tabW spec_l01Multiply.tab12 spec_l01Multiply.bits12 (fun HT_ HW_ => ?_)
            generalize wr.drew = w52 at HO_286002 BK277 BK278 BK279 BK285 HB hHeld ⊢
            refine pure_ (i := 1) (N := some 39) (v := ?_) (a' := ?_) #[false, true, false, false, false, false, false, false, false, false, false, false, false, false] rfl rfl (any_of HT_.out (by kernel_rfl)) (fun _ _ _ h => h) (Or.inl ⟨by rfl, ?_⟩) ?_ ?_
            rotate_left
            ·intro w'
             go_simp
             with_reducible rfl
            rotate_left
            ·simp only [Act.put, List.setIfInBounds_toArray, List.set_cons_zero, List.set_cons_succ, i64_w, i32_w]
             rfl
            refine pure_ (i := 2) (N := some 40) (v := ?_) (a' := ?_) #[false, true, true, false, false, false, false, false, false, false, false, false, false, false] rfl rfl (any_of HT_.out (by kernel_rfl)) (fun _ _ _ h => h) (Or.inl ⟨by rfl, ?_⟩) ?_ ?_
            rotate_left
            ·intro w'
             go_simp
             with_reducible rfl
            rotate_left
            ·simp only [Act.put, List.setIfInBounds_toArray, List.set_cons_zero, List.set_cons_succ, i64_w, i32_w]
             rfl
            refine pure_ (i := 5) (N := some 43) (v := ?_) (a' := ?_) #[false, true, true, false, false, true, false, false, false, false, false, false, false, false] rfl rfl (any_of HT_.out (by kernel_rfl)) (fun _ _ _ h => h) (Or.inl ⟨by rfl, ?_⟩) ?_ ?_
            rotate_left
            ·intro w'
             go_simp
             with_reducible rfl
            rotate_left
            ·simp only [Act.put, List.setIfInBounds_toArray, List.set_cons_zero, List.set_cons_succ, i64_w, i32_w]
             rfl
            refine pure_ (i := 6) (N := some 44) (v := ?_) (a' := ?_) #[false, true, true, false, false, true, true, false, false, false, false, false, false, false] rfl rfl (any_of HT_.out (by kernel_rfl)) (fun _ _ _ h => h) (Or.inl ⟨by rfl, ?_⟩) ?_ ?_
            rotate_left
            ·intro w'
             go_simp
             with_reducible rfl
            rotate_left
            ·simp only [Act.put, List.setIfInBounds_toArray, List.set_cons_zero, List.set_cons_succ, i64_w, i32_w]
             rfl
            refine take_ (i := 0) (N := some 38) (v := ?_) (a' := ?_) #[true, true, true, false, false, true, true, false, false, false, false, false, false, false] rfl rfl (take_ofW HT_.out HW_.out (by kernel_rfl)) (fun _ _ _ h => h) (Or.inl ⟨by rfl, ?_⟩) hHeld ?_ ?_
            rotate_left
            ·rintro w' ⟨s0, s1, s2, s3, s4, s5⟩
             go_simp
             with_reducible rfl
            rotate_left
            ·simp only [Act.put, List.setIfInBounds_toArray, List.set_cons_zero, List.set_cons_succ, i64_w, i32_w]
             rfl
            refine take_ (i := 4) (N := some 42) (v := ?_) (a' := ?_) #[true, true, true, false, true, true, true, false, false, false, false, false, false, false] rfl rfl (take_ofW HT_.out HW_.out (by kernel_rfl)) (fun _ _ _ h => h) (Or.inl ⟨by rfl, ?_⟩) hHeld ?_ ?_
            rotate_left
            ·rintro w' ⟨s0, s1, s2, s3, s4, s5⟩
             go_simp
             with_reducible rfl
            rotate_left
            ·simp only [Act.put, List.setIfInBounds_toArray, List.set_cons_zero, List.set_cons_succ, i64_w, i32_w]
             rfl
            refine one_ (i := 3) (N := some 41) #[true, true, true, true, true, true, true, false, false, false, false, false, false, false] rfl rfl (one_of HT_.out (by kernel_rfl)) (by decide) (fun K hK => ?_)
            refine goes_ Try.func49 (by kernel_rfl) rfl #[.agg #[.int .i64 a0_0, .int .i64 a0_1, .slice A0_2 l0_2.length c0_2], .int .i64 x7_1, .int .i64 x11_3] (by rfl) rfl rfl lm_ ?_
            with_reducible refine (spec_l01At.calls a0_0 a0_1 _ _ l0_2 x7_1 x11_3 t287 _ ?side1 ?side2 A30.out).mono ?_
            (case side1 => repeat (first | exact (Kd.C_below HR0_2.out HB.out) | (with_reducible refine Kd.C_alloc ?_ _) | (with_reducible refine Kd.C_drewN ?_ _) | (with_reducible refine Kd.C_drew ?_)))
            (case side2 => exact HC0_2.out)
            rintro e w53 ⟨rfl, hb⟩
            refine ⟨_, rfl, ?_⟩
            have n0_ := am_ (Kd.R_below (rk_ HO_286002.out) hb)
            have n1_ := am_ (bw_ BK277 hb)
            have n2_ := am_ (bw_ BK278 hb)
            have n3_ := am_ (bw_ BK279 hb)
            have n4_ := am_ (bw_ BK285 hb)
            have n5_ := am_ (below_step (bb_ HB.out) hb)
            clear HO_286002 BK277 BK278 BK279 BK285 HB; revert n0_ n1_ n2_ n3_ n4_ n5_; intro HO_286002 BK277 BK278 BK279 BK285 HB
            (try clear hb)
            (try clear hb2)
            (try clear hk)
            (try clear hi)
            refine hK.out _ _ ⟨bc_ BK277 0, bc_ BK277 1, bc_ BK277 2, bc_ BK278 0, bc_ BK278 1, bc_ BK278 2⟩ (fun hHeld => ?_)
            clear hK K
            refine norm_ (a' := ?_) ?_ ?_
            rotate_left
            ·show Act.put _ (some 41) _ = _
             simp only [Act.put, List.setIfInBounds_toArray, List.set_cons_zero, List.set_cons_succ, i64_w, i32_w]
             rfl
            refine one_ (i := 7) (N := some 45) #[true, true, true, true, true, true, true, true, false, false, false, false, false, false] rfl rfl (one_of HT_.out (by kernel_rfl)) (by decide) (fun K hK => ?_)
            refine goes_ Try.func49 (by kernel_rfl) rfl #[.agg #[.int .i64 a1_0, .int .i64 a1_1, .slice A1_2 l1_2.length c1_2], .int .i64 x11_3, .int .i64 x8_2] (by rfl) rfl rfl lm_ ?_
            with_reducible refine (spec_l01At.calls a1_0 a1_1 _ _ l1_2 x11_3 x8_2 t288 _ ?side1 ?side2 A31.out).mono ?_
            (case side1 => repeat (first | exact (Kd.C_below HR1_2.out HB.out) | (with_reducible refine Kd.C_alloc ?_ _) | (with_reducible refine Kd.C_drewN ?_ _) | (with_reducible refine Kd.C_drew ?_)))
            (case side2 => exact HC1_2.out)
            rintro e w54 ⟨rfl, hb⟩
            refine ⟨_, rfl, ?_⟩
            have n0_ := am_ (Kd.R_below (rk_ HO_286002.out) hb)
            have n1_ := am_ (bw_ BK277 hb)
            have n2_ := am_ (bw_ BK278 hb)
            have n3_ := am_ (bw_ BK279 hb)
            have n4_ := am_ (bw_ BK285 hb)
            have n5_ := am_ (below_step (bb_ HB.out) hb)
            clear HO_286002 BK277 BK278 BK279 BK285 HB; revert n0_ n1_ n2_ n3_ n4_ n5_; intro HO_286002 BK277 BK278 BK279 BK285 HB
            (try clear hb)
            (try clear hb2)
            (try clear hk)
            (try clear hi)
            refine hK.out _ _ ⟨bc_ BK277 0, bc_ BK277 1, bc_ BK277 2, bc_ BK278 0, bc_ BK278 1, bc_ BK278 2⟩ (fun hHeld => ?_)
            clear hK K
            refine norm_ (a' := ?_) ?_ ?_
            rotate_left
            ·show Act.put _ (some 45) _ = _
             simp only [Act.put, List.setIfInBounds_toArray, List.set_cons_zero, List.set_cons_succ, i64_w, i32_w]
             rfl
            refine one_ (i := 8) (N := some 46) #[true, true, true, true, true, true, true, true, true, false, false, false, false, false] rfl rfl (one_of HT_.out (by kernel_rfl)) (by decide) (fun K hK => ?_)
            refine goes_ Try.func60 (by kernel_rfl) rfl #[.int .i64 t287, .int .i64 t288, .int .i64 1000000000000] (by rfl) rfl rfl lm_ ?_
            with_reducible refine (spec_l01Times.calls t287 t288 1000000000000 t289 true _ A32.out).mono ?_
            rintro e w55 ⟨rfl, hb⟩
            refine ⟨_, rfl, ?_⟩
            have n0_ := am_ (Kd.R_below (rk_ HO_286002.out) hb)
            have n1_ := am_ (bw_ BK277 hb)
            have n2_ := am_ (bw_ BK278 hb)
            have n3_ := am_ (bw_ BK279 hb)
            have n4_ := am_ (bw_ BK285 hb)
            have n5_ := am_ (below_step (bb_ HB.out) hb)
            clear HO_286002 BK277 BK278 BK279 BK285 HB; revert n0_ n1_ n2_ n3_ n4_ n5_; intro HO_286002 BK277 BK278 BK279 BK285 HB
            (try clear hb)
            (try clear hb2)
            (try clear hk)
            (try clear hi)
            refine hK.out _ _ ⟨bc_ BK277 0, bc_ BK277 1, bc_ BK277 2, bc_ BK278 0, bc_ BK278 1, bc_ BK278 2⟩ (fun hHeld => ?_)
            clear hK K
            refine norm_ (a' := ?_) ?_ ?_
            rotate_left
            ·show Act.put _ (some 46) _ = _
             simp only [Act.put, List.setIfInBounds_toArray, List.set_cons_zero, List.set_cons_succ, i64_w, i32_w]
             rfl
            refine pure_ (i := 9) (N := some 37) (v := ?_) (a' := ?_) #[true, true, true, true, true, true, true, true, true, true, false, false, false, false] rfl rfl (any_of HT_.out (by kernel_rfl)) (fun _ _ _ h => h) (Or.inl ⟨by rfl, ?_⟩) ?_ ?_
            rotate_left
            ·intro w'
             go_simp
             with_reducible rfl
            rotate_left
            ·simp only [Act.put, List.setIfInBounds_toArray, List.set_cons_zero, List.set_cons_succ, i64_w, i32_w]
             rfl
            refine pure_ (i := 10) (N := some 47) (v := ?_) (a' := ?_) #[true, true, true, true, true, true, true, true, true, true, true, false, false, false] rfl rfl (any_of HT_.out (by kernel_rfl)) (fun _ _ _ h => h) (Or.inl ⟨by rfl, ?_⟩) ?_ ?_
            rotate_left
            ·intro w'
             go_simp
             with_reducible rfl
            rotate_left
            ·simp only [Act.put, List.setIfInBounds_toArray, List.set_cons_zero, List.set_cons_succ, i64_w, i32_w]
             rfl
            refine pure_ (i := 11) (N := some 48) (v := ?_) (a' := ?_) #[true, true, true, true, true, true, true, true, true, true, true, true, false, false] rfl rfl (any_of HT_.out (by kernel_rfl)) (fun _ _ _ h => h) (Or.inl ⟨by rfl, ?_⟩) ?_ ?_
            rotate_left
            ·intro w'
             go_simp
             with_reducible rfl
            rotate_left
            ·simp only [Act.put, List.setIfInBounds_toArray, List.set_cons_zero, List.set_cons_succ, i64_w, i32_w]
             rfl
            refine pure_ (i := 12) (N := some 12) (v := ?_) (a' := ?_) #[true, true, true, true, true, true, true, true, true, true, true, true, true, false] rfl rfl (any_of HT_.out (by kernel_rfl)) (fun _ _ _ h => h) (Or.inl ⟨by rfl, ?_⟩) ?_ ?_
            rotate_left
            ·intro w'
             go_simp
             with_reducible rfl
            rotate_left
            ·simp only [Act.put, List.setIfInBounds_toArray, List.set_cons_zero, List.set_cons_succ, i64_w, i32_w]
             rfl
            refine pure_ (i := 13) (N := some 13) (v := ?_) (a' := ?_) #[true, true, true, true, true, true, true, true, true, true, true, true, true, true] rfl rfl (any_of HT_.out (by kernel_rfl)) (fun _ _ _ h => h) (Or.inl ⟨by rfl, ?_⟩) ?_ ?_
            rotate_left
            ·intro w'
             go_simp
             with_reducible rfl
            rotate_left
            ·simp only [Act.put, List.setIfInBounds_toArray, List.set_cons_zero, List.set_cons_succ, i64_w, i32_w]
             rfl
            refine done_ (done_of HT_.out (by kernel_rfl)) ?_
            try go_wp2_with (first | ((with_reducible refine gate_callee (f := 48) rfl ?_); refine goesL_ (some 51) rfl rfl Try.func48 (by kernel_rfl) rfl #[.int .i64 t289] rfl lm_ ?_; (with_reducible refine (spec_l01Abs.calls t289 t291 _ A33.out).mono ?_); rintro e w56 ⟨rfl, hb⟩; refine ⟨_, rfl, ?_⟩; have n0_ := am_ (Kd.R_below (rk_ HO_286002.out) hb); have n1_ := am_ (bw_ BK277 hb); have n2_ := am_ (bw_ BK278 hb); have n3_ := am_ (bw_ BK279 hb); have n4_ := am_ (bw_ BK285 hb); have n5_ := am_ (below_step (bb_ HB.out) hb); clear HO_286002 BK277 BK278 BK279 BK285 HB; revert n0_ n1_ n2_ n3_ n4_ n5_; intro HO_286002 BK277 BK278 BK279 BK285 HB; (try clear hb); (try clear hb2); (try clear hk); (try clear hi)))
            go_roundg k3
            case measure => have := HK1.out; have := HK2.out; have := HK3.out; omega
            case rel => exact ⟨(wrap64 (x9_3 + t289)), (wrap64 (x10_3 + t291)), (wrap64 (x11_3 + 1)), (x280000_3), (x280001_3), (by first | rfl | (simp; done) | (simp [*]; done)), (by first | rfl | (simp; done) | (simp [*]; done)), (by first | rfl | (simp; done) | (simp [*]; done)), H', ⟨by have := HK1.out; have := HK2.out; have := HK3.out; omega⟩, ⟨rk_ HO_286002.out⟩, ⟨bk_ BK277.out⟩, ⟨bk_ BK278.out⟩, ⟨bk_ BK279.out⟩, ⟨bk_ BK285.out⟩, ⟨bb_ HB.out⟩⟩
          ·replace c34 := Bool.eq_false_iff.mpr c34
           subst c34
           have H1 : (some (0, 0, ([] : List Int), false)) = some (r1, r2, r3, r4) := by rw [if_neg (show ¬ (false = true) by decide)] at H; exact H
           clear H
           have H := H1
           clear H1
           simp only [Option.some.injEq, Prod.mk.injEq] at H
           obtain ⟨rfl, rfl, rfl, rfl⟩ := H
           have hnb57 := NB277_278.out
           have hnc57 := NB278_277.out
           have hnb58 := NB277_279.out
           have hnc58 := NB279_277.out
           have hnb59 := NB277_285.out
           have hnc59 := NB285_277.out
           have hcz60_0 : wr.cell? ⟨gb277, 0, none⟩ = some (.int .i64 a0_0) := bc_ BK277 0
           have hcz60_1 : wr.cell? ⟨gb277, 1, none⟩ = some (.int .i64 a0_1) := bc_ BK277 1
           have hcz60_2 : wr.cell? ⟨gb277, 2, none⟩ = some (.slice A0_2 l0_2.length c0_2) := bc_ BK277 2
           have hfz60_0 := blk_frozen BK277.out 0
           have hfz60_1 := blk_frozen BK277.out 1
           have hfz60_2 := blk_frozen BK277.out 2
           try go_wp2
           have n0_ := am_ (Kd.R_drew HO_286002.out)
           have n1_ := am_ (blk_drew BK277.out)
           have n2_ := am_ (blk_drew BK278.out)
           have n3_ := am_ (blk_drew BK279.out)
           have n4_ := am_ (blk_drew BK285.out)
           have n5_ := am_ (below_drew1 HB.out)
           clear HO_286002 BK277 BK278 BK279 BK285 HB; revert n0_ n1_ n2_ n3_ n4_ n5_; intro HO_286002 BK277 BK278 BK279 BK285 HB
           refine start_ (n := 14) (S := fun w' => w'.cell? ⟨gb277, 0, none⟩ = some (.int .i64 a0_0) ∧ w'.cell? ⟨gb277, 1, none⟩ = some (.int .i64 a0_1) ∧ w'.cell? ⟨gb277, 2, none⟩ = some (.slice A0_2 l0_2.length c0_2) ∧ w'.cell? ⟨gb278, 0, none⟩ = some (.int .i64 a1_0) ∧ w'.cell? ⟨gb278, 1, none⟩ = some (.int .i64 a1_1) ∧ w'.cell? ⟨gb278, 2, none⟩ = some (.slice A1_2 l1_2.length c1_2)) (ds := []) #[false, false, false, false, false, false, false, false, false, false, false, false, false, false] (by kernel_rfl) rfl rfl ⟨bc_ BK277 0, bc_ BK277 1, bc_ BK277 2, bc_ BK278 0, bc_ BK278 1, bc_ BK278 2⟩ (fun hHeld => ?_); refine with_tabW spec_l01Multiply.tab12 spec_l01Multiply.bits12 (fun HT_ HW_ => ?_)
           generalize wr.drew = w61 at HO_286002 BK277 BK278 BK279 BK285 HB hHeld ⊢
           refine pure_ (i := 1) (N := some 39) (v := ?_) (a' := ?_) #[false, true, false, false, false, false, false, false, false, false, false, false, false, false] rfl rfl (any_of HT_.out (by kernel_rfl)) (fun _ _ _ h => h) (Or.inl ⟨by rfl, ?_⟩) ?_ ?_
           rotate_left
           ·intro w'
            go_simp
            with_reducible rfl
           rotate_left
           ·simp only [Act.put, List.setIfInBounds_toArray, List.set_cons_zero, List.set_cons_succ, i64_w, i32_w]
            rfl
           refine pure_ (i := 2) (N := some 40) (v := ?_) (a' := ?_) #[false, true, true, false, false, false, false, false, false, false, false, false, false, false] rfl rfl (any_of HT_.out (by kernel_rfl)) (fun _ _ _ h => h) (Or.inl ⟨by rfl, ?_⟩) ?_ ?_
           rotate_left
           ·intro w'
            go_simp
            with_reducible rfl
           rotate_left
           ·simp only [Act.put, List.setIfInBounds_toArray, List.set_cons_zero, List.set_cons_succ, i64_w, i32_w]
            rfl
           refine pure_ (i := 5) (N := some 43) (v := ?_) (a' := ?_) #[false, true, true, false, false, true, false, false, false, false, false, false, false, false] rfl rfl (any_of HT_.out (by kernel_rfl)) (fun _ _ _ h => h) (Or.inl ⟨by rfl, ?_⟩) ?_ ?_
           rotate_left
           ·intro w'
            go_simp
            with_reducible rfl
           rotate_left
           ·simp only [Act.put, List.setIfInBounds_toArray, List.set_cons_zero, List.set_cons_succ, i64_w, i32_w]
            rfl
           refine pure_ (i := 6) (N := some 44) (v := ?_) (a' := ?_) #[false, true, true, false, false, true, true, false, false, false, false, false, false, false] rfl rfl (any_of HT_.out (by kernel_rfl)) (fun _ _ _ h => h) (Or.inl ⟨by rfl, ?_⟩) ?_ ?_
           rotate_left
           ·intro w'
            go_simp
            with_reducible rfl
           rotate_left
           ·simp only [Act.put, List.setIfInBounds_toArray, List.set_cons_zero, List.set_cons_succ, i64_w, i32_w]
            rfl
           refine take_ (i := 0) (N := some 38) (v := ?_) (a' := ?_) #[true, true, true, false, false, true, true, false, false, false, false, false, false, false] rfl rfl (take_ofW HT_.out HW_.out (by kernel_rfl)) (fun _ _ _ h => h) (Or.inl ⟨by rfl, ?_⟩) hHeld ?_ ?_
           rotate_left
           ·rintro w' ⟨s0, s1, s2, s3, s4, s5⟩
            go_simp
            with_reducible rfl
           rotate_left
           ·simp only [Act.put, List.setIfInBounds_toArray, List.set_cons_zero, List.set_cons_succ, i64_w, i32_w]
            rfl
           refine take_ (i := 4) (N := some 42) (v := ?_) (a' := ?_) #[true, true, true, false, true, true, true, false, false, false, false, false, false, false] rfl rfl (take_ofW HT_.out HW_.out (by kernel_rfl)) (fun _ _ _ h => h) (Or.inl ⟨by rfl, ?_⟩) hHeld ?_ ?_
           rotate_left
           ·rintro w' ⟨s0, s1, s2, s3, s4, s5⟩
            go_simp
            with_reducible rfl
           rotate_left
           ·simp only [Act.put, List.setIfInBounds_toArray, List.set_cons_zero, List.set_cons_succ, i64_w, i32_w]
            rfl
           refine one_ (i := 3) (N := some 41) #[true, true, true, true, true, true, true, false, false, false, false, false, false, false] rfl rfl (one_of HT_.out (by kernel_rfl)) (by decide) (fun K hK => ?_)
           refine goes_ Try.func49 (by kernel_rfl) rfl #[.agg #[.int .i64 a0_0, .int .i64 a0_1, .slice A0_2 l0_2.length c0_2], .int .i64 x7_1, .int .i64 x11_3] (by rfl) rfl rfl lm_ ?_
           with_reducible refine (spec_l01At.calls a0_0 a0_1 _ _ l0_2 x7_1 x11_3 t287 _ ?side1 ?side2 A30.out).mono ?_
           (case side1 => repeat (first | exact (Kd.C_below HR0_2.out HB.out) | (with_reducible refine Kd.C_alloc ?_ _) | (with_reducible refine Kd.C_drewN ?_ _) | (with_reducible refine Kd.C_drew ?_)))
           (case side2 => exact HC0_2.out)
           rintro e w62 ⟨rfl, hb⟩
           refine ⟨_, rfl, ?_⟩
           have n0_ := am_ (Kd.R_below (rk_ HO_286002.out) hb)
           have n1_ := am_ (bw_ BK277 hb)
           have n2_ := am_ (bw_ BK278 hb)
           have n3_ := am_ (bw_ BK279 hb)
           have n4_ := am_ (bw_ BK285 hb)
           have n5_ := am_ (below_step (bb_ HB.out) hb)
           clear HO_286002 BK277 BK278 BK279 BK285 HB; revert n0_ n1_ n2_ n3_ n4_ n5_; intro HO_286002 BK277 BK278 BK279 BK285 HB
           (try clear hb)
           (try clear hb2)
           (try clear hk)
           (try clear hi)
           refine hK.out _ _ ⟨bc_ BK277 0, bc_ BK277 1, bc_ BK277 2, bc_ BK278 0, bc_ BK278 1, bc_ BK278 2⟩ (fun hHeld => ?_)
           clear hK K
           refine norm_ (a' := ?_) ?_ ?_
           rotate_left
           ·show Act.put _ (some 41) _ = _
            simp only [Act.put, List.setIfInBounds_toArray, List.set_cons_zero, List.set_cons_succ, i64_w, i32_w]
            rfl
           refine one_ (i := 7) (N := some 45) #[true, true, true, true, true, true, true, true, false, false, false, false, false, false] rfl rfl (one_of HT_.out (by kernel_rfl)) (by decide) (fun K hK => ?_)
           refine goes_ Try.func49 (by kernel_rfl) rfl #[.agg #[.int .i64 a1_0, .int .i64 a1_1, .slice A1_2 l1_2.length c1_2], .int .i64 x11_3, .int .i64 x8_2] (by rfl) rfl rfl lm_ ?_
           with_reducible refine (spec_l01At.calls a1_0 a1_1 _ _ l1_2 x11_3 x8_2 t288 _ ?side1 ?side2 A31.out).mono ?_
           (case side1 => repeat (first | exact (Kd.C_below HR1_2.out HB.out) | (with_reducible refine Kd.C_alloc ?_ _) | (with_reducible refine Kd.C_drewN ?_ _) | (with_reducible refine Kd.C_drew ?_)))
           (case side2 => exact HC1_2.out)
           rintro e w63 ⟨rfl, hb⟩
           refine ⟨_, rfl, ?_⟩
           have n0_ := am_ (Kd.R_below (rk_ HO_286002.out) hb)
           have n1_ := am_ (bw_ BK277 hb)
           have n2_ := am_ (bw_ BK278 hb)
           have n3_ := am_ (bw_ BK279 hb)
           have n4_ := am_ (bw_ BK285 hb)
           have n5_ := am_ (below_step (bb_ HB.out) hb)
           clear HO_286002 BK277 BK278 BK279 BK285 HB; revert n0_ n1_ n2_ n3_ n4_ n5_; intro HO_286002 BK277 BK278 BK279 BK285 HB
           (try clear hb)
           (try clear hb2)
           (try clear hk)
           (try clear hi)
           refine hK.out _ _ ⟨bc_ BK277 0, bc_ BK277 1, bc_ BK277 2, bc_ BK278 0, bc_ BK278 1, bc_ BK278 2⟩ (fun hHeld => ?_)
           clear hK K
           refine norm_ (a' := ?_) ?_ ?_
           rotate_left
           ·show Act.put _ (some 45) _ = _
            simp only [Act.put, List.setIfInBounds_toArray, List.set_cons_zero, List.set_cons_succ, i64_w, i32_w]
            rfl
           refine one_ (i := 8) (N := some 46) #[true, true, true, true, true, true, true, true, true, false, false, false, false, false] rfl rfl (one_of HT_.out (by kernel_rfl)) (by decide) (fun K hK => ?_)
           refine goes_ Try.func60 (by kernel_rfl) rfl #[.int .i64 t287, .int .i64 t288, .int .i64 1000000000000] (by rfl) rfl rfl lm_ ?_
           with_reducible refine (spec_l01Times.calls t287 t288 1000000000000 t289 false _ A32.out).mono ?_
           rintro e w64 ⟨rfl, hb⟩
           refine ⟨_, rfl, ?_⟩
           have n0_ := am_ (Kd.R_below (rk_ HO_286002.out) hb)
           have n1_ := am_ (bw_ BK277 hb)
           have n2_ := am_ (bw_ BK278 hb)
           have n3_ := am_ (bw_ BK279 hb)
           have n4_ := am_ (bw_ BK285 hb)
           have n5_ := am_ (below_step (bb_ HB.out) hb)
           clear HO_286002 BK277 BK278 BK279 BK285 HB; revert n0_ n1_ n2_ n3_ n4_ n5_; intro HO_286002 BK277 BK278 BK279 BK285 HB
           (try clear hb)
           (try clear hb2)
           (try clear hk)
           (try clear hi)
           refine hK.out _ _ ⟨bc_ BK277 0, bc_ BK277 1, bc_ BK277 2, bc_ BK278 0, bc_ BK278 1, bc_ BK278 2⟩ (fun hHeld => ?_)
           clear hK K
           refine norm_ (a' := ?_) ?_ ?_
           rotate_left
           ·show Act.put _ (some 46) _ = _
            simp only [Act.put, List.setIfInBounds_toArray, List.set_cons_zero, List.set_cons_succ, i64_w, i32_w]
            rfl
           refine pure_ (i := 9) (N := some 37) (v := ?_) (a' := ?_) #[true, true, true, true, true, true, true, true, true, true, false, false, false, false] rfl rfl (any_of HT_.out (by kernel_rfl)) (fun _ _ _ h => h) (Or.inl ⟨by rfl, ?_⟩) ?_ ?_
           rotate_left
           ·intro w'
            go_simp
            with_reducible rfl
           rotate_left
           ·simp only [Act.put, List.setIfInBounds_toArray, List.set_cons_zero, List.set_cons_succ, i64_w, i32_w]
            rfl
           refine pure_ (i := 10) (N := some 47) (v := ?_) (a' := ?_) #[true, true, true, true, true, true, true, true, true, true, true, false, false, false] rfl rfl (any_of HT_.out (by kernel_rfl)) (fun _ _ _ h => h) (Or.inl ⟨by rfl, ?_⟩) ?_ ?_
           rotate_left
           ·intro w'
            go_simp
            with_reducible rfl
           rotate_left
           ·simp only [Act.put, List.setIfInBounds_toArray, List.set_cons_zero, List.set_cons_succ, i64_w, i32_w]
            rfl
           refine pure_ (i := 11) (N := some 48) (v := ?_) (a' := ?_) #[true, true, true, true, true, true, true, true, true, true, true, true, false, false] rfl rfl (any_of HT_.out (by kernel_rfl)) (fun _ _ _ h => h) (Or.inl ⟨by rfl, ?_⟩) ?_ ?_
           rotate_left
           ·intro w'
            go_simp
            with_reducible rfl
           rotate_left
           ·simp only [Act.put, List.setIfInBounds_toArray, List.set_cons_zero, List.set_cons_succ, i64_w, i32_w]
            rfl
           refine pure_ (i := 12) (N := some 12) (v := ?_) (a' := ?_) #[true, true, true, true, true, true, true, true, true, true, true, true, true, false] rfl rfl (any_of HT_.out (by kernel_rfl)) (fun _ _ _ h => h) (Or.inl ⟨by rfl, ?_⟩) ?_ ?_
           rotate_left
           ·intro w'
            go_simp
            with_reducible rfl
           rotate_left
           ·simp only [Act.put, List.setIfInBounds_toArray, List.set_cons_zero, List.set_cons_succ, i64_w, i32_w]
            rfl
           refine pure_ (i := 13) (N := some 13) (v := ?_) (a' := ?_) #[true, true, true, true, true, true, true, true, true, true, true, true, true, true] rfl rfl (any_of HT_.out (by kernel_rfl)) (fun _ _ _ h => h) (Or.inl ⟨by rfl, ?_⟩) ?_ ?_
           rotate_left
           ·intro w'
            go_simp
            with_reducible rfl
           rotate_left
           ·simp only [Act.put, List.setIfInBounds_toArray, List.set_cons_zero, List.set_cons_succ, i64_w, i32_w]
            rfl
           refine done_ (done_of HT_.out (by kernel_rfl)) ?_
           try go_wp2_with (first | ((with_reducible refine gate_callee (f := 48) rfl ?_); refine goesL_ (some 51) rfl rfl Try.func48 (by kernel_rfl) rfl #[.int .i64 t289] rfl lm_ ?_; (with_reducible refine (spec_l01Abs.calls t289 t291 _ A33.out).mono ?_); rintro e w65 ⟨rfl, hb⟩; refine ⟨_, rfl, ?_⟩; have n0_ := am_ (Kd.R_below (rk_ HO_286002.out) hb); have n1_ := am_ (bw_ BK277 hb); have n2_ := am_ (bw_ BK278 hb); have n3_ := am_ (bw_ BK279 hb); have n4_ := am_ (bw_ BK285 hb); have n5_ := am_ (below_step (bb_ HB.out) hb); clear HO_286002 BK277 BK278 BK279 BK285 HB; revert n0_ n1_ n2_ n3_ n4_ n5_; intro HO_286002 BK277 BK278 BK279 BK285 HB; (try clear hb); (try clear hb2); (try clear hk); (try clear hi); have hnb66 := NB279_278.out; have hnc66 := NB278_279.out; have hnb67 := NB279_285.out; have hnc67 := NB285_279.out; have hcz68_0 : w65.cell? ⟨gb279, 0, none⟩ = some (.int .i64 x280000_3) := bc_ BK279 0; have hcz68_1 : w65.cell? ⟨gb279, 1, none⟩ = some (.int .i64 x280001_3) := bc_ BK279 1; have hcz68_2 : w65.cell? ⟨gb279, 2, none⟩ = some (.slice none 0 0) := bc_ BK279 2; have hfz68_0 := blk_frozen BK279.out 0; have hfz68_1 := blk_frozen BK279.out 1; have hfz68_2 := blk_frozen BK279.out 2))
           refine bodyPost_ret (results_ct rfl _ _ gb279 28 #[.int .i64 0, .int .i64 0, .slice none 0 0] (0, 0) _ rfl (by (with_reducible repeat (first | refine blk_drewN ?_ _ | refine blk_drew ?_ | refine blk_alloc ?_ _)); refine blk_put (cs := #[.int .i64 0, .int .i64 0, .slice none 0 0]) ?_ 2 _ rfl; (with_reducible repeat (first | refine blk_drewN ?_ _ | refine blk_drew ?_ | refine blk_alloc ?_ _)); refine blk_put (cs := #[.int .i64 0, .int .i64 x280001_3, .slice none 0 0]) ?_ 1 _ rfl; (with_reducible repeat (first | refine blk_drewN ?_ _ | refine blk_drew ?_ | refine blk_alloc ?_ _)); refine blk_put (cs := #[.int .i64 x280000_3, .int .i64 x280001_3, .slice none 0 0]) ?_ 0 _ rfl; (with_reducible repeat (first | refine blk_drewN ?_ _ | refine blk_drew ?_ | refine blk_alloc ?_ _)); exact BK279.out) Try.underlying28 rfl (by kernel_rfl)) rfl ?_
           exact ⟨_, by first | rfl | (simp [errW_none, errW_some] <;> rfl) | (simp [*, errW_none, errW_some] <;> rfl), by first | exact Kd.R_nil _ _ _ _ _ | exact Kd.N_nil _ _ _ _ _ | exact Kd.V_nil _ _ _ _ _ | exact Kd.Q_nil _ _ _ _ _ | exact Kd.S_nil _ _ _ _ _, bb_ HB.out⟩
         ·rw [if_neg c29] at H
          have c29b0 : decide (x11_3 < a0_1) = false := decide_eq_false c29
          clear c29
          obtain ⟨ji69, hji69⟩ : ∃ j_ : Int, (wrap64 ((wrap64 (x7_1 * a1_1)) + x8_2)) = j_ := ⟨_, rfl⟩
          replace H : (if 0 ≤ (ji69) then (if (ji69) < (x286002_2.length : Int) then (spec_l01Multiply.l1 k3 x7_1 (wrap64 (x8_2 + 1)) a0_0 a0_1 l0_2 a1_0 a1_1 l1_2 t280 t281 (x286002_2.set ((ji69) : Int).toNat x9_3)) else (none)) else (none)) = some (r1, r2, r3, r4) := by first | (rw [hji69] at H; exact H) | (simp only [hji69] at H ⊢; exact H)
          have hji69w : (IntKind.i64.wrap ((wrap64 (x7_1 * a1_1)) + x8_2)) = ji69 := (i64_w _).trans hji69
          by_cases c70 : 0 ≤ (ji69)
          ·rw [if_pos c70] at H
           have c70b0 : decide (0 ≤ (ji69)) = true := decide_eq_true c70
           clear c70
           by_cases c71 : (ji69) < (x286002_2.length : Int)
           ·rw [if_pos c71] at H
            have c71b0 : decide ((ji69) < (x286002_2.length : Int)) = true := decide_eq_true c71
            clear c71
            obtain ⟨y286, hy286⟩ : ∃ y_ : List Int, y_ = (x286002_2.set ((ji69) : Int).toNat x9_3) := ⟨_, rfl⟩
            replace H : (spec_l01Multiply.l1 k3 x7_1 (wrap64 (x8_2 + 1)) a0_0 a0_1 l0_2 a1_0 a1_1 l1_2 t280 t281 y286) = some (r1, r2, r3, r4) := by first | (rw [hy286]; with_reducible exact H) | (have H2_ := (Option.bind_some _ _).symm.trans H; rw [hy286]; with_reducible exact H2_) | (have H2_ := (Option.bind_some _ _).symm.trans H; with_reducible exact H2_) | with_reducible exact H | (rw [hy286]; exact H) | exact H
            have Ny286 := am_ hy286
            clear hy286
            have H' := am_ H
            clear H
            have hnb73 := NB277_278.out
            have hnc73 := NB278_277.out
            have hnb74 := NB277_279.out
            have hnc74 := NB279_277.out
            have hnb75 := NB277_285.out
            have hnc75 := NB285_277.out
            have hcz76_0 : wr.cell? ⟨gb277, 0, none⟩ = some (.int .i64 a0_0) := bc_ BK277 0
            have hcz76_1 : wr.cell? ⟨gb277, 1, none⟩ = some (.int .i64 a0_1) := bc_ BK277 1
            have hcz76_2 : wr.cell? ⟨gb277, 2, none⟩ = some (.slice A0_2 l0_2.length c0_2) := bc_ BK277 2
            have hfz76_0 := blk_frozen BK277.out 0
            have hfz76_1 := blk_frozen BK277.out 1
            have hfz76_2 := blk_frozen BK277.out 2
            have hnb77 := NB285_278.out
            have hnc77 := NB278_285.out
            have hnb78 := NB285_279.out
            have hnc78 := NB279_285.out
            have hcz79_0 : wr.cell? ⟨gb285, 0, none⟩ = some (.int .i64 t280) := bc_ BK285 0
            have hcz79_1 : wr.cell? ⟨gb285, 1, none⟩ = some (.int .i64 t281) := bc_ BK285 1
            have hcz79_2 : wr.cell? ⟨gb285, 2, none⟩ = some (u286002) := bc_ BK285 2
            have hfz79_0 := blk_frozen BK285.out 0
            have hfz79_1 := blk_frozen BK285.out 1
            have hfz79_2 := blk_frozen BK285.out 2
            have hnb80 := NB278_279.out
            have hnc80 := NB279_278.out
            have hcz81_0 : wr.cell? ⟨gb278, 0, none⟩ = some (.int .i64 a1_0) := bc_ BK278 0
            have hcz81_1 : wr.cell? ⟨gb278, 1, none⟩ = some (.int .i64 a1_1) := bc_ BK278 1
            have hcz81_2 : wr.cell? ⟨gb278, 2, none⟩ = some (.slice A1_2 l1_2.length c1_2) := bc_ BK278 2
            have hfz81_0 := blk_frozen BK278.out 0
            have hfz81_1 := blk_frozen BK278.out 1
            have hfz81_2 := blk_frozen BK278.out 2
            have p72 : 0 ≤ ((ji69) : Int) := of_decide_eq_true (by first | (with_reducible assumption) | assumption)
            have q72 : ((ji69) : Int) < ((x286002_2.length : Int) : Int) := of_decide_eq_true (by first | (with_reducible assumption) | assumption)
            obtain ⟨go72, co72, eo72, gb72, gl72, cl72, HG72⟩ := Kd.R_form HO_286002.out (by omega)
            (first | cases eo72 | (injection eo72 with ea_ en_ ec_; (first | subst ea_ | (injection ea_ with ea_; subst ea_)); subst ec_; clear en_))
            have GB72 := am_ gb72
            have GG72 := am_ HG72
            clear gb72 gl72 HG72
            obtain ⟨hx72_0, hf72_0⟩ := Kd.R_celln 0 HO_286002.out ((ji69) : Int) p72 q72
            replace p72 := eq_true p72
            replace q72 := eq_true q72
            have HP82 := Kd.R_putg HO_286002.out ((ji69) : Int) x9_3
            go_wp2_with (first | ((with_reducible refine gate_store (t := 2) (p := 72) rfl ?_); refine store_event (t := 2) (p := 72) (v := ?vo_w83) (w1 := (wr.setCell ⟨go72, ((ji69) : Int).toNat, none⟩ (.int .i64 x9_3))) ?hg ?ho ?hn ?hr ?_; (case ho => rfl); (case hg => rfl); (case hn => rfl); (case hr => first | (go_simp; done) | (go_simp; rfl)); intro w83 hw; have hg : wr.grownBy w83 (some go72) := (by rw [hw]; exact HP82.2); have hp_ : Kd.R (Kd.int .i64) 2 w83 w.heap.size (fun _ => True) (.slice (some ⟨go72, 0, none⟩) x286002_2.length co72) y286 := (by rw [hw, Ny286.out]; exact HP82.1); clear HP82; have n0_ := am_ (hp_); have n1_ := am_ (blk_grown (g := gb277) (o := .cells #[.int .i64 a0_0, .int .i64 a0_1, .slice A0_2 l0_2.length c0_2] 28 (0, 0)) (bk_ BK277.out) hg (Kd.R_ne HO_286002.out BK277.out (by decide))); have n2_ := am_ (blk_grown (g := gb278) (o := .cells #[.int .i64 a1_0, .int .i64 a1_1, .slice A1_2 l1_2.length c1_2] 28 (0, 0)) (bk_ BK278.out) hg (Kd.R_ne HO_286002.out BK278.out (by decide))); have n3_ := am_ (blk_grown (g := gb279) (o := .cells #[.int .i64 x280000_3, .int .i64 x280001_3, .slice none 0 0] 28 (0, 0)) (bk_ BK279.out) hg (Kd.R_ne HO_286002.out BK279.out (by decide))); have n4_ := am_ (blk_grown (g := gb285) (o := .cells #[.int .i64 t280, .int .i64 t281, .slice (some ⟨go72, 0, none⟩) x286002_2.length co72] 28 (0, 0)) (bk_ BK285.out) hg (Kd.R_ne HO_286002.out BK285.out (by decide))); have n5_ := am_ ((by rw [hw]; exact below_set (HB.out) GB72.out : Below w.heap.size w w83)); clear HO_286002 BK277 BK278 BK279 BK285 HB; revert n0_ n1_ n2_ n3_ n4_ n5_; intro HO_286002 BK277 BK278 BK279 BK285 HB; clear hg hw hp_))
            go_roundg k3
            case measure => have := HK1.out; have := HK2.out; have := HK3.out; omega
            case rel => exact ⟨(wrap64 (x8_2 + 1)), (x280000_3), (x280001_3), (y286), (.slice (some ⟨go72, 0, none⟩) x286002_2.length co72), (by first | rfl | (simp; done) | (simp [*]; done)), H', ⟨by have := HK1.out; have := HK2.out; have := HK3.out; omega⟩, ⟨rk_ HO_286002.out⟩, ⟨bk_ BK277.out⟩, ⟨bk_ BK278.out⟩, ⟨bk_ BK279.out⟩, ⟨bk_ BK285.out⟩, ⟨bb_ HB.out⟩⟩
           ·rw [if_neg c71] at H
            exact absurd H (by simp)
          ·rw [if_neg c70] at H
           exact absurd H (by simp)
      ·rw [if_neg c24] at H
       have c24b0 : decide (x8_2 < a1_1) = false := decide_eq_false c24
       clear c24
       have H' := am_ H
       clear H
       have hnb84 := NB278_277.out
       have hnc84 := NB277_278.out
       have hnb85 := NB278_279.out
       have hnc85 := NB279_278.out
       have hnb86 := NB278_285.out
       have hnc86 := NB285_278.out
       have hcz87_0 : wr.cell? ⟨gb278, 0, none⟩ = some (.int .i64 a1_0) := bc_ BK278 0
       have hcz87_1 : wr.cell? ⟨gb278, 1, none⟩ = some (.int .i64 a1_1) := bc_ BK278 1
       have hcz87_2 : wr.cell? ⟨gb278, 2, none⟩ = some (.slice A1_2 l1_2.length c1_2) := bc_ BK278 2
       have hfz87_0 := blk_frozen BK278.out 0
       have hfz87_1 := blk_frozen BK278.out 1
       have hfz87_2 := blk_frozen BK278.out 2
       go_wp2
       go_roundg k2
       case measure => have := HK1.out; have := HK2.out; omega
       case rel => exact ⟨(wrap64 (x7_1 + 1)), (x280000_2), (x280001_2), (x286002_2), (u286002), (by first | rfl | (simp; done) | (simp [*]; done)), H', ⟨by have := HK1.out; have := HK2.out; omega⟩, ⟨rk_ HO_286002.out⟩, ⟨bk_ BK277.out⟩, ⟨bk_ BK278.out⟩, ⟨bk_ BK279.out⟩, ⟨bk_ BK285.out⟩, ⟨bb_ HB.out⟩⟩
   ·rw [if_neg c19] at H
    have c19b0 : decide (x7_1 < a0_0) = false := decide_eq_false c19
    clear c19
    simp only [Option.some.injEq, Prod.mk.injEq] at H
    obtain ⟨rfl, rfl, rfl, rfl⟩ := H
    have hnb88 := NB277_278.out
    have hnc88 := NB278_277.out
    have hnb89 := NB277_279.out
    have hnc89 := NB279_277.out
    have hnb90 := NB277_285.out
    have hnc90 := NB285_277.out
    have hcz91_0 : wr.cell? ⟨gb277, 0, none⟩ = some (.int .i64 a0_0) := bc_ BK277 0
    have hcz91_1 : wr.cell? ⟨gb277, 1, none⟩ = some (.int .i64 a0_1) := bc_ BK277 1
    have hcz91_2 : wr.cell? ⟨gb277, 2, none⟩ = some (.slice A0_2 l0_2.length c0_2) := bc_ BK277 2
    have hfz91_0 := blk_frozen BK277.out 0
    have hfz91_1 := blk_frozen BK277.out 1
    have hfz91_2 := blk_frozen BK277.out 2
    have hnb92 := NB285_278.out
    have hnc92 := NB278_285.out
    have hnb93 := NB285_279.out
    have hnc93 := NB279_285.out
    have hcz94_0 : wr.cell? ⟨gb285, 0, none⟩ = some (.int .i64 t280) := bc_ BK285 0
    have hcz94_1 : wr.cell? ⟨gb285, 1, none⟩ = some (.int .i64 t281) := bc_ BK285 1
    have hcz94_2 : wr.cell? ⟨gb285, 2, none⟩ = some (u286002) := bc_ BK285 2
    have hfz94_0 := blk_frozen BK285.out 0
    have hfz94_1 := blk_frozen BK285.out 1
    have hfz94_2 := blk_frozen BK285.out 2
    have hnb95 := NB279_278.out
    have hnc95 := NB278_279.out
    have hcz96_0 : wr.cell? ⟨gb279, 0, none⟩ = some (.int .i64 x280000_1) := bc_ BK279 0
    have hcz96_1 : wr.cell? ⟨gb279, 1, none⟩ = some (.int .i64 x280001_1) := bc_ BK279 1
    have hcz96_2 : wr.cell? ⟨gb279, 2, none⟩ = some (.slice none 0 0) := bc_ BK279 2
    have hfz96_0 := blk_frozen BK279.out 0
    have hfz96_1 := blk_frozen BK279.out 1
    have hfz96_2 := blk_frozen BK279.out 2
    obtain ⟨Ao97, co97, eo97⟩ := Kd.R_slice HO_286002.out
    subst eo97
    go_wp2
    refine bodyPost_ret (results_ct rfl _ _ gb279 28 #[.int .i64 t280, .int .i64 t281, .slice Ao97 x286002_1.length co97] (0, 0) _ rfl (by (with_reducible repeat (first | refine blk_drewN ?_ _ | refine blk_drew ?_ | refine blk_alloc ?_ _)); refine blk_put (cs := #[.int .i64 t280, .int .i64 t281, .slice none 0 0]) ?_ 2 _ rfl; (with_reducible repeat (first | refine blk_drewN ?_ _ | refine blk_drew ?_ | refine blk_alloc ?_ _)); refine blk_put (cs := #[.int .i64 t280, .int .i64 x280001_1, .slice none 0 0]) ?_ 1 _ rfl; (with_reducible repeat (first | refine blk_drewN ?_ _ | refine blk_drew ?_ | refine blk_alloc ?_ _)); refine blk_put (cs := #[.int .i64 x280000_1, .int .i64 x280001_1, .slice none 0 0]) ?_ 0 _ rfl; (with_reducible repeat (first | refine blk_drewN ?_ _ | refine blk_drew ?_ | refine blk_alloc ?_ _)); exact BK279.out) Try.underlying28 rfl (by kernel_rfl)) rfl ?_
    exact ⟨_, by first | rfl | (simp [errW_none, errW_some] <;> rfl) | (simp [*, errW_none, errW_some] <;> rfl), rm_ (Kd.R_far (p := ⟨gb279, 2, none⟩) (Kd.R_far (p := ⟨gb279, 1, none⟩) (Kd.R_far (p := ⟨gb279, 0, none⟩) (Kd.R_types HO_286002.out BK279.out (by decide)) (fun _ hk => hk.2) (.int .i64 t280)) (fun _ hk => hk.2) (.int .i64 t281)) (fun _ hk => hk.2) (.slice Ao97 x286002_1.length co97)) (fun _ hk => trivial), bb_ HB.out⟩

end Go.Proofs.Ytifbfloifdkacaa.PFnProducts
