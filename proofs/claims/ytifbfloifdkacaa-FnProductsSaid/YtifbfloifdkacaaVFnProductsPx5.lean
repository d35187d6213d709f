/- Written by this session's program out of the kit's print and this session's contracts. -/
import Derived.Test.YtifbfloifdkacaaVFnProductsPx0
import Derived.Test.YtifbfloifdkacaaVFnProductsPx3
import Derived.Test.YtifbfloifdkacaaVFnProductsPx4
namespace Go.Proofs.Ytifbfloifdkacaa.PFnProducts
open Go.RowKit Go.Proofs.YtifbfloifdkacaaW.PrintWords Go.Proofs.YtifbfloifdkacaaW.PrintLast Go.Proofs.YtifbfloifdkacaaW.PrintMore
attribute [local go_sem] max2_int min2_int max_two min_two max_three min_three max_four min_four   -- for this text's walks alone
set_option linter.unusedVariables false
set_option linter.unusedSimpArgs false

/-! ### spec_DrawMultiplyMatrices: function 12 -/
def spec_DrawMultiplyMatrices.l0 : Nat → Int → Int → Int → List Int → Int → Int → List Int → Option (Int × Int × List Int × Int × Int × List Int)
 | 0, _, _, _, _, _, _, _ => none
 | k + 1, x7, x215000, x215001, x215002, x226000, x226001, x226002 => if x7 < (x226002.length : Int) then (if 0 ≤ x7 then (spec_DrawMultiplyMatrices.l0 k (wrap64 (x7 + 1)) x215000 x215001 x215002 x226000 x226001 (x226002.set (x7 : Int).toNat (wrap64 ((rd x226002 x7) * 100000000000)))) else (none)) else (some (x215000, x215001, x215002, x226000, x226001, x226002))
def spec_DrawMultiplyMatrices.f (k : Nat) (l0 : List Int) : Option (Int × Int × List Int × Int × Int × List Int) := (spec_l01From.f k l0).bind fun bt203 => ((spec_l01DrawMatrix.f k bt203.1 bt203.2.1 bt203.2.2).bind fun bt207 => ((spec_l01Next.f bt203.1 bt207.2.2.2.1 bt207.2.2.2.2 5).bind fun bt215 => ((spec_l01DrawSize.f k bt203.1 bt215.2.1 bt215.2.2 (mx 0 (mn 5 bt207.2.1)) bt215.1).bind fun bt218 => ((spec_l01Next.f bt203.1 bt218.2.2.2.1 bt218.2.2.2.2 10).bind fun bt226 => (if bt226.1 = 0 then ((spec_l01DrawMatrix.f k bt203.1 bt226.2.1 bt226.2.2).bind fun bt229 => (some (bt207.1, bt207.2.1, bt207.2.2.1, bt229.1, bt229.2.1, bt229.2.2.1))) else (if bt226.1 = 1 then (spec_DrawMultiplyMatrices.l0 k 0 bt207.1 bt207.2.1 bt207.2.2.1 bt218.1 bt218.2.1 bt218.2.2.1) else (some (bt207.1, bt207.2.1, bt207.2.2.1, bt218.1, bt218.2.1, bt218.2.2.1))))))))
theorem spec_DrawMultiplyMatrices.mono_l : ∀ k, (∀ y0 y1 y2 y3 y4 y5 y6, LeO (spec_DrawMultiplyMatrices.l0 k y0 y1 y2 y3 y4 y5 y6) (spec_DrawMultiplyMatrices.l0 (k + 1) y0 y1 y2 y3 y4 y5 y6))
 | 0 => fun _ _ _ _ _ _ _ r h => by simp [spec_DrawMultiplyMatrices.l0] at h
 | k + 1 => by
  have ih0 := spec_DrawMultiplyMatrices.mono_l k
  ·intro y0 y1 y2 y3 y4 y5 y6
   unfold spec_DrawMultiplyMatrices.l0
   repeat' first
   | (with_reducible exact ih0 _ _ _ _ _ _ _)
   | (with_reducible exact spec_l01DrawMatrix.mono _ _ _ _)
   | (with_reducible exact spec_l01DrawSize.mono _ _ _ _ _ _)
   | (with_reducible exact spec_l01From.mono _ _)
   | (with_reducible exact LeO.refl _)
   | (with_reducible exact LeO.none _)
   | (with_reducible refine LeO.ite ?_ ?_)
   | (with_reducible refine LeO.bind ?_ (fun _ => ?_))
   | exact ih0 _ _ _ _ _ _ _
   | exact spec_l01DrawMatrix.mono _ _ _ _
   | exact spec_l01DrawSize.mono _ _ _ _ _ _
   | exact spec_l01From.mono _ _
   | exact LeO.none _
   | refine LeO.ite ?_ ?_
   | refine LeO.bind ?_ (fun _ => ?_)
theorem spec_DrawMultiplyMatrices.mono : ∀ a0 k, LeO (spec_DrawMultiplyMatrices.f k a0) (spec_DrawMultiplyMatrices.f (k + 1) a0) := by
 intro a0 k
 have ih0 := spec_DrawMultiplyMatrices.mono_l k
 unfold spec_DrawMultiplyMatrices.f
 repeat' first
   | (with_reducible exact ih0 _ _ _ _ _ _ _)
   | (with_reducible exact spec_l01DrawMatrix.mono _ _ _ _)
   | (with_reducible exact spec_l01DrawSize.mono _ _ _ _ _ _)
   | (with_reducible exact spec_l01From.mono _ _)
   | (with_reducible exact LeO.refl _)
   | (with_reducible exact LeO.none _)
   | (with_reducible refine LeO.ite ?_ ?_)
   | (with_reducible refine LeO.bind ?_ (fun _ => ?_))
   | exact ih0 _ _ _ _ _ _ _
   | exact spec_l01DrawMatrix.mono _ _ _ _
   | exact spec_l01DrawSize.mono _ _ _ _ _ _
   | exact spec_l01From.mono _ _
   | exact LeO.none _
   | refine LeO.ite ?_ ?_
   | refine LeO.bind ?_ (fun _ => ?_)
def spec_DrawMultiplyMatrices.T3 : Bool × List (List Nat × List Nat) := (true, [([], []), ([], []), ([1], [1]), ([2], [2]), ([3], [3]), ([], []), ([5], [5]), ([0, 4, 6, 6], [0, 4, 6]), ([], []), ([8, 7, 7, 0, 1, 2, 3, 4, 5, 6, 7, 8], [7, 8])])
def spec_DrawMultiplyMatrices.B3 : List Nat := [0, 0, 2, 6, 14, 0, 32, 127, 0, 511]
theorem spec_DrawMultiplyMatrices.tab3 : rtab .any (opsOf Try.f12 3) = spec_DrawMultiplyMatrices.T3 := by kernel_rfl
theorem spec_DrawMultiplyMatrices.bits3 : waitsOk spec_DrawMultiplyMatrices.T3.2 spec_DrawMultiplyMatrices.B3 = true := by kernel_rfl
def spec_DrawMultiplyMatrices.T11 : Bool × List (List Nat × List Nat) := (true, [([], []), ([0], [0]), ([], []), ([], []), ([3], [3]), ([], []), ([4, 5], [4, 5]), ([6], [6]), ([7], [7]), ([1, 2, 0, 1, 2, 3, 4, 5, 6, 7, 8], [1, 2]), ([9, 8, 0, 1, 2, 3, 4, 5, 6, 7, 8], [8, 9])])
def spec_DrawMultiplyMatrices.B11 : List Nat := [0, 1, 0, 0, 8, 0, 56, 120, 248, 511, 1023]
theorem spec_DrawMultiplyMatrices.tab11 : rtab .any (opsOf Try.f12 11) = spec_DrawMultiplyMatrices.T11 := by kernel_rfl
theorem spec_DrawMultiplyMatrices.bits11 : waitsOk spec_DrawMultiplyMatrices.T11.2 spec_DrawMultiplyMatrices.B11 = true := by kernel_rfl
set_option maxHeartbeats 8000000 in
set_option maxRecDepth 100000 in
theorem spec_DrawMultiplyMatrices.calls (k : Nat) (A0 : Option Addr) (c0 : Nat) (l0 : List Int) (r1 : Int) (r2 : Int) (r3 : List Int) (r4 : Int) (r5 : Int) (r6 : List Int) (w : World) (hr0 : Kd.C (Kd.int .u8) w A0 l0.length l0) (hc0 : l0.length ≤ c0) (h : spec_DrawMultiplyMatrices.f k l0 = some (r1, r2, r3, r4, r5, r6)) :
  Calls Try.prog 12 #[.slice A0 l0.length c0] w fun e w' => ∃ v2_ v5_ : Value, e = .returned (.tuple #[.agg #[.int .i64 r1, .int .i64 r2, v2_], .agg #[.int .i64 r4, .int .i64 r5, v5_]]) ∧ Kd.R (Kd.int .i64) 2 w' w.heap.size (fun k_ => some k_ ≠ (v5_ : Value).ownBlock) v2_ r3 ∧ Kd.R (Kd.int .i64) 2 w' w.heap.size (fun k_ => some k_ ≠ (v2_ : Value).ownBlock) v5_ r6 ∧ Below w.heap.size w w' := by
 have hu28 := Try.underlying28
 have HR0 := am_ hr0
 have HC0 := am_ hc0
 clear hr0 hc0
 have HB := am_ (Below.refl w.heap.size w)
 have H : ((spec_l01From.f k l0).bind fun bt203 => ((spec_l01DrawMatrix.f k bt203.1 bt203.2.1 bt203.2.2).bind fun bt207 => ((spec_l01Next.f bt203.1 bt207.2.2.2.1 bt207.2.2.2.2 5).bind fun bt215 => ((spec_l01DrawSize.f k bt203.1 bt215.2.1 bt215.2.2 (mx 0 (mn 5 bt207.2.1)) bt215.1).bind fun bt218 => ((spec_l01Next.f bt203.1 bt218.2.2.2.1 bt218.2.2.2.2 10).bind fun bt226 => (if bt226.1 = 0 then ((spec_l01DrawMatrix.f k bt203.1 bt226.2.1 bt226.2.2).bind fun bt229 => (some (bt207.1, bt207.2.1, bt207.2.2.1, bt229.1, bt229.2.1, bt229.2.2.1))) else (if bt226.1 = 1 then (spec_DrawMultiplyMatrices.l0 k 0 bt207.1 bt207.2.1 bt207.2.2.1 bt218.1 bt218.2.1 bt218.2.2.1) else (some (bt207.1, bt207.2.1, bt207.2.2.1, bt218.1, bt218.2.1, bt218.2.2.1))))))))) = some (r1, r2, r3, r4, r5, r6) := h
 clear h
 replace H := Option.bind_eq_some_iff.mp H
 obtain ⟨⟨t203, t204, t205⟩, A20, H⟩ := H
 replace H : ((spec_l01DrawMatrix.f k t203 t204 t205).bind fun bt207 => ((spec_l01Next.f t203 bt207.2.2.2.1 bt207.2.2.2.2 5).bind fun bt215 => ((spec_l01DrawSize.f k t203 bt215.2.1 bt215.2.2 (mx 0 (mn 5 bt207.2.1)) bt215.1).bind fun bt218 => ((spec_l01Next.f t203 bt218.2.2.2.1 bt218.2.2.2.2 10).bind fun bt226 => (if bt226.1 = 0 then ((spec_l01DrawMatrix.f k t203 bt226.2.1 bt226.2.2).bind fun bt229 => (some (bt207.1, bt207.2.1, bt207.2.2.1, bt229.1, bt229.2.1, bt229.2.2.1))) else (if bt226.1 = 1 then (spec_DrawMultiplyMatrices.l0 k 0 bt207.1 bt207.2.1 bt207.2.2.1 bt218.1 bt218.2.1 bt218.2.2.1) else (some (bt207.1, bt207.2.1, bt207.2.2.1, bt218.1, bt218.2.1, bt218.2.2.1)))))))) = some (r1, r2, r3, r4, r5, r6) := H
 have A2 := am_ A20
 clear A20
 replace H := Option.bind_eq_some_iff.mp H
 obtain ⟨⟨t207, t208, t209, t212, t213⟩, A30, H⟩ := H
 replace H : ((spec_l01Next.f t203 t212 t213 5).bind fun bt215 => ((spec_l01DrawSize.f k t203 bt215.2.1 bt215.2.2 (mx 0 (mn 5 t208)) bt215.1).bind fun bt218 => ((spec_l01Next.f t203 bt218.2.2.2.1 bt218.2.2.2.2 10).bind fun bt226 => (if bt226.1 = 0 then ((spec_l01DrawMatrix.f k t203 bt226.2.1 bt226.2.2).bind fun bt229 => (some (t207, t208, t209, bt229.1, bt229.2.1, bt229.2.2.1))) else (if bt226.1 = 1 then (spec_DrawMultiplyMatrices.l0 k 0 t207 t208 t209 bt218.1 bt218.2.1 bt218.2.2.1) else (some (t207, t208, t209, bt218.1, bt218.2.1, bt218.2.2.1))))))) = some (r1, r2, r3, r4, r5, r6) := H
 have A3 := am_ A30
 clear A30
 obtain ⟨ji4, hji4⟩ : ∃ j_ : Int, (mn 5 t208) = j_ := ⟨_, rfl⟩
 replace H : ((spec_l01Next.f t203 t212 t213 5).bind fun bt215 => ((spec_l01DrawSize.f k t203 bt215.2.1 bt215.2.2 (mx 0 (ji4)) bt215.1).bind fun bt218 => ((spec_l01Next.f t203 bt218.2.2.2.1 bt218.2.2.2.2 10).bind fun bt226 => (if bt226.1 = 0 then ((spec_l01DrawMatrix.f k t203 bt226.2.1 bt226.2.2).bind fun bt229 => (some (t207, t208, t209, bt229.1, bt229.2.1, bt229.2.2.1))) else (if bt226.1 = 1 then (spec_DrawMultiplyMatrices.l0 k 0 t207 t208 t209 bt218.1 bt218.2.1 bt218.2.2.1) else (some (t207, t208, t209, bt218.1, bt218.2.1, bt218.2.2.1))))))) = some (r1, r2, r3, r4, r5, r6) := by first | (rw [hji4] at H; exact H) | (simp only [hji4] at H ⊢; exact H)
 (try rw [hji4] at A2)
 (try rw [hji4] at A3)
 (try (have hji4h : ji4 ≤ 5 := by (rw [← hji4]; unfold mn; (repeat' split) <;> omega)))
 (try (have hji4g : ji4 ≤ 64 := by omega))
 have hji4_ : (if t208 < 5 then t208 else 5) = ji4 := hji4
 obtain ⟨ji5, hji5⟩ : ∃ j_ : Int, (mx 0 (ji4)) = j_ := ⟨_, rfl⟩
 replace H : ((spec_l01Next.f t203 t212 t213 5).bind fun bt215 => ((spec_l01DrawSize.f k t203 bt215.2.1 bt215.2.2 (ji5) bt215.1).bind fun bt218 => ((spec_l01Next.f t203 bt218.2.2.2.1 bt218.2.2.2.2 10).bind fun bt226 => (if bt226.1 = 0 then ((spec_l01DrawMatrix.f k t203 bt226.2.1 bt226.2.2).bind fun bt229 => (some (t207, t208, t209, bt229.1, bt229.2.1, bt229.2.2.1))) else (if bt226.1 = 1 then (spec_DrawMultiplyMatrices.l0 k 0 t207 t208 t209 bt218.1 bt218.2.1 bt218.2.2.1) else (some (t207, t208, t209, bt218.1, bt218.2.1, bt218.2.2.1))))))) = some (r1, r2, r3, r4, r5, r6) := by first | (rw [hji5] at H; exact H) | (simp only [hji5] at H ⊢; exact H)
 (try rw [hji5] at A2)
 (try rw [hji5] at A3)
 have hji5_ : (if 0 < (ji4) then (ji4) else 0) = ji5 := hji5
 replace H := Option.bind_eq_some_iff.mp H
 obtain ⟨⟨t215, t216, t217⟩, A60, H⟩ := H
 replace H : ((spec_l01DrawSize.f k t203 t216 t217 (ji5) t215).bind fun bt218 => ((spec_l01Next.f t203 bt218.2.2.2.1 bt218.2.2.2.2 10).bind fun bt226 => (if bt226.1 = 0 then ((spec_l01DrawMatrix.f k t203 bt226.2.1 bt226.2.2).bind fun bt229 => (some (t207, t208, t209, bt229.1, bt229.2.1, bt229.2.2.1))) else (if bt226.1 = 1 then (spec_DrawMultiplyMatrices.l0 k 0 t207 t208 t209 bt218.1 bt218.2.1 bt218.2.2.1) else (some (t207, t208, t209, bt218.1, bt218.2.1, bt218.2.2.1)))))) = some (r1, r2, r3, r4, r5, r6) := H
 have A6 := am_ A60
 clear A60
 replace H := Option.bind_eq_some_iff.mp H
 obtain ⟨⟨t218, t219, t220, t223, t224⟩, A70, H⟩ := H
 replace H : ((spec_l01Next.f t203 t223 t224 10).bind fun bt226 => (if bt226.1 = 0 then ((spec_l01DrawMatrix.f k t203 bt226.2.1 bt226.2.2).bind fun bt229 => (some (t207, t208, t209, bt229.1, bt229.2.1, bt229.2.2.1))) else (if bt226.1 = 1 then (spec_DrawMultiplyMatrices.l0 k 0 t207 t208 t209 t218 t219 t220) else (some (t207, t208, t209, t218, t219, t220))))) = some (r1, r2, r3, r4, r5, r6) := H
 have A7 := am_ A70
 clear A70
 replace H := Option.bind_eq_some_iff.mp H
 obtain ⟨⟨t226, t227, t228⟩, A80, H⟩ := H
 replace H : (if t226 = 0 then ((spec_l01DrawMatrix.f k t203 t227 t228).bind fun bt229 => (some (t207, t208, t209, bt229.1, bt229.2.1, bt229.2.2.1))) else (if t226 = 1 then (spec_DrawMultiplyMatrices.l0 k 0 t207 t208 t209 t218 t219 t220) else (some (t207, t208, t209, t218, t219, t220)))) = some (r1, r2, r3, r4, r5, r6) := H
 have A8 := am_ A80
 clear A80
 by_cases c9 : t226 = 0
 ·rw [if_pos c9] at H
  have c9b0 : (t226 == 0) = true := beq_iff_eq.mpr c9
  have c9b1 : (t226 != 0) = false := bne_eq_false_iff_eq.mpr c9
  clear c9
  replace H := Option.bind_eq_some_iff.mp H
  obtain ⟨⟨t229, t230, t231, t234, t235⟩, A100, H⟩ := H
  replace H : (some (t207, t208, t209, t229, t230, t231)) = some (r1, r2, r3, r4, r5, r6) := H
  have A10 := am_ A100
  clear A100
  simp only [Option.some.injEq, Prod.mk.injEq] at H
  obtain ⟨rfl, rfl, rfl, rfl, rfl, rfl⟩ := H
  go_enter Try.func12, Try.ntmps12
  try go_wp2_with (first | ((with_reducible refine gate_dst (N := 2) rfl ?_); refine box_event ?hg (N := 2) ?hd (cs := #[.int .i64 0, .int .i64 0, .slice none 0 0]) (t := 28) ?hr ?_; (case hd => rfl); (case hg => rfl); (case hr => first | (go_simp; done) | (go_simp; rfl)); intro gb201 hg w11 hbox hb; have n0_ := am_ (below_step (bb_ HB.out) hb); have n1_ := am_ (hbox); have n2_ := am_ ((by rw [hg]; exact (below_size (bb_ HB.out)) : w.heap.size ≤ gb201)); have n3_ := am_ ((by rw [hg]; exact (below_size (bb_ HB.out)) : w.heap.size ≤ gb201)); clear HB; revert n0_ n1_ n2_ n3_; intro HB BK201 GW201 GE201; clear hb hbox hg) | ((with_reducible refine gate_dst (N := 3) rfl ?_); refine box_event ?hg (N := 3) ?hd (cs := #[.int .i64 0, .int .i64 0, .slice none 0 0]) (t := 28) ?hr ?_; (case hd => rfl); (case hg => rfl); (case hr => first | (go_simp; done) | (go_simp; rfl)); intro gb202 hg w12 hbox hb; have n0_ := am_ (bw_ BK201 hb); have n1_ := am_ (below_step (bb_ HB.out) hb); have n2_ := am_ (hbox); have n3_ := am_ ((by rw [hg]; exact (below_size (bb_ HB.out)) : w.heap.size ≤ gb202)); have n4_ := am_ ((by rw [hg]; exact (below_size (bb_ HB.out)) : w.heap.size ≤ gb202)); have n5_ := am_ (nl_ BK201 hg); have n6_ := am_ (ng_ BK201 hg); clear BK201 HB; revert n0_ n1_ n2_ n3_ n4_ n5_ n6_; intro BK201 HB BK202 GW202 GE202 NB201_202 NB202_201; clear hb hbox hg) | ((with_reducible refine gate_callee (f := 32) rfl ?_); refine goesL_ (some 9) rfl rfl Try.func32 (by kernel_rfl) rfl #[.slice A0 l0.length c0] rfl lm_ ?_; (with_reducible refine (spec_l01From.calls k _ _ l0 t203 t204 t205 w _ ?side1 ?side2 ?side3 A2.out).mono ?_); (case side1 => exact bb_ HB.out); (case side2 => exact HR0.out); (case side3 => exact HC0.out); rintro e w13 ⟨g206, rfl, hi, hb, hb2⟩; refine ⟨_, rfl, ?_⟩; have n0_ := am_ (bw_ BK201 hb2); have n1_ := am_ (bw_ BK202 hb2); have n2_ := am_ (hb); have n3_ := am_ (hi); have n4_ := am_ (IsS75.ne_blk hi (bw_ BK201 hb2) (by decide)); have n5_ := am_ (Ne.symm (IsS75.ne_blk hi (bw_ BK201 hb2) (by decide))); have n6_ := am_ (IsS75.ne_blk hi (bw_ BK202 hb2) (by decide)); have n7_ := am_ (Ne.symm (IsS75.ne_blk hi (bw_ BK202 hb2) (by decide))); clear BK201 BK202 HB; revert n0_ n1_ n2_ n3_ n4_ n5_ n6_ n7_; intro BK201 BK202 HB HI206 NB206_201 NB201_206 NB206_202 NB202_206; (try clear hb); (try clear hb2); (try clear hk); (try clear hi)) | ((with_reducible refine gate_callee (f := 33) rfl ?_); refine goesL_ (some 11) rfl rfl Try.func33 (by kernel_rfl) rfl #[.pointer (some ⟨g206, 0, none⟩)] rfl lm_ ?_; (with_reducible refine (spec_l01DrawMatrix.calls k g206 t203 t204 t205 t207 t208 t209 t212 t213 w _ ?side1 ?side2 A3.out).mono ?_); (case side1 => exact is75_ HI206); (case side2 => exact bi75_ HB.out); rintro e w14 ⟨v210, rfl, ho0, hi, hb, hk⟩; refine ⟨_, rfl, ?_⟩; have n0_ := am_ (KeepBut.blk hk (g' := gb201) (o := .cells #[.int .i64 0, .int .i64 0, .slice none 0 0] 28 (0, 0)) (bk_ BK201.out) NB201_206.out (by simp)); have n1_ := am_ (KeepBut.blk hk (g' := gb202) (o := .cells #[.int .i64 0, .int .i64 0, .slice none 0 0] 28 (0, 0)) (bk_ BK202.out) NB202_206.out (by simp)); have n2_ := am_ (Kd.R_lower ho0 (below_size (bi75_ HB.out))); have n3_ := am_ (hb); have n4_ := am_ (hi); clear BK201 BK202 HB HI206; revert n0_ n1_ n2_ n3_ n4_; intro BK201 BK202 HO211 HB HI206; (try clear hb); (try clear hb2); (try clear hk); (try clear hi); (try clear ho0)) | ((with_reducible refine gate_dst (N := 5) rfl ?_); refine box_event ?hg (N := 5) ?hd (cs := #[.int .i64 0, .int .i64 0, .slice none 0 0]) (t := 28) ?hr ?_; (case hd => rfl); (case hg => rfl); (case hr => first | (go_simp; done) | (go_simp; rfl)); intro gb214 hg w15 hbox hb; have n0_ := am_ (Kd.R_below (rk_ HO211.out) hb); have n1_ := am_ (bw_ BK201 hb); have n2_ := am_ (bw_ BK202 hb); have n3_ := am_ (IsS75.below (is75_ HI206) hb); have n4_ := am_ (below_step (bi75_ HB.out) hb); have n5_ := am_ (hbox); have n6_ := am_ ((by rw [hg]; exact (below_size (bi75_ HB.out)) : w.heap.size ≤ gb214)); have n7_ := am_ ((by rw [hg]; exact (below_size (bi75_ HB.out)) : w.heap.size ≤ gb214)); have n8_ := am_ (nl_ BK201 hg); have n9_ := am_ (ng_ BK201 hg); have n10_ := am_ (nl_ BK202 hg); have n11_ := am_ (ng_ BK202 hg); have n12_ := am_ ((by rw [hg]; exact Nat.ne_of_lt (IsS75.lt (show IsS75 w _ g206 t203 t212 t213 from is75_ HI206)) : g206 ≠ gb214)); have n13_ := am_ ((by rw [hg]; exact Nat.ne_of_gt (IsS75.lt (show IsS75 w _ g206 t203 t212 t213 from is75_ HI206)) : gb214 ≠ g206)); clear HO211 BK201 BK202 HI206 HB; revert n0_ n1_ n2_ n3_ n4_ n5_ n6_ n7_ n8_ n9_ n10_ n11_ n12_ n13_; intro HO211 BK201 BK202 HI206 HB BK214 GW214 GE214 NB201_214 NB214_201 NB202_214 NB214_202 NB206_214 NB214_206; clear hb hbox hg; have hnb16 := NB214_201.out; have hnc16 := NB201_214.out; have hnb17 := NB214_202.out; have hnc17 := NB202_214.out; have hnb18 := NB214_206.out; have hnc18 := NB206_214.out; have hcz19_0 : w15.cell? ⟨gb214, 0, none⟩ = some (.int .i64 0) := bc_ BK214 0; have hcz19_1 : w15.cell? ⟨gb214, 1, none⟩ = some (.int .i64 0) := bc_ BK214 1; have hcz19_2 : w15.cell? ⟨gb214, 2, none⟩ = some (.slice none 0 0) := bc_ BK214 2; have hfz19_0 := blk_frozen BK214.out 0; have hfz19_1 := blk_frozen BK214.out 1; have hfz19_2 := blk_frozen BK214.out 2; obtain ⟨Ao20, co20, eo20⟩ := Kd.R_slice HO211.out; subst eo20))
  have n0_ : Aside0 (Kd.R (Kd.int .i64) 2 (((w15.setCell ⟨gb214, 0, none⟩ (.int .i64 t207)).setCell ⟨gb214, 1, none⟩ (.int .i64 t208)).setCell ⟨gb214, 2, none⟩ (.slice Ao20 t209.length co20)) w.heap.size (fun _ => True) (.slice Ao20 t209.length co20) t209) := ⟨rm_ (Kd.R_far (p := ⟨gb214, 2, none⟩) (Kd.R_far (p := ⟨gb214, 1, none⟩) (Kd.R_far (p := ⟨gb214, 0, none⟩) (Kd.R_types HO211.out BK214.out (by decide)) (fun _ hk => hk.2) (.int .i64 t207)) (fun _ hk => hk.2) (.int .i64 t208)) (fun _ hk => hk.2) (.slice Ao20 t209.length co20)) (fun _ hk => trivial)⟩
  have n1_ : Aside0 ((((w15.setCell ⟨gb214, 0, none⟩ (.int .i64 t207)).setCell ⟨gb214, 1, none⟩ (.int .i64 t208)).setCell ⟨gb214, 2, none⟩ (.slice Ao20 t209.length co20)).heap[gb201]? = some (.cells #[.int .i64 0, .int .i64 0, .slice none 0 0] 28 (0, 0))) := ⟨bk_ BK201.out⟩
  have n2_ : Aside0 ((((w15.setCell ⟨gb214, 0, none⟩ (.int .i64 t207)).setCell ⟨gb214, 1, none⟩ (.int .i64 t208)).setCell ⟨gb214, 2, none⟩ (.slice Ao20 t209.length co20)).heap[gb202]? = some (.cells #[.int .i64 0, .int .i64 0, .slice none 0 0] 28 (0, 0))) := ⟨bk_ BK202.out⟩
  have n3_ : Aside0 ((((w15.setCell ⟨gb214, 0, none⟩ (.int .i64 t207)).setCell ⟨gb214, 1, none⟩ (.int .i64 t208)).setCell ⟨gb214, 2, none⟩ (.slice Ao20 t209.length co20)).heap[gb214]? = some (.cells #[.int .i64 t207, .int .i64 t208, .slice Ao20 t209.length co20] 28 (0, 0))) := ⟨by (with_reducible repeat (first | refine blk_drewN ?_ _ | refine blk_drew ?_ | refine blk_alloc ?_ _)); refine blk_put (cs := #[.int .i64 t207, .int .i64 t208, .slice none 0 0]) ?_ 2 _ rfl; (with_reducible repeat (first | refine blk_drewN ?_ _ | refine blk_drew ?_ | refine blk_alloc ?_ _)); refine blk_put (cs := #[.int .i64 t207, .int .i64 0, .slice none 0 0]) ?_ 1 _ rfl; (with_reducible repeat (first | refine blk_drewN ?_ _ | refine blk_drew ?_ | refine blk_alloc ?_ _)); refine blk_put (cs := #[.int .i64 0, .int .i64 0, .slice none 0 0]) ?_ 0 _ rfl; (with_reducible repeat (first | refine blk_drewN ?_ _ | refine blk_drew ?_ | refine blk_alloc ?_ _)); exact BK214.out⟩
  have n4_ : Aside0 (IsS75 w (((w15.setCell ⟨gb214, 0, none⟩ (.int .i64 t207)).setCell ⟨gb214, 1, none⟩ (.int .i64 t208)).setCell ⟨gb214, 2, none⟩ (.slice Ao20 t209.length co20)) g206 t203 t212 t213) := ⟨is75_ HI206⟩
  have n5_ : Aside0 (Below w.heap.size w (((w15.setCell ⟨gb214, 0, none⟩ (.int .i64 t207)).setCell ⟨gb214, 1, none⟩ (.int .i64 t208)).setCell ⟨gb214, 2, none⟩ (.slice Ao20 t209.length co20))) := ⟨bi75_ HB.out⟩
  (try clear HO211)
  (try clear BK201)
  (try clear BK202)
  (try clear BK214)
  (try clear HI206)
  (try clear HB)
  generalize (((w15.setCell ⟨gb214, 0, none⟩ (.int .i64 t207)).setCell ⟨gb214, 1, none⟩ (.int .i64 t208)).setCell ⟨gb214, 2, none⟩ (.slice Ao20 t209.length co20)) = w21 at n0_ n1_ n2_ n3_ n4_ n5_ ⊢
  have HO211 := n0_
  have BK201 := n1_
  have BK202 := n2_
  have BK214 := n3_
  have HI206 := n4_
  have HB := n5_
  clear n0_ n1_ n2_ n3_ n4_ n5_
  have n0_ := am_ (Kd.R_drew HO211.out)
  have n1_ := am_ (blk_drew BK201.out)
  have n2_ := am_ (blk_drew BK202.out)
  have n3_ := am_ (blk_drew BK214.out)
  have n4_ := am_ (IsS75.drew HI206.out)
  have n5_ := am_ (below_drew1 HB.out)
  clear HO211 BK201 BK202 BK214 HI206 HB; revert n0_ n1_ n2_ n3_ n4_ n5_; intro HO211 BK201 BK202 BK214 HI206 HB
  refine start_ (n := 10) (S := fun w' => w'.cell? ⟨gb214, 0, none⟩ = some (.int .i64 t207) ∧ w'.cell? ⟨gb214, 1, none⟩ = some (.int .i64 t208) ∧ w'.cell? ⟨gb214, 2, none⟩ = some (.slice Ao20 t209.length co20)) (ds := []) #[false, false, false, false, false, false, false, false, false, false] (by kernel_rfl) rfl rfl ⟨bc_ BK214 0, bc_ BK214 1, bc_ BK214 2⟩ (fun hHeld => ?_); refine with_tabW spec_DrawMultiplyMatrices.tab3 spec_DrawMultiplyMatrices.bits3 (fun HT_ HW_ => ?_)
  generalize w21.drew = w22 at HO211 BK201 BK202 BK214 HI206 HB hHeld ⊢
  refine pure_ (i := 0) (N := some 12) (v := ?_) (a' := ?_) #[true, false, false, false, false, false, false, false, false, false] rfl rfl (any_of HT_.out (by kernel_rfl)) (fun _ _ _ h => h) (Or.inl ⟨by rfl, ?_⟩) ?_ ?_
  rotate_left
  ·intro w'
   go_simp
   with_reducible rfl
  rotate_left
  ·simp only [Act.put, List.setIfInBounds_toArray, List.set_cons_zero, List.set_cons_succ, i64_w, i32_w]
   rfl
  refine pure_ (i := 1) (N := some 13) (v := ?_) (a' := ?_) #[true, true, false, false, false, false, false, false, false, false] rfl rfl (any_of HT_.out (by kernel_rfl)) (fun _ _ _ h => h) (Or.inl ⟨by rfl, ?_⟩) ?_ ?_
  rotate_left
  ·intro w'
   go_simp
   with_reducible rfl
  rotate_left
  ·simp only [Act.put, List.setIfInBounds_toArray, List.set_cons_zero, List.set_cons_succ, i64_w, i32_w]
   rfl
  refine pure_ (i := 5) (N := some 17) (v := ?_) (a' := ?_) #[true, true, false, false, false, true, false, false, false, false] rfl rfl (any_of HT_.out (by kernel_rfl)) (fun _ _ _ h => h) (Or.inl ⟨by rfl, ?_⟩) ?_ ?_
  rotate_left
  ·intro w'
   go_simp
   with_reducible rfl
  rotate_left
  ·simp only [Act.put, List.setIfInBounds_toArray, List.set_cons_zero, List.set_cons_succ, i64_w, i32_w]
   rfl
  refine take_ (i := 2) (N := some 14) (v := ?_) (a' := ?_) #[true, true, true, false, false, true, false, false, false, false] rfl rfl (take_ofW HT_.out HW_.out (by kernel_rfl)) (fun _ _ _ h => h) (Or.inl ⟨by rfl, ?_⟩) hHeld ?_ ?_
  rotate_left
  ·rintro w' ⟨s0, s1, s2⟩
   go_simp
   with_reducible rfl
  rotate_left
  ·simp only [Act.put, List.setIfInBounds_toArray, List.set_cons_zero, List.set_cons_succ, i64_w, i32_w]
   rfl
  refine pure_ (i := 3) (N := some 15) (v := ?_) (a' := ?_) #[true, true, true, true, false, true, false, false, false, false] rfl rfl (any_of HT_.out (by kernel_rfl)) (fun _ _ _ h => h) (Or.inl ⟨by rfl, ?_⟩) ?_ ?_
  rotate_left
  ·intro w'
   go_simp
   with_reducible rfl
  rotate_left
  ·simp only [Act.put, List.setIfInBounds_toArray, List.set_cons_zero, List.set_cons_succ, i64_w, i32_w]
   rfl
  refine pure_ (i := 4) (N := some 16) (v := ?_) (a' := ?_) #[true, true, true, true, true, true, false, false, false, false] rfl rfl (any_of HT_.out (by kernel_rfl)) (fun _ _ _ h => h) (Or.inl ⟨by rfl, ?_⟩) ?_ ?_
  rotate_left
  ·intro w'
   go_simp
   with_reducible rfl
  rotate_left
  ·simp only [Act.put, List.setIfInBounds_toArray, List.set_cons_zero, List.set_cons_succ, i64_w, i32_w]
   rfl
  refine join_ (σ := Value × Nat) 1 #[true, true, true, true, true, true, true, true, true, false] (fun s_ => [(18, .int .i64 t215), (19, .agg #[.int .i64 t218, .int .i64 t219, s_.1]), (6, .pointer (some ⟨s_.2, 0, none⟩))]) (fun s_ w' => (w'.cell? ⟨gb214, 0, none⟩ = some (.int .i64 t207) ∧ w'.cell? ⟨gb214, 1, none⟩ = some (.int .i64 t208) ∧ w'.cell? ⟨gb214, 2, none⟩ = some (.slice Ao20 t209.length co20)) ∧ (Kd.R (Kd.int .i64) 2 w' w.heap.size (fun k_ => some k_ ≠ (s_.1 : Value).ownBlock) (.slice Ao20 t209.length co20) t209) ∧ (Kd.R (Kd.int .i64) 2 w' w.heap.size (fun k_ => some k_ ≠ (.slice Ao20 t209.length co20 : Value).ownBlock) s_.1 t220) ∧ (w'.heap[gb201]? = some (.cells #[.int .i64 0, .int .i64 0, .slice none 0 0] 28 (0, 0))) ∧ (w'.heap[gb202]? = some (.cells #[.int .i64 0, .int .i64 0, .slice none 0 0] 28 (0, 0))) ∧ (w'.heap[gb214]? = some (.cells #[.int .i64 t207, .int .i64 t208, .slice Ao20 t209.length co20] 28 (0, 0))) ∧ (w'.heap[s_.2]? = some (.cells #[.int .i64 0, .int .i64 0, .slice none 0 0] 28 (0, 0))) ∧ (w.heap.size ≤ s_.2) ∧ (w.heap.size ≤ s_.2) ∧ (g206 ≠ s_.2) ∧ (s_.2 ≠ g206) ∧ (gb201 ≠ s_.2) ∧ (s_.2 ≠ gb201) ∧ (gb202 ≠ s_.2) ∧ (s_.2 ≠ gb202) ∧ (gb214 ≠ s_.2) ∧ (s_.2 ≠ gb214) ∧ (IsS75 w w' g206 t203 t223 t224) ∧ (Below w.heap.size w w')) ?_ ?_
  rotate_left
  ·intro hCont
   refine two_ (i := 6) (j := 8) (Ni := some 18) (Nj := some 6) #[true, true, true, true, true, true, true, false, false, false] #[true, true, true, true, true, true, false, false, true, false] rfl rfl rfl rfl (two_of HT_.out (by kernel_rfl)) (by decide) (by decide) (fun K hK => ?_) (fun K hK => ?_)
   ·skip
    refine goes_ Try.func35 (by kernel_rfl) rfl #[.pointer (some ⟨g206, 0, none⟩), .int .i64 5] (by rfl) rfl rfl lm_ ?_
    with_reducible refine (spec_l01Next.calls g206 t203 t212 t213 5 t215 t216 t217 w _ ?side1 ?side2 A6.out).mono ?_
    (case side1 => exact is75_ HI206)
    (case side2 => exact bi75_ HB.out)
    rintro e w23 ⟨rfl, hi, hb, hk⟩
    refine ⟨_, rfl, ?_⟩
    have n0_ := am_ (KeepBut.blk hk (g' := gb201) (o := .cells #[.int .i64 0, .int .i64 0, .slice none 0 0] 28 (0, 0)) (bk_ BK201.out) NB201_206.out (by simp))
    have n1_ := am_ (KeepBut.blk hk (g' := gb202) (o := .cells #[.int .i64 0, .int .i64 0, .slice none 0 0] 28 (0, 0)) (bk_ BK202.out) NB202_206.out (by simp))
    have n2_ := am_ (Kd.R_mono (Kd.R_keep (IsS75.apart (show IsS75 w _ g206 t203 t212 t213 from is75_ HI206) (rk_ HO211.out) (by decide)) hk (fun _ h => h.2)) (fun _ h => h.1))
    have n3_ := am_ (KeepBut.blk hk (g' := gb214) (o := .cells #[.int .i64 t207, .int .i64 t208, .slice Ao20 t209.length co20] 28 (0, 0)) (bk_ BK214.out) NB214_206.out (by simp))
    have n4_ := am_ (hb)
    have n5_ := am_ (hi)
    clear BK201 BK202 HO211 BK214 HB HI206; revert n0_ n1_ n2_ n3_ n4_ n5_; intro BK201 BK202 HO211 BK214 HB HI206
    (try clear hb)
    (try clear hb2)
    (try clear hk)
    (try clear hi)
    refine hK.out _ _ ⟨bc_ BK214 0, bc_ BK214 1, bc_ BK214 2⟩ (fun hHeld => ?_)
    clear hK K
    refine norm_ (a' := ?_) ?_ ?_
    rotate_left
    ·show Act.put _ (some 18) _ = _
     simp only [Act.put, List.setIfInBounds_toArray, List.set_cons_zero, List.set_cons_succ, i64_w, i32_w]
     rfl
    refine two_ (i := 7) (j := 8) (Ni := some 19) (Nj := some 6) #[true, true, true, true, true, true, true, true, false, false] #[true, true, true, true, true, true, true, false, true, false] rfl rfl rfl rfl (two_of HT_.out (by kernel_rfl)) (by decide) (by decide) (fun K hK => ?_) (fun K hK => ?_)
    ·skip
     refine goes_ Try.func34 (by kernel_rfl) rfl #[.pointer (some ⟨g206, 0, none⟩), .int .i64 ji5, .int .i64 t215] (by rfl) rfl rfl (by (try simp only [List.map_toArray, List.map_cons, List.map_nil]); first | done | (simp only [hji5]; rfl) | rfl | (simp only [List.length_drop, List.length_take]; rfl)) ?_
     with_reducible refine (spec_l01DrawSize.calls k g206 t203 t216 t217 ji5 t215 t218 t219 t220 t223 t224 w _ ?side1 ?side2 A7.out).mono ?_
     (case side1 => exact is75_ HI206)
     (case side2 => exact bi75_ HB.out)
     rintro e w24 ⟨v221, rfl, ho0, hi, hb, hk⟩
     refine ⟨_, rfl, ?_⟩
     have n0_ := am_ (KeepBut.blk hk (g' := gb201) (o := .cells #[.int .i64 0, .int .i64 0, .slice none 0 0] 28 (0, 0)) (bk_ BK201.out) NB201_206.out (by simp))
     have n1_ := am_ (KeepBut.blk hk (g' := gb202) (o := .cells #[.int .i64 0, .int .i64 0, .slice none 0 0] 28 (0, 0)) (bk_ BK202.out) NB202_206.out (by simp))
     have n2_ := am_ (Kd.R_mono (Kd.R_told (Kd.R_oldK (IsS75.apart (show IsS75 w _ g206 t203 t216 t217 from is75_ HI206) (rk_ HO211.out) (by decide)) hk) (Kd.R_base ho0)) (fun _ h_ => h_.1))
     have n3_ := am_ (KeepBut.blk hk (g' := gb214) (o := .cells #[.int .i64 t207, .int .i64 t208, .slice Ao20 t209.length co20] 28 (0, 0)) (bk_ BK214.out) NB214_206.out (by simp))
     have n4_ := am_ (Kd.R_lower (Kd.R_new' ho0 (Kd.R_lt (rk_ HO211.out))) (below_size (bi75_ HB.out)))
     have n5_ := am_ (hb)
     have n6_ := am_ (hi)
     clear BK201 BK202 HO211 BK214 HB HI206; revert n0_ n1_ n2_ n3_ n4_ n5_ n6_; intro BK201 BK202 HO211 BK214 HO222 HB HI206
     (try clear hb)
     (try clear hb2)
     (try clear hk)
     (try clear hi)
     (try clear ho0)
     refine hK.out _ _ ⟨bc_ BK214 0, bc_ BK214 1, bc_ BK214 2⟩ (fun hHeld => ?_)
     clear hK K
     refine norm_ (a' := ?_) ?_ ?_
     rotate_left
     ·show Act.put _ (some 19) _ = _
      simp only [Act.put, List.setIfInBounds_toArray, List.set_cons_zero, List.set_cons_succ, i64_w, i32_w]
      rfl
     refine one_ (i := 8) (N := some 6) #[true, true, true, true, true, true, true, true, true, false] rfl rfl (one_of HT_.out (by kernel_rfl)) (by decide) (fun K hK => ?_)
     refine box_step ?hg (N := 6) ?hd (cs := #[.int .i64 0, .int .i64 0, .slice none 0 0]) (t := 28) ?hr ?_; (case hd => rfl); (case hg => rfl); (case hr => first | (go_simp; done) | (go_simp; rfl))
     intro gb225 hg w25 hbox hb
     have n0_ := am_ (Kd.R_below (rk_ HO211.out) hb)
     have n1_ := am_ (Kd.R_below (rk_ HO222.out) hb)
     have n2_ := am_ (bw_ BK201 hb)
     have n3_ := am_ (bw_ BK202 hb)
     have n4_ := am_ (IsS75.below (is75_ HI206) hb)
     have n5_ := am_ (bw_ BK214 hb)
     have n6_ := am_ (below_step (bi75_ HB.out) hb)
     have n7_ := am_ (hbox)
     have n8_ := am_ ((by rw [hg]; exact (below_size (bi75_ HB.out)) : w.heap.size ≤ gb225))
     have n9_ := am_ ((by rw [hg]; exact (below_size (bi75_ HB.out)) : w.heap.size ≤ gb225))
     have n10_ := am_ (nl_ BK201 hg)
     have n11_ := am_ (ng_ BK201 hg)
     have n12_ := am_ (nl_ BK202 hg)
     have n13_ := am_ (ng_ BK202 hg)
     have n14_ := am_ (nl_ BK214 hg)
     have n15_ := am_ (ng_ BK214 hg)
     have n16_ := am_ ((by rw [hg]; exact Nat.ne_of_lt (IsS75.lt (show IsS75 w _ g206 t203 t223 t224 from is75_ HI206)) : g206 ≠ gb225))
     have n17_ := am_ ((by rw [hg]; exact Nat.ne_of_gt (IsS75.lt (show IsS75 w _ g206 t203 t223 t224 from is75_ HI206)) : gb225 ≠ g206))
     clear HO211 HO222 BK201 BK202 HI206 BK214 HB; revert n0_ n1_ n2_ n3_ n4_ n5_ n6_ n7_ n8_ n9_ n10_ n11_ n12_ n13_ n14_ n15_ n16_ n17_; intro HO211 HO222 BK201 BK202 HI206 BK214 HB BK225 GW225 GE225 NB201_225 NB225_201 NB202_225 NB225_202 NB214_225 NB225_214 NB206_225 NB225_206
     clear hb hbox hg
     refine hK.out _ _ ⟨bc_ BK214 0, bc_ BK214 1, bc_ BK214 2⟩ (fun hHeld => ?_)
     clear hK K
     refine norm_ (a' := ?_) ?_ ?_
     rotate_left
     ·show Act.put _ (some 6) _ = _
      simp only [Act.put, List.setIfInBounds_toArray, List.set_cons_zero, List.set_cons_succ, i64_w, i32_w]
      rfl
     exact norm_ (by simp only [putAll, Act.put, List.setIfInBounds_toArray, List.set_cons_zero, List.set_cons_succ]) (hCont (v221, gb225) _ ⟨hHeld, (rm_ HO211.out (fun _ hk => hk.2)), (rm_ HO222.out (fun _ hk => hk.2)), (bk_ BK201.out), (bk_ BK202.out), (bk_ BK214.out), (bk_ BK225.out), GW225.out, GE225.out, NB206_225.out, NB225_206.out, NB201_225.out, NB225_201.out, NB202_225.out, NB225_202.out, NB214_225.out, NB225_214.out, (is75_ HI206), (bi75_ HB.out)⟩)
    ·skip
     refine box_step ?hg (N := 6) ?hd (cs := #[.int .i64 0, .int .i64 0, .slice none 0 0]) (t := 28) ?hr ?_; (case hd => rfl); (case hg => rfl); (case hr => first | (go_simp; done) | (go_simp; rfl))
     intro gb225 hg w24 hbox hb
     have n0_ := am_ (Kd.R_below (rk_ HO211.out) hb)
     have n1_ := am_ (bw_ BK201 hb)
     have n2_ := am_ (bw_ BK202 hb)
     have n3_ := am_ (IsS75.below (is75_ HI206) hb)
     have n4_ := am_ (bw_ BK214 hb)
     have n5_ := am_ (below_step (bi75_ HB.out) hb)
     have n6_ := am_ (hbox)
     have n7_ := am_ ((by rw [hg]; exact (below_size (bi75_ HB.out)) : w.heap.size ≤ gb225))
     have n8_ := am_ ((by rw [hg]; exact (below_size (bi75_ HB.out)) : w.heap.size ≤ gb225))
     have n9_ := am_ (nl_ BK201 hg)
     have n10_ := am_ (ng_ BK201 hg)
     have n11_ := am_ (nl_ BK202 hg)
     have n12_ := am_ (ng_ BK202 hg)
     have n13_ := am_ (nl_ BK214 hg)
     have n14_ := am_ (ng_ BK214 hg)
     have n15_ := am_ ((by rw [hg]; exact Nat.ne_of_lt (IsS75.lt (show IsS75 w _ g206 t203 t216 t217 from is75_ HI206)) : g206 ≠ gb225))
     have n16_ := am_ ((by rw [hg]; exact Nat.ne_of_gt (IsS75.lt (show IsS75 w _ g206 t203 t216 t217 from is75_ HI206)) : gb225 ≠ g206))
     clear HO211 BK201 BK202 HI206 BK214 HB; revert n0_ n1_ n2_ n3_ n4_ n5_ n6_ n7_ n8_ n9_ n10_ n11_ n12_ n13_ n14_ n15_ n16_; intro HO211 BK201 BK202 HI206 BK214 HB BK225 GW225 GE225 NB201_225 NB225_201 NB202_225 NB225_202 NB214_225 NB225_214 NB206_225 NB225_206
     clear hb hbox hg
     refine hK.out _ _ ⟨bc_ BK214 0, bc_ BK214 1, bc_ BK214 2⟩ (fun hHeld => ?_)
     clear hK K
     refine norm_ (a' := ?_) ?_ ?_
     rotate_left
     ·show Act.put _ (some 6) _ = _
      simp only [Act.put, List.setIfInBounds_toArray, List.set_cons_zero, List.set_cons_succ, i64_w, i32_w]
      rfl
     refine one_ (i := 7) (N := some 19) #[true, true, true, true, true, true, true, true, true, false] rfl rfl (one_of HT_.out (by kernel_rfl)) (by decide) (fun K hK => ?_)
     refine goes_ Try.func34 (by kernel_rfl) rfl #[.pointer (some ⟨g206, 0, none⟩), .int .i64 ji5, .int .i64 t215] (by rfl) rfl rfl (by (try simp only [List.map_toArray, List.map_cons, List.map_nil]); first | done | (simp only [hji5]; rfl) | rfl | (simp only [List.length_drop, List.length_take]; rfl)) ?_
     with_reducible refine (spec_l01DrawSize.calls k g206 t203 t216 t217 ji5 t215 t218 t219 t220 t223 t224 w _ ?side1 ?side2 A7.out).mono ?_
     (case side1 => exact is75_ HI206)
     (case side2 => exact bi75_ HB.out)
     rintro e w25 ⟨v221, rfl, ho0, hi, hb, hk⟩
     refine ⟨_, rfl, ?_⟩
     have n0_ := am_ (KeepBut.blk hk (g' := gb201) (o := .cells #[.int .i64 0, .int .i64 0, .slice none 0 0] 28 (0, 0)) (bk_ BK201.out) NB201_206.out (by simp))
     have n1_ := am_ (KeepBut.blk hk (g' := gb202) (o := .cells #[.int .i64 0, .int .i64 0, .slice none 0 0] 28 (0, 0)) (bk_ BK202.out) NB202_206.out (by simp))
     have n2_ := am_ (Kd.R_mono (Kd.R_told (Kd.R_oldK (IsS75.apart (show IsS75 w _ g206 t203 t216 t217 from is75_ HI206) (rk_ HO211.out) (by decide)) hk) (Kd.R_base ho0)) (fun _ h_ => h_.1))
     have n3_ := am_ (KeepBut.blk hk (g' := gb214) (o := .cells #[.int .i64 t207, .int .i64 t208, .slice Ao20 t209.length co20] 28 (0, 0)) (bk_ BK214.out) NB214_206.out (by simp))
     have n4_ := am_ (KeepBut.blk hk (g' := gb225) (o := .cells #[.int .i64 0, .int .i64 0, .slice none 0 0] 28 (0, 0)) (bk_ BK225.out) NB225_206.out (by simp))
     have n5_ := am_ (Kd.R_lower (Kd.R_new' ho0 (Kd.R_lt (rk_ HO211.out))) (below_size (bi75_ HB.out)))
     have n6_ := am_ (hb)
     have n7_ := am_ (hi)
     clear BK201 BK202 HO211 BK214 BK225 HB HI206; revert n0_ n1_ n2_ n3_ n4_ n5_ n6_ n7_; intro BK201 BK202 HO211 BK214 BK225 HO222 HB HI206
     (try clear hb)
     (try clear hb2)
     (try clear hk)
     (try clear hi)
     (try clear ho0)
     refine hK.out _ _ ⟨bc_ BK214 0, bc_ BK214 1, bc_ BK214 2⟩ (fun hHeld => ?_)
     clear hK K
     refine norm_ (a' := ?_) ?_ ?_
     rotate_left
     ·show Act.put _ (some 19) _ = _
      simp only [Act.put, List.setIfInBounds_toArray, List.set_cons_zero, List.set_cons_succ, i64_w, i32_w]
      rfl
     exact norm_ (by simp only [putAll, Act.put, List.setIfInBounds_toArray, List.set_cons_zero, List.set_cons_succ]) (hCont (v221, gb225) _ ⟨hHeld, (rm_ HO211.out (fun _ hk => hk.2)), (rm_ HO222.out (fun _ hk => hk.2)), (bk_ BK201.out), (bk_ BK202.out), (bk_ BK214.out), (bk_ BK225.out), GW225.out, GE225.out, NB206_225.out, NB225_206.out, NB201_225.out, NB225_201.out, NB202_225.out, NB225_202.out, NB214_225.out, NB225_214.out, (is75_ HI206), (bi75_ HB.out)⟩)
   ·skip
    refine box_step ?hg (N := 6) ?hd (cs := #[.int .i64 0, .int .i64 0, .slice none 0 0]) (t := 28) ?hr ?_; (case hd => rfl); (case hg => rfl); (case hr => first | (go_simp; done) | (go_simp; rfl))
    intro gb225 hg w23 hbox hb
    have n0_ := am_ (Kd.R_below (rk_ HO211.out) hb)
    have n1_ := am_ (bw_ BK201 hb)
    have n2_ := am_ (bw_ BK202 hb)
    have n3_ := am_ (IsS75.below (is75_ HI206) hb)
    have n4_ := am_ (bw_ BK214 hb)
    have n5_ := am_ (below_step (bi75_ HB.out) hb)
    have n6_ := am_ (hbox)
    have n7_ := am_ ((by rw [hg]; exact (below_size (bi75_ HB.out)) : w.heap.size ≤ gb225))
    have n8_ := am_ ((by rw [hg]; exact (below_size (bi75_ HB.out)) : w.heap.size ≤ gb225))
    have n9_ := am_ (nl_ BK201 hg)
    have n10_ := am_ (ng_ BK201 hg)
    have n11_ := am_ (nl_ BK202 hg)
    have n12_ := am_ (ng_ BK202 hg)
    have n13_ := am_ (nl_ BK214 hg)
    have n14_ := am_ (ng_ BK214 hg)
    have n15_ := am_ ((by rw [hg]; exact Nat.ne_of_lt (IsS75.lt (show IsS75 w _ g206 t203 t212 t213 from is75_ HI206)) : g206 ≠ gb225))
    have n16_ := am_ ((by rw [hg]; exact Nat.ne_of_gt (IsS75.lt (show IsS75 w _ g206 t203 t212 t213 from is75_ HI206)) : gb225 ≠ g206))
    clear HO211 BK201 BK202 HI206 BK214 HB; revert n0_ n1_ n2_ n3_ n4_ n5_ n6_ n7_ n8_ n9_ n10_ n11_ n12_ n13_ n14_ n15_ n16_; intro HO211 BK201 BK202 HI206 BK214 HB BK225 GW225 GE225 NB201_225 NB225_201 NB202_225 NB225_202 NB214_225 NB225_214 NB206_225 NB225_206
    clear hb hbox hg
    refine hK.out _ _ ⟨bc_ BK214 0, bc_ BK214 1, bc_ BK214 2⟩ (fun hHeld => ?_)
    clear hK K
    refine norm_ (a' := ?_) ?_ ?_
    rotate_left
    ·show Act.put _ (some 6) _ = _
     simp only [Act.put, List.setIfInBounds_toArray, List.set_cons_zero, List.set_cons_succ, i64_w, i32_w]
     rfl
    refine one_ (i := 6) (N := some 18) #[true, true, true, true, true, true, true, false, true, false] rfl rfl (one_of HT_.out (by kernel_rfl)) (by decide) (fun K hK => ?_)
    refine goes_ Try.func35 (by kernel_rfl) rfl #[.pointer (some ⟨g206, 0, none⟩), .int .i64 5] (by rfl) rfl rfl lm_ ?_
    with_reducible refine (spec_l01Next.calls g206 t203 t212 t213 5 t215 t216 t217 w _ ?side1 ?side2 A6.out).mono ?_
    (case side1 => exact is75_ HI206)
    (case side2 => exact bi75_ HB.out)
    rintro e w24 ⟨rfl, hi, hb, hk⟩
    refine ⟨_, rfl, ?_⟩
    have n0_ := am_ (KeepBut.blk hk (g' := gb201) (o := .cells #[.int .i64 0, .int .i64 0, .slice none 0 0] 28 (0, 0)) (bk_ BK201.out) NB201_206.out (by simp))
    have n1_ := am_ (KeepBut.blk hk (g' := gb202) (o := .cells #[.int .i64 0, .int .i64 0, .slice none 0 0] 28 (0, 0)) (bk_ BK202.out) NB202_206.out (by simp))
    have n2_ := am_ (Kd.R_mono (Kd.R_keep (IsS75.apart (show IsS75 w _ g206 t203 t212 t213 from is75_ HI206) (rk_ HO211.out) (by decide)) hk (fun _ h => h.2)) (fun _ h => h.1))
    have n3_ := am_ (KeepBut.blk hk (g' := gb214) (o := .cells #[.int .i64 t207, .int .i64 t208, .slice Ao20 t209.length co20] 28 (0, 0)) (bk_ BK214.out) NB214_206.out (by simp))
    have n4_ := am_ (KeepBut.blk hk (g' := gb225) (o := .cells #[.int .i64 0, .int .i64 0, .slice none 0 0] 28 (0, 0)) (bk_ BK225.out) NB225_206.out (by simp))
    have n5_ := am_ (hb)
    have n6_ := am_ (hi)
    clear BK201 BK202 HO211 BK214 BK225 HB HI206; revert n0_ n1_ n2_ n3_ n4_ n5_ n6_; intro BK201 BK202 HO211 BK214 BK225 HB HI206
    (try clear hb)
    (try clear hb2)
    (try clear hk)
    (try clear hi)
    refine hK.out _ _ ⟨bc_ BK214 0, bc_ BK214 1, bc_ BK214 2⟩ (fun hHeld => ?_)
    clear hK K
    refine norm_ (a' := ?_) ?_ ?_
    rotate_left
    ·show Act.put _ (some 18) _ = _
     simp only [Act.put, List.setIfInBounds_toArray, List.set_cons_zero, List.set_cons_succ, i64_w, i32_w]
     rfl
    refine one_ (i := 7) (N := some 19) #[true, true, true, true, true, true, true, true, true, false] rfl rfl (one_of HT_.out (by kernel_rfl)) (by decide) (fun K hK => ?_)
    refine goes_ Try.func34 (by kernel_rfl) rfl #[.pointer (some ⟨g206, 0, none⟩), .int .i64 ji5, .int .i64 t215] (by rfl) rfl rfl (by (try simp only [List.map_toArray, List.map_cons, List.map_nil]); first | done | (simp only [hji5]; rfl) | rfl | (simp only [List.length_drop, List.length_take]; rfl)) ?_
    with_reducible refine (spec_l01DrawSize.calls k g206 t203 t216 t217 ji5 t215 t218 t219 t220 t223 t224 w _ ?side1 ?side2 A7.out).mono ?_
    (case side1 => exact is75_ HI206)
    (case side2 => exact bi75_ HB.out)
    rintro e w25 ⟨v221, rfl, ho0, hi, hb, hk⟩
    refine ⟨_, rfl, ?_⟩
    have n0_ := am_ (KeepBut.blk hk (g' := gb201) (o := .cells #[.int .i64 0, .int .i64 0, .slice none 0 0] 28 (0, 0)) (bk_ BK201.out) NB201_206.out (by simp))
    have n1_ := am_ (KeepBut.blk hk (g' := gb202) (o := .cells #[.int .i64 0, .int .i64 0, .slice none 0 0] 28 (0, 0)) (bk_ BK202.out) NB202_206.out (by simp))
    have n2_ := am_ (Kd.R_mono (Kd.R_told (Kd.R_oldK (IsS75.apart (show IsS75 w _ g206 t203 t216 t217 from is75_ HI206) (rk_ HO211.out) (by decide)) hk) (Kd.R_base ho0)) (fun _ h_ => h_.1))
    have n3_ := am_ (KeepBut.blk hk (g' := gb214) (o := .cells #[.int .i64 t207, .int .i64 t208, .slice Ao20 t209.length co20] 28 (0, 0)) (bk_ BK214.out) NB214_206.out (by simp))
    have n4_ := am_ (KeepBut.blk hk (g' := gb225) (o := .cells #[.int .i64 0, .int .i64 0, .slice none 0 0] 28 (0, 0)) (bk_ BK225.out) NB225_206.out (by simp))
    have n5_ := am_ (Kd.R_lower (Kd.R_new' ho0 (Kd.R_lt (rk_ HO211.out))) (below_size (bi75_ HB.out)))
    have n6_ := am_ (hb)
    have n7_ := am_ (hi)
    clear BK201 BK202 HO211 BK214 BK225 HB HI206; revert n0_ n1_ n2_ n3_ n4_ n5_ n6_ n7_; intro BK201 BK202 HO211 BK214 BK225 HO222 HB HI206
    (try clear hb)
    (try clear hb2)
    (try clear hk)
    (try clear hi)
    (try clear ho0)
    refine hK.out _ _ ⟨bc_ BK214 0, bc_ BK214 1, bc_ BK214 2⟩ (fun hHeld => ?_)
    clear hK K
    refine norm_ (a' := ?_) ?_ ?_
    rotate_left
    ·show Act.put _ (some 19) _ = _
     simp only [Act.put, List.setIfInBounds_toArray, List.set_cons_zero, List.set_cons_succ, i64_w, i32_w]
     rfl
    exact norm_ (by simp only [putAll, Act.put, List.setIfInBounds_toArray, List.set_cons_zero, List.set_cons_succ]) (hCont (v221, gb225) _ ⟨hHeld, (rm_ HO211.out (fun _ hk => hk.2)), (rm_ HO222.out (fun _ hk => hk.2)), (bk_ BK201.out), (bk_ BK202.out), (bk_ BK214.out), (bk_ BK225.out), GW225.out, GE225.out, NB206_225.out, NB225_206.out, NB201_225.out, NB225_201.out, NB202_225.out, NB225_202.out, NB214_225.out, NB225_214.out, (is75_ HI206), (bi75_ HB.out)⟩)
  rintro ⟨v221, gb225⟩ w26 ⟨hS_, h0_, h1_, h2_, h3_, h4_, h5_, h6_, h7_, h8_, h9_, h10_, h11_, h12_, h13_, h14_, h15_, h16_, h17_⟩
  have n0_ : Aside0 (Kd.R (Kd.int .i64) 2 w26 w.heap.size (fun k_ => some k_ ≠ (v221 : Value).ownBlock) (.slice Ao20 t209.length co20) t209) := ⟨h0_⟩
  have n1_ : Aside0 (Kd.R (Kd.int .i64) 2 w26 w.heap.size (fun k_ => some k_ ≠ (.slice Ao20 t209.length co20 : Value).ownBlock) v221 t220) := ⟨h1_⟩
  have n2_ : Aside0 (w26.heap[gb201]? = some (.cells #[.int .i64 0, .int .i64 0, .slice none 0 0] 28 (0, 0))) := ⟨h2_⟩
  have n3_ : Aside0 (w26.heap[gb202]? = some (.cells #[.int .i64 0, .int .i64 0, .slice none 0 0] 28 (0, 0))) := ⟨h3_⟩
  have n4_ : Aside0 (w26.heap[gb214]? = some (.cells #[.int .i64 t207, .int .i64 t208, .slice Ao20 t209.length co20] 28 (0, 0))) := ⟨h4_⟩
  have n5_ : Aside0 (w26.heap[gb225]? = some (.cells #[.int .i64 0, .int .i64 0, .slice none 0 0] 28 (0, 0))) := ⟨h5_⟩
  have n6_ : Aside0 (w.heap.size ≤ gb225) := ⟨h6_⟩
  have n7_ : Aside0 (w.heap.size ≤ gb225) := ⟨h7_⟩
  have n8_ : Aside0 (g206 ≠ gb225) := ⟨h8_⟩
  have n9_ : Aside0 (gb225 ≠ g206) := ⟨h9_⟩
  have n10_ : Aside0 (gb201 ≠ gb225) := ⟨h10_⟩
  have n11_ : Aside0 (gb225 ≠ gb201) := ⟨h11_⟩
  have n12_ : Aside0 (gb202 ≠ gb225) := ⟨h12_⟩
  have n13_ : Aside0 (gb225 ≠ gb202) := ⟨h13_⟩
  have n14_ : Aside0 (gb214 ≠ gb225) := ⟨h14_⟩
  have n15_ : Aside0 (gb225 ≠ gb214) := ⟨h15_⟩
  have n16_ : Aside0 (IsS75 w w26 g206 t203 t223 t224) := ⟨h16_⟩
  have n17_ : Aside0 (Below w.heap.size w w26) := ⟨h17_⟩
  clear HO211
  clear BK201
  clear BK202
  clear BK214
  clear HI206
  clear HB
  clear h0_ h1_ h2_ h3_ h4_ h5_ h6_ h7_ h8_ h9_ h10_ h11_ h12_ h13_ h14_ h15_ h16_ h17_
  have HO211 := n0_
  have HO222 := n1_
  have BK201 := n2_
  have BK202 := n3_
  have BK214 := n4_
  have BK225 := n5_
  have GW225 := n6_
  have GE225 := n7_
  have NB206_225 := n8_
  have NB225_206 := n9_
  have NB201_225 := n10_
  have NB225_201 := n11_
  have NB202_225 := n12_
  have NB225_202 := n13_
  have NB214_225 := n14_
  have NB225_214 := n15_
  have HI206 := n16_
  have HB := n17_
  clear n0_ n1_ n2_ n3_ n4_ n5_ n6_ n7_ n8_ n9_ n10_ n11_ n12_ n13_ n14_ n15_ n16_ n17_
  have hHeld : w26.cell? ⟨gb214, 0, none⟩ = some (.int .i64 t207) ∧ w26.cell? ⟨gb214, 1, none⟩ = some (.int .i64 t208) ∧ w26.cell? ⟨gb214, 2, none⟩ = some (.slice Ao20 t209.length co20) := hS_
  obtain ⟨Ao29, co29, eo29⟩ := Kd.R_slice HO222.out
  (first | subst eo29 | (injection eo29 with f1_ f2_ f3_; have f4_ := f1_.symm; have f5_ := f3_.symm; clear f1_ f2_ f3_; subst f4_; subst f5_))
  refine norm_ (a' := ?_) ?_ ?_
  rotate_left
  ·simp only [putAll, Act.put, List.setIfInBounds_toArray, List.set_cons_zero, List.set_cons_succ]
   rfl
  refine one_ (i := 9) (N := none) #[true, true, true, true, true, true, true, true, true, true] rfl rfl (one_of HT_.out (by kernel_rfl)) (by decide) (fun K hK => ?_)
  have hs27 : w26.cell? ⟨gb225, 0, none⟩ = some (.int .i64 0) := bc_ BK225 0
  have hfs27 := blk_frozen BK225.out 0
  have hns27_0 := NB201_225.out
  have hns27_1 := NB202_225.out
  have hns27_2 := NB214_225.out
  have hms27_0 := NB225_201.out
  have hms27_1 := NB225_202.out
  have hms27_2 := NB225_214.out
  have hs28 : w26.cell? ⟨gb225, 1, none⟩ = some (.int .i64 0) := bc_ BK225 1
  have hfs28 := blk_frozen BK225.out 1
  have hns28_0 := NB201_225.out
  have hns28_1 := NB202_225.out
  have hns28_2 := NB214_225.out
  have hms28_0 := NB225_201.out
  have hms28_1 := NB225_202.out
  have hms28_2 := NB225_214.out
  have hs30 : w26.cell? ⟨gb225, 2, none⟩ = some (.slice none 0 0) := bc_ BK225 2
  have hfs30 := blk_frozen BK225.out 2
  have hns30_0 := NB201_225.out
  have hns30_1 := NB202_225.out
  have hns30_2 := NB214_225.out
  have hms30_0 := NB225_201.out
  have hms30_1 := NB225_202.out
  have hms30_2 := NB225_214.out
  refine skip_ (w1 := ?_) (by rfl) rfl ?_ ?_
  rotate_left
  ·go_simp
   rfl
  refine hK.out _ _ ⟨((cell_far (p := ⟨gb225, _, none⟩) NB214_225.out _).trans (((cell_far (p := ⟨gb225, _, none⟩) NB214_225.out _).trans (((cell_far (p := ⟨gb225, _, none⟩) NB214_225.out _).trans (hHeld.1)))))), ((cell_far (p := ⟨gb225, _, none⟩) NB214_225.out _).trans (((cell_far (p := ⟨gb225, _, none⟩) NB214_225.out _).trans (((cell_far (p := ⟨gb225, _, none⟩) NB214_225.out _).trans (hHeld.2.1)))))), ((cell_far (p := ⟨gb225, _, none⟩) NB214_225.out _).trans (((cell_far (p := ⟨gb225, _, none⟩) NB214_225.out _).trans (((cell_far (p := ⟨gb225, _, none⟩) NB214_225.out _).trans (hHeld.2.2))))))⟩ (fun hHeld => ?_)
  clear hK K
  refine done_ (done_of HT_.out (by kernel_rfl)) ?_
  try go_wp2_with (first | ((with_reducible refine gate_callee (f := 35) rfl ?_); refine goesL_ (some 21) rfl rfl Try.func35 (by kernel_rfl) rfl #[.pointer (some ⟨g206, 0, none⟩), .int .i64 10] rfl lm_ ?_; (with_reducible refine (spec_l01Next.calls g206 t203 t223 t224 10 t226 t227 t228 w _ ?side1 ?side2 A8.out).mono ?_); (case side1 => exact is75_ HI206); (case side2 => exact bi75_ HB.out); rintro e w31 ⟨rfl, hi, hb, hk⟩; refine ⟨_, rfl, ?_⟩; have n0_ := am_ (KeepBut.blk hk (g' := gb201) (o := .cells #[.int .i64 0, .int .i64 0, .slice none 0 0] 28 (0, 0)) (bk_ BK201.out) NB201_206.out (by simp)); have n1_ := am_ (KeepBut.blk hk (g' := gb202) (o := .cells #[.int .i64 0, .int .i64 0, .slice none 0 0] 28 (0, 0)) (bk_ BK202.out) NB202_206.out (by simp)); have n2_ := am_ (Kd.R_mono (Kd.R_keep (IsS75.apart (show IsS75 w _ g206 t203 t223 t224 from is75_ HI206) ((rm_ (Kd.R_far (p := ⟨gb225, 2, none⟩) (Kd.R_far (p := ⟨gb225, 1, none⟩) (Kd.R_far (p := ⟨gb225, 0, none⟩) (Kd.R_types HO211.out BK225.out (by decide)) (fun _ hk => hk.2) (.int .i64 t218)) (fun _ hk => hk.2) (.int .i64 t219)) (fun _ hk => hk.2) (.slice Ao29 t220.length co29)) (fun _ h_ => h_.1))) (by decide)) hk (fun _ h => h.2)) (fun _ h => h.1)); have n3_ := am_ (KeepBut.blk hk (g' := gb214) (o := .cells #[.int .i64 t207, .int .i64 t208, .slice Ao20 t209.length co20] 28 (0, 0)) (bk_ BK214.out) NB214_206.out (by simp)); have n4_ := am_ (Kd.R_mono (Kd.R_keep (IsS75.apart (show IsS75 w _ g206 t203 t223 t224 from is75_ HI206) ((rm_ (Kd.R_far (p := ⟨gb225, 2, none⟩) (Kd.R_far (p := ⟨gb225, 1, none⟩) (Kd.R_far (p := ⟨gb225, 0, none⟩) (Kd.R_types HO222.out BK225.out (by decide)) (fun _ hk => hk.2) (.int .i64 t218)) (fun _ hk => hk.2) (.int .i64 t219)) (fun _ hk => hk.2) (.slice Ao29 t220.length co29)) (fun _ h_ => h_.1))) (by decide)) hk (fun _ h => h.2)) (fun _ h => h.1)); have n5_ := am_ (KeepBut.blk hk (g' := gb225) (o := .cells #[.int .i64 t218, .int .i64 t219, .slice Ao29 t220.length co29] 28 (0, 0)) (by (with_reducible repeat (first | refine blk_drewN ?_ _ | refine blk_drew ?_ | refine blk_alloc ?_ _)); refine blk_put (cs := #[.int .i64 t218, .int .i64 t219, .slice none 0 0]) ?_ 2 _ rfl; (with_reducible repeat (first | refine blk_drewN ?_ _ | refine blk_drew ?_ | refine blk_alloc ?_ _)); refine blk_put (cs := #[.int .i64 t218, .int .i64 0, .slice none 0 0]) ?_ 1 _ rfl; (with_reducible repeat (first | refine blk_drewN ?_ _ | refine blk_drew ?_ | refine blk_alloc ?_ _)); refine blk_put (cs := #[.int .i64 0, .int .i64 0, .slice none 0 0]) ?_ 0 _ rfl; (with_reducible repeat (first | refine blk_drewN ?_ _ | refine blk_drew ?_ | refine blk_alloc ?_ _)); exact BK225.out) NB225_206.out (by simp)); have n6_ := am_ (hb); have n7_ := am_ (hi); clear BK201 BK202 HO211 BK214 HO222 BK225 HB HI206; revert n0_ n1_ n2_ n3_ n4_ n5_ n6_ n7_; intro BK201 BK202 HO211 BK214 HO222 BK225 HB HI206; (try clear hb); (try clear hb2); (try clear hk); (try clear hi)) | ((with_reducible refine gate_callee (f := 33) rfl ?_); refine goesL_ (some 25) rfl rfl Try.func33 (by kernel_rfl) rfl #[.pointer (some ⟨g206, 0, none⟩)] rfl lm_ ?_; (with_reducible refine (spec_l01DrawMatrix.calls k g206 t203 t227 t228 t229 t230 t231 t234 t235 w _ ?side1 ?side2 A10.out).mono ?_); (case side1 => exact is75_ HI206); (case side2 => exact bi75_ HB.out); rintro e w32 ⟨v232, rfl, ho0, hi, hb, hk⟩; refine ⟨_, rfl, ?_⟩; have n0_ := am_ (KeepBut.blk hk (g' := gb201) (o := .cells #[.int .i64 0, .int .i64 0, .slice none 0 0] 28 (0, 0)) (bk_ BK201.out) NB201_206.out (by simp)); have n1_ := am_ (KeepBut.blk hk (g' := gb202) (o := .cells #[.int .i64 0, .int .i64 0, .slice none 0 0] 28 (0, 0)) (bk_ BK202.out) NB202_206.out (by simp)); have n2_ := am_ (Kd.R_mono (Kd.R_told (Kd.R_oldK (IsS75.apart (show IsS75 w _ g206 t203 t227 t228 from is75_ HI206) (rk_ HO211.out) (by decide)) hk) (Kd.R_base ho0)) (fun _ h_ => h_.1)); have n3_ := am_ (KeepBut.blk hk (g' := gb214) (o := .cells #[.int .i64 t207, .int .i64 t208, .slice Ao20 t209.length co20] 28 (0, 0)) (bk_ BK214.out) NB214_206.out (by simp)); have n4_ := am_ (Kd.R_mono (Kd.R_told (Kd.R_oldK (IsS75.apart (show IsS75 w _ g206 t203 t227 t228 from is75_ HI206) (rk_ HO222.out) (by decide)) hk) (Kd.R_base ho0)) (fun _ h_ => h_.1)); have n5_ := am_ (KeepBut.blk hk (g' := gb225) (o := .cells #[.int .i64 t218, .int .i64 t219, .slice Ao29 t220.length co29] 28 (0, 0)) (bk_ BK225.out) NB225_206.out (by simp)); have n6_ := am_ (Kd.R_lower (Kd.R_new' (Kd.R_new' ho0 (Kd.R_lt (rk_ HO211.out))) (Kd.R_lt (rk_ HO222.out))) (below_size (bi75_ HB.out))); have n7_ := am_ (hb); have n8_ := am_ (hi); clear BK201 BK202 HO211 BK214 HO222 BK225 HB HI206; revert n0_ n1_ n2_ n3_ n4_ n5_ n6_ n7_ n8_; intro BK201 BK202 HO211 BK214 HO222 BK225 HO233 HB HI206; (try clear hb); (try clear hb2); (try clear hk); (try clear hi); (try clear ho0); have hnb33 := NB225_201.out; have hnc33 := NB201_225.out; have hnb34 := NB225_202.out; have hnc34 := NB202_225.out; have hnb35 := NB225_214.out; have hnc35 := NB214_225.out; have hnb36 := NB225_206.out; have hnc36 := NB206_225.out; have hcz37_0 : w32.cell? ⟨gb225, 0, none⟩ = some (.int .i64 t218) := bc_ BK225 0; have hcz37_1 : w32.cell? ⟨gb225, 1, none⟩ = some (.int .i64 t219) := bc_ BK225 1; have hcz37_2 : w32.cell? ⟨gb225, 2, none⟩ = some (.slice Ao29 t220.length co29) := bc_ BK225 2; have hfz37_0 := blk_frozen BK225.out 0; have hfz37_1 := blk_frozen BK225.out 1; have hfz37_2 := blk_frozen BK225.out 2; obtain ⟨Ao38, co38, eo38⟩ := Kd.R_slice HO233.out; subst eo38))
  have n0_ : Aside0 (Kd.R (Kd.int .i64) 2 (((w32.setCell ⟨gb225, 0, none⟩ (.int .i64 t229)).setCell ⟨gb225, 1, none⟩ (.int .i64 t230)).setCell ⟨gb225, 2, none⟩ (.slice Ao38 t231.length co38)) w.heap.size (fun k_ => some k_ ≠ (.slice Ao29 t220.length co29 : Value).ownBlock ∧ some k_ ≠ (.slice Ao38 t231.length co38 : Value).ownBlock) (.slice Ao20 t209.length co20) t209) := ⟨rm_ (Kd.R_far (p := ⟨gb225, 2, none⟩) (Kd.R_far (p := ⟨gb225, 1, none⟩) (Kd.R_far (p := ⟨gb225, 0, none⟩) (Kd.R_types HO211.out BK225.out (by decide)) (fun _ hk => hk.2) (.int .i64 t229)) (fun _ hk => hk.2) (.int .i64 t230)) (fun _ hk => hk.2) (.slice Ao38 t231.length co38)) (fun _ hk => ⟨hk.1.1, hk.1.2⟩)⟩
  have n1_ : Aside0 (Kd.R (Kd.int .i64) 2 (((w32.setCell ⟨gb225, 0, none⟩ (.int .i64 t229)).setCell ⟨gb225, 1, none⟩ (.int .i64 t230)).setCell ⟨gb225, 2, none⟩ (.slice Ao38 t231.length co38)) w.heap.size (fun k_ => some k_ ≠ (.slice Ao20 t209.length co20 : Value).ownBlock ∧ some k_ ≠ (.slice Ao38 t231.length co38 : Value).ownBlock) (.slice Ao29 t220.length co29) t220) := ⟨rm_ (Kd.R_far (p := ⟨gb225, 2, none⟩) (Kd.R_far (p := ⟨gb225, 1, none⟩) (Kd.R_far (p := ⟨gb225, 0, none⟩) (Kd.R_types HO222.out BK225.out (by decide)) (fun _ hk => hk.2) (.int .i64 t229)) (fun _ hk => hk.2) (.int .i64 t230)) (fun _ hk => hk.2) (.slice Ao38 t231.length co38)) (fun _ hk => ⟨hk.1.1, hk.1.2⟩)⟩
  have n2_ : Aside0 (Kd.R (Kd.int .i64) 2 (((w32.setCell ⟨gb225, 0, none⟩ (.int .i64 t229)).setCell ⟨gb225, 1, none⟩ (.int .i64 t230)).setCell ⟨gb225, 2, none⟩ (.slice Ao38 t231.length co38)) w.heap.size (fun k_ => some k_ ≠ (.slice Ao20 t209.length co20 : Value).ownBlock ∧ some k_ ≠ (.slice Ao29 t220.length co29 : Value).ownBlock) (.slice Ao38 t231.length co38) t231) := ⟨rm_ (Kd.R_far (p := ⟨gb225, 2, none⟩) (Kd.R_far (p := ⟨gb225, 1, none⟩) (Kd.R_far (p := ⟨gb225, 0, none⟩) (Kd.R_types HO233.out BK225.out (by decide)) (fun _ hk => hk.2) (.int .i64 t229)) (fun _ hk => hk.2) (.int .i64 t230)) (fun _ hk => hk.2) (.slice Ao38 t231.length co38)) (fun _ hk => ⟨hk.1.1.2, hk.1.2⟩)⟩
  have n3_ : Aside0 ((((w32.setCell ⟨gb225, 0, none⟩ (.int .i64 t229)).setCell ⟨gb225, 1, none⟩ (.int .i64 t230)).setCell ⟨gb225, 2, none⟩ (.slice Ao38 t231.length co38)).heap[gb201]? = some (.cells #[.int .i64 0, .int .i64 0, .slice none 0 0] 28 (0, 0))) := ⟨bk_ BK201.out⟩
  have n4_ : Aside0 ((((w32.setCell ⟨gb225, 0, none⟩ (.int .i64 t229)).setCell ⟨gb225, 1, none⟩ (.int .i64 t230)).setCell ⟨gb225, 2, none⟩ (.slice Ao38 t231.length co38)).heap[gb202]? = some (.cells #[.int .i64 0, .int .i64 0, .slice none 0 0] 28 (0, 0))) := ⟨bk_ BK202.out⟩
  have n5_ : Aside0 ((((w32.setCell ⟨gb225, 0, none⟩ (.int .i64 t229)).setCell ⟨gb225, 1, none⟩ (.int .i64 t230)).setCell ⟨gb225, 2, none⟩ (.slice Ao38 t231.length co38)).heap[gb214]? = some (.cells #[.int .i64 t207, .int .i64 t208, .slice Ao20 t209.length co20] 28 (0, 0))) := ⟨bk_ BK214.out⟩
  have n6_ : Aside0 ((((w32.setCell ⟨gb225, 0, none⟩ (.int .i64 t229)).setCell ⟨gb225, 1, none⟩ (.int .i64 t230)).setCell ⟨gb225, 2, none⟩ (.slice Ao38 t231.length co38)).heap[gb225]? = some (.cells #[.int .i64 t229, .int .i64 t230, .slice Ao38 t231.length co38] 28 (0, 0))) := ⟨by (with_reducible repeat (first | refine blk_drewN ?_ _ | refine blk_drew ?_ | refine blk_alloc ?_ _)); refine blk_put (cs := #[.int .i64 t229, .int .i64 t230, .slice Ao29 t220.length co29]) ?_ 2 _ rfl; (with_reducible repeat (first | refine blk_drewN ?_ _ | refine blk_drew ?_ | refine blk_alloc ?_ _)); refine blk_put (cs := #[.int .i64 t229, .int .i64 t219, .slice Ao29 t220.length co29]) ?_ 1 _ rfl; (with_reducible repeat (first | refine blk_drewN ?_ _ | refine blk_drew ?_ | refine blk_alloc ?_ _)); refine blk_put (cs := #[.int .i64 t218, .int .i64 t219, .slice Ao29 t220.length co29]) ?_ 0 _ rfl; (with_reducible repeat (first | refine blk_drewN ?_ _ | refine blk_drew ?_ | refine blk_alloc ?_ _)); exact BK225.out⟩
  have n7_ : Aside0 (IsS75 w (((w32.setCell ⟨gb225, 0, none⟩ (.int .i64 t229)).setCell ⟨gb225, 1, none⟩ (.int .i64 t230)).setCell ⟨gb225, 2, none⟩ (.slice Ao38 t231.length co38)) g206 t203 t234 t235) := ⟨is75_ HI206⟩
  have n8_ : Aside0 (Below w.heap.size w (((w32.setCell ⟨gb225, 0, none⟩ (.int .i64 t229)).setCell ⟨gb225, 1, none⟩ (.int .i64 t230)).setCell ⟨gb225, 2, none⟩ (.slice Ao38 t231.length co38))) := ⟨bi75_ HB.out⟩
  (try clear HO211)
  (try clear HO222)
  (try clear HO233)
  (try clear BK201)
  (try clear BK202)
  (try clear BK214)
  (try clear BK225)
  (try clear HI206)
  (try clear HB)
  generalize (((w32.setCell ⟨gb225, 0, none⟩ (.int .i64 t229)).setCell ⟨gb225, 1, none⟩ (.int .i64 t230)).setCell ⟨gb225, 2, none⟩ (.slice Ao38 t231.length co38)) = w39 at n0_ n1_ n2_ n3_ n4_ n5_ n6_ n7_ n8_ ⊢
  have HO211 := n0_
  have HO222 := n1_
  have HO233 := n2_
  have BK201 := n3_
  have BK202 := n4_
  have BK214 := n5_
  have BK225 := n6_
  have HI206 := n7_
  have HB := n8_
  clear n0_ n1_ n2_ n3_ n4_ n5_ n6_ n7_ n8_
  have n0_ := am_ (Kd.R_drew HO211.out)
  have n1_ := am_ (Kd.R_drew HO222.out)
  have n2_ := am_ (Kd.R_drew HO233.out)
  have n3_ := am_ (blk_drew BK201.out)
  have n4_ := am_ (blk_drew BK202.out)
  have n5_ := am_ (blk_drew BK214.out)
  have n6_ := am_ (blk_drew BK225.out)
  have n7_ := am_ (IsS75.drew HI206.out)
  have n8_ := am_ (below_drew1 HB.out)
  clear HO211 HO222 HO233 BK201 BK202 BK214 BK225 HI206 HB; revert n0_ n1_ n2_ n3_ n4_ n5_ n6_ n7_ n8_; intro HO211 HO222 HO233 BK201 BK202 BK214 BK225 HI206 HB
  refine start_ (n := 4) (S := fun w' => w'.cell? ⟨gb214, 0, none⟩ = some (.int .i64 t207) ∧ w'.cell? ⟨gb214, 1, none⟩ = some (.int .i64 t208) ∧ w'.cell? ⟨gb214, 2, none⟩ = some (.slice Ao20 t209.length co20) ∧ w'.cell? ⟨gb225, 0, none⟩ = some (.int .i64 t229) ∧ w'.cell? ⟨gb225, 1, none⟩ = some (.int .i64 t230) ∧ w'.cell? ⟨gb225, 2, none⟩ = some (.slice Ao38 t231.length co38)) (ds := []) #[false, false, false, false] (by kernel_rfl) rfl rfl ⟨bc_ BK214 0, bc_ BK214 1, bc_ BK214 2, bc_ BK225 0, bc_ BK225 1, bc_ BK225 2⟩ (fun hHeld => ?_)
  generalize w39.drew = w40 at HO211 HO222 HO233 BK201 BK202 BK214 BK225 HI206 HB hHeld ⊢
  refine take_ (i := 0) (N := some 45) (v := ?_) (a' := ?_) #[true, false, false, false] rfl rfl (by kernel_rfl) (fun _ _ _ h => h) (Or.inl ⟨by rfl, ?_⟩) hHeld ?_ ?_
  rotate_left
  ·rintro w' ⟨s0, s1, s2, s3, s4, s5⟩
   go_simp
   with_reducible rfl
  rotate_left
  ·simp only [Act.put, List.setIfInBounds_toArray, List.set_cons_zero, List.set_cons_succ, i64_w, i32_w]
   rfl
  refine take_ (i := 1) (N := some 46) (v := ?_) (a' := ?_) #[true, true, false, false] rfl rfl (by kernel_rfl) (fun _ _ _ h => h) (Or.inl ⟨by rfl, ?_⟩) hHeld ?_ ?_
  rotate_left
  ·rintro w' ⟨s0, s1, s2, s3, s4, s5⟩
   go_simp
   with_reducible rfl
  rotate_left
  ·simp only [Act.put, List.setIfInBounds_toArray, List.set_cons_zero, List.set_cons_succ, i64_w, i32_w]
   rfl
  refine one_ (i := 2) (N := none) #[true, true, true, false] rfl rfl (by kernel_rfl) (by decide) (fun K hK => ?_)
  have hs41 : w40.cell? ⟨gb201, 0, none⟩ = some (.int .i64 0) := bc_ BK201 0
  have hfs41 := blk_frozen BK201.out 0
  have hns41_1 := NB202_201.out
  have hns41_2 := NB214_201.out
  have hns41_3 := NB225_201.out
  have hms41_1 := NB201_202.out
  have hms41_2 := NB201_214.out
  have hms41_3 := NB201_225.out
  have hs42 : w40.cell? ⟨gb201, 1, none⟩ = some (.int .i64 0) := bc_ BK201 1
  have hfs42 := blk_frozen BK201.out 1
  have hns42_1 := NB202_201.out
  have hns42_2 := NB214_201.out
  have hns42_3 := NB225_201.out
  have hms42_1 := NB201_202.out
  have hms42_2 := NB201_214.out
  have hms42_3 := NB201_225.out
  have hs43 : w40.cell? ⟨gb201, 2, none⟩ = some (.slice none 0 0) := bc_ BK201 2
  have hfs43 := blk_frozen BK201.out 2
  have hns43_1 := NB202_201.out
  have hns43_2 := NB214_201.out
  have hns43_3 := NB225_201.out
  have hms43_1 := NB201_202.out
  have hms43_2 := NB201_214.out
  have hms43_3 := NB201_225.out
  refine skip_ (w1 := ?_) (by rfl) rfl ?_ ?_
  rotate_left
  ·go_simp
   rfl
  refine hK.out _ _ ⟨((cell_far (p := ⟨gb201, _, none⟩) NB214_201.out _).trans (((cell_far (p := ⟨gb201, _, none⟩) NB214_201.out _).trans (((cell_far (p := ⟨gb201, _, none⟩) NB214_201.out _).trans (hHeld.1)))))), ((cell_far (p := ⟨gb201, _, none⟩) NB214_201.out _).trans (((cell_far (p := ⟨gb201, _, none⟩) NB214_201.out _).trans (((cell_far (p := ⟨gb201, _, none⟩) NB214_201.out _).trans (hHeld.2.1)))))), ((cell_far (p := ⟨gb201, _, none⟩) NB214_201.out _).trans (((cell_far (p := ⟨gb201, _, none⟩) NB214_201.out _).trans (((cell_far (p := ⟨gb201, _, none⟩) NB214_201.out _).trans (hHeld.2.2.1)))))), ((cell_far (p := ⟨gb201, _, none⟩) NB225_201.out _).trans (((cell_far (p := ⟨gb201, _, none⟩) NB225_201.out _).trans (((cell_far (p := ⟨gb201, _, none⟩) NB225_201.out _).trans (hHeld.2.2.2.1)))))), ((cell_far (p := ⟨gb201, _, none⟩) NB225_201.out _).trans (((cell_far (p := ⟨gb201, _, none⟩) NB225_201.out _).trans (((cell_far (p := ⟨gb201, _, none⟩) NB225_201.out _).trans (hHeld.2.2.2.2.1)))))), ((cell_far (p := ⟨gb201, _, none⟩) NB225_201.out _).trans (((cell_far (p := ⟨gb201, _, none⟩) NB225_201.out _).trans (((cell_far (p := ⟨gb201, _, none⟩) NB225_201.out _).trans (hHeld.2.2.2.2.2))))))⟩ (fun hHeld => ?_)
  clear hK K
  refine one_ (i := 3) (N := none) #[true, true, true, true] rfl rfl (by kernel_rfl) (by decide) (fun K hK => ?_)
  have hs44 : w40.cell? ⟨gb202, 0, none⟩ = some (.int .i64 0) := bc_ BK202 0
  have hfs44 := blk_frozen BK202.out 0
  have hns44_0 := NB201_202.out
  have hns44_2 := NB214_202.out
  have hns44_3 := NB225_202.out
  have hms44_0 := NB202_201.out
  have hms44_2 := NB202_214.out
  have hms44_3 := NB202_225.out
  have hs45 : w40.cell? ⟨gb202, 1, none⟩ = some (.int .i64 0) := bc_ BK202 1
  have hfs45 := blk_frozen BK202.out 1
  have hns45_0 := NB201_202.out
  have hns45_2 := NB214_202.out
  have hns45_3 := NB225_202.out
  have hms45_0 := NB202_201.out
  have hms45_2 := NB202_214.out
  have hms45_3 := NB202_225.out
  have hs46 : w40.cell? ⟨gb202, 2, none⟩ = some (.slice none 0 0) := bc_ BK202 2
  have hfs46 := blk_frozen BK202.out 2
  have hns46_0 := NB201_202.out
  have hns46_2 := NB214_202.out
  have hns46_3 := NB225_202.out
  have hms46_0 := NB202_201.out
  have hms46_2 := NB202_214.out
  have hms46_3 := NB202_225.out
  refine skip_ (w1 := ?_) (by rfl) rfl ?_ ?_
  rotate_left
  ·go_simp
   rfl
  refine hK.out _ _ ⟨((cell_far (p := ⟨gb202, _, none⟩) NB214_202.out _).trans (((cell_far (p := ⟨gb202, _, none⟩) NB214_202.out _).trans (((cell_far (p := ⟨gb202, _, none⟩) NB214_202.out _).trans (hHeld.1)))))), ((cell_far (p := ⟨gb202, _, none⟩) NB214_202.out _).trans (((cell_far (p := ⟨gb202, _, none⟩) NB214_202.out _).trans (((cell_far (p := ⟨gb202, _, none⟩) NB214_202.out _).trans (hHeld.2.1)))))), ((cell_far (p := ⟨gb202, _, none⟩) NB214_202.out _).trans (((cell_far (p := ⟨gb202, _, none⟩) NB214_202.out _).trans (((cell_far (p := ⟨gb202, _, none⟩) NB214_202.out _).trans (hHeld.2.2.1)))))), ((cell_far (p := ⟨gb202, _, none⟩) NB225_202.out _).trans (((cell_far (p := ⟨gb202, _, none⟩) NB225_202.out _).trans (((cell_far (p := ⟨gb202, _, none⟩) NB225_202.out _).trans (hHeld.2.2.2.1)))))), ((cell_far (p := ⟨gb202, _, none⟩) NB225_202.out _).trans (((cell_far (p := ⟨gb202, _, none⟩) NB225_202.out _).trans (((cell_far (p := ⟨gb202, _, none⟩) NB225_202.out _).trans (hHeld.2.2.2.2.1)))))), ((cell_far (p := ⟨gb202, _, none⟩) NB225_202.out _).trans (((cell_far (p := ⟨gb202, _, none⟩) NB225_202.out _).trans (((cell_far (p := ⟨gb202, _, none⟩) NB225_202.out _).trans (hHeld.2.2.2.2.2))))))⟩ (fun hHeld => ?_)
  clear hK K
  refine done_ (by kernel_rfl) ?_
  try go_wp2
  refine bodyPost_ret (results_cc rfl _ _ gb201 gb202 28 28 #[.int .i64 t207, .int .i64 t208, .slice Ao20 t209.length co20] #[.int .i64 t229, .int .i64 t230, .slice Ao38 t231.length co38] (0, 0) (0, 0) _ _ rfl (by (with_reducible repeat (first | refine blk_drewN ?_ _ | refine blk_drew ?_ | refine blk_alloc ?_ _)); refine blk_far ?_ NB201_202.out _; (with_reducible repeat (first | refine blk_drewN ?_ _ | refine blk_drew ?_ | refine blk_alloc ?_ _)); refine blk_far ?_ NB201_202.out _; (with_reducible repeat (first | refine blk_drewN ?_ _ | refine blk_drew ?_ | refine blk_alloc ?_ _)); refine blk_far ?_ NB201_202.out _; (with_reducible repeat (first | refine blk_drewN ?_ _ | refine blk_drew ?_ | refine blk_alloc ?_ _)); refine blk_put (cs := #[.int .i64 t207, .int .i64 t208, .slice none 0 0]) ?_ 2 _ rfl; (with_reducible repeat (first | refine blk_drewN ?_ _ | refine blk_drew ?_ | refine blk_alloc ?_ _)); refine blk_put (cs := #[.int .i64 t207, .int .i64 0, .slice none 0 0]) ?_ 1 _ rfl; (with_reducible repeat (first | refine blk_drewN ?_ _ | refine blk_drew ?_ | refine blk_alloc ?_ _)); refine blk_put (cs := #[.int .i64 0, .int .i64 0, .slice none 0 0]) ?_ 0 _ rfl; (with_reducible repeat (first | refine blk_drewN ?_ _ | refine blk_drew ?_ | refine blk_alloc ?_ _)); exact BK201.out) Try.underlying28 rfl (by kernel_rfl) rfl (by (with_reducible repeat (first | refine blk_drewN ?_ _ | refine blk_drew ?_ | refine blk_alloc ?_ _)); refine blk_put (cs := #[.int .i64 t229, .int .i64 t230, .slice none 0 0]) ?_ 2 _ rfl; (with_reducible repeat (first | refine blk_drewN ?_ _ | refine blk_drew ?_ | refine blk_alloc ?_ _)); refine blk_put (cs := #[.int .i64 t229, .int .i64 0, .slice none 0 0]) ?_ 1 _ rfl; (with_reducible repeat (first | refine blk_drewN ?_ _ | refine blk_drew ?_ | refine blk_alloc ?_ _)); refine blk_put (cs := #[.int .i64 0, .int .i64 0, .slice none 0 0]) ?_ 0 _ rfl; (with_reducible repeat (first | refine blk_drewN ?_ _ | refine blk_drew ?_ | refine blk_alloc ?_ _)); refine blk_far ?_ NB202_201.out _; (with_reducible repeat (first | refine blk_drewN ?_ _ | refine blk_drew ?_ | refine blk_alloc ?_ _)); refine blk_far ?_ NB202_201.out _; (with_reducible repeat (first | refine blk_drewN ?_ _ | refine blk_drew ?_ | refine blk_alloc ?_ _)); refine blk_far ?_ NB202_201.out _; (with_reducible repeat (first | refine blk_drewN ?_ _ | refine blk_drew ?_ | refine blk_alloc ?_ _)); exact BK202.out) Try.underlying28 rfl (by kernel_rfl)) rfl ?_
  exact ⟨_, _, by first | rfl | (simp [errW_none, errW_some] <;> rfl) | (simp only [← hji4, ← hji5]; first | rfl | (simp [errW_none, errW_some] <;> rfl)) | (simp [*, errW_none, errW_some] <;> rfl), rm_ (Kd.R_far (p := ⟨gb202, 2, none⟩) (Kd.R_far (p := ⟨gb202, 1, none⟩) (Kd.R_far (p := ⟨gb202, 0, none⟩) (Kd.R_far (p := ⟨gb201, 2, none⟩) (Kd.R_far (p := ⟨gb201, 1, none⟩) (Kd.R_far (p := ⟨gb201, 0, none⟩) (Kd.R_types (Kd.R_types HO211.out BK201.out (by decide)) BK202.out (by decide)) (fun _ hk => hk.1.2) (.int .i64 t207)) (fun _ hk => hk.1.2) (.int .i64 t208)) (fun _ hk => hk.1.2) (.slice Ao20 t209.length co20)) (fun _ hk => hk.2) (.int .i64 t229)) (fun _ hk => hk.2) (.int .i64 t230)) (fun _ hk => hk.2) (.slice Ao38 t231.length co38)) (fun _ hk => hk.1.1.2), rm_ (Kd.R_far (p := ⟨gb202, 2, none⟩) (Kd.R_far (p := ⟨gb202, 1, none⟩) (Kd.R_far (p := ⟨gb202, 0, none⟩) (Kd.R_far (p := ⟨gb201, 2, none⟩) (Kd.R_far (p := ⟨gb201, 1, none⟩) (Kd.R_far (p := ⟨gb201, 0, none⟩) (Kd.R_types (Kd.R_types HO233.out BK201.out (by decide)) BK202.out (by decide)) (fun _ hk => hk.1.2) (.int .i64 t207)) (fun _ hk => hk.1.2) (.int .i64 t208)) (fun _ hk => hk.1.2) (.slice Ao20 t209.length co20)) (fun _ hk => hk.2) (.int .i64 t229)) (fun _ hk => hk.2) (.int .i64 t230)) (fun _ hk => hk.2) (.slice Ao38 t231.length co38)) (fun _ hk => hk.1.1.1), bi75_ HB.out⟩
 ·rw [if_neg c9] at H
  have c9b0 : (t226 == 0) = false := beq_eq_false_iff_ne.mpr c9
  have c9b1 : (t226 != 0) = true := bne_iff_ne.mpr c9
  by_cases c47 : t226 = 1
  ·rw [if_pos c47] at H
   have c47b0 : (t226 == 1) = true := beq_iff_eq.mpr c47
   have c47b1 : (t226 != 1) = false := bne_eq_false_iff_eq.mpr c47
   clear c47
   have H' := am_ H
   clear H
   go_enter Try.func12, Try.ntmps12
   try go_wp2_with (first | ((with_reducible refine gate_dst (N := 2) rfl ?_); refine box_event ?hg (N := 2) ?hd (cs := #[.int .i64 0, .int .i64 0, .slice none 0 0]) (t := 28) ?hr ?_; (case hd => rfl); (case hg => rfl); (case hr => first | (go_simp; done) | (go_simp; rfl)); intro gb201 hg w48 hbox hb; have n0_ := am_ (below_step (bb_ HB.out) hb); have n1_ := am_ (hbox); have n2_ := am_ ((by rw [hg]; exact (below_size (bb_ HB.out)) : w.heap.size ≤ gb201)); have n3_ := am_ ((by rw [hg]; exact (below_size (bb_ HB.out)) : w.heap.size ≤ gb201)); clear HB; revert n0_ n1_ n2_ n3_; intro HB BK201 GW201 GE201; clear hb hbox hg) | ((with_reducible refine gate_dst (N := 3) rfl ?_); refine box_event ?hg (N := 3) ?hd (cs := #[.int .i64 0, .int .i64 0, .slice none 0 0]) (t := 28) ?hr ?_; (case hd => rfl); (case hg => rfl); (case hr => first | (go_simp; done) | (go_simp; rfl)); intro gb202 hg w49 hbox hb; have n0_ := am_ (bw_ BK201 hb); have n1_ := am_ (below_step (bb_ HB.out) hb); have n2_ := am_ (hbox); have n3_ := am_ ((by rw [hg]; exact (below_size (bb_ HB.out)) : w.heap.size ≤ gb202)); have n4_ := am_ ((by rw [hg]; exact (below_size (bb_ HB.out)) : w.heap.size ≤ gb202)); have n5_ := am_ (nl_ BK201 hg); have n6_ := am_ (ng_ BK201 hg); clear BK201 HB; revert n0_ n1_ n2_ n3_ n4_ n5_ n6_; intro BK201 HB BK202 GW202 GE202 NB201_202 NB202_201; clear hb hbox hg) | ((with_reducible refine gate_callee (f := 32) rfl ?_); refine goesL_ (some 9) rfl rfl Try.func32 (by kernel_rfl) rfl #[.slice A0 l0.length c0] rfl lm_ ?_; (with_reducible refine (spec_l01From.calls k _ _ l0 t203 t204 t205 w _ ?side1 ?side2 ?side3 A2.out).mono ?_); (case side1 => exact bb_ HB.out); (case side2 => exact HR0.out); (case side3 => exact HC0.out); rintro e w50 ⟨g206, rfl, hi, hb, hb2⟩; refine ⟨_, rfl, ?_⟩; have n0_ := am_ (bw_ BK201 hb2); have n1_ := am_ (bw_ BK202 hb2); have n2_ := am_ (hb); have n3_ := am_ (hi); have n4_ := am_ (IsS75.ne_blk hi (bw_ BK201 hb2) (by decide)); have n5_ := am_ (Ne.symm (IsS75.ne_blk hi (bw_ BK201 hb2) (by decide))); have n6_ := am_ (IsS75.ne_blk hi (bw_ BK202 hb2) (by decide)); have n7_ := am_ (Ne.symm (IsS75.ne_blk hi (bw_ BK202 hb2) (by decide))); clear BK201 BK202 HB; revert n0_ n1_ n2_ n3_ n4_ n5_ n6_ n7_; intro BK201 BK202 HB HI206 NB206_201 NB201_206 NB206_202 NB202_206; (try clear hb); (try clear hb2); (try clear hk); (try clear hi)) | ((with_reducible refine gate_callee (f := 33) rfl ?_); refine goesL_ (some 11) rfl rfl Try.func33 (by kernel_rfl) rfl #[.pointer (some ⟨g206, 0, none⟩)] rfl lm_ ?_; (with_reducible refine (spec_l01DrawMatrix.calls k g206 t203 t204 t205 t207 t208 t209 t212 t213 w _ ?side1 ?side2 A3.out).mono ?_); (case side1 => exact is75_ HI206); (case side2 => exact bi75_ HB.out); rintro e w51 ⟨v210, rfl, ho0, hi, hb, hk⟩; refine ⟨_, rfl, ?_⟩; have n0_ := am_ (KeepBut.blk hk (g' := gb201) (o := .cells #[.int .i64 0, .int .i64 0, .slice none 0 0] 28 (0, 0)) (bk_ BK201.out) NB201_206.out (by simp)); have n1_ := am_ (KeepBut.blk hk (g' := gb202) (o := .cells #[.int .i64 0, .int .i64 0, .slice none 0 0] 28 (0, 0)) (bk_ BK202.out) NB202_206.out (by simp)); have n2_ := am_ (Kd.R_lower ho0 (below_size (bi75_ HB.out))); have n3_ := am_ (hb); have n4_ := am_ (hi); clear BK201 BK202 HB HI206; revert n0_ n1_ n2_ n3_ n4_; intro BK201 BK202 HO211 HB HI206; (try clear hb); (try clear hb2); (try clear hk); (try clear hi); (try clear ho0)) | ((with_reducible refine gate_dst (N := 5) rfl ?_); refine box_event ?hg (N := 5) ?hd (cs := #[.int .i64 0, .int .i64 0, .slice none 0 0]) (t := 28) ?hr ?_; (case hd => rfl); (case hg => rfl); (case hr => first | (go_simp; done) | (go_simp; rfl)); intro gb214 hg w52 hbox hb; have n0_ := am_ (Kd.R_below (rk_ HO211.out) hb); have n1_ := am_ (bw_ BK201 hb); have n2_ := am_ (bw_ BK202 hb); have n3_ := am_ (IsS75.below (is75_ HI206) hb); have n4_ := am_ (below_step (bi75_ HB.out) hb); have n5_ := am_ (hbox); have n6_ := am_ ((by rw [hg]; exact (below_size (bi75_ HB.out)) : w.heap.size ≤ gb214)); have n7_ := am_ ((by rw [hg]; exact (below_size (bi75_ HB.out)) : w.heap.size ≤ gb214)); have n8_ := am_ (nl_ BK201 hg); have n9_ := am_ (ng_ BK201 hg); have n10_ := am_ (nl_ BK202 hg); have n11_ := am_ (ng_ BK202 hg); have n12_ := am_ ((by rw [hg]; exact Nat.ne_of_lt (IsS75.lt (show IsS75 w _ g206 t203 t212 t213 from is75_ HI206)) : g206 ≠ gb214)); have n13_ := am_ ((by rw [hg]; exact Nat.ne_of_gt (IsS75.lt (show IsS75 w _ g206 t203 t212 t213 from is75_ HI206)) : gb214 ≠ g206)); clear HO211 BK201 BK202 HI206 HB; revert n0_ n1_ n2_ n3_ n4_ n5_ n6_ n7_ n8_ n9_ n10_ n11_ n12_ n13_; intro HO211 BK201 BK202 HI206 HB BK214 GW214 GE214 NB201_214 NB214_201 NB202_214 NB214_202 NB206_214 NB214_206; clear hb hbox hg; have hnb53 := NB214_201.out; have hnc53 := NB201_214.out; have hnb54 := NB214_202.out; have hnc54 := NB202_214.out; have hnb55 := NB214_206.out; have hnc55 := NB206_214.out; have hcz56_0 : w52.cell? ⟨gb214, 0, none⟩ = some (.int .i64 0) := bc_ BK214 0; have hcz56_1 : w52.cell? ⟨gb214, 1, none⟩ = some (.int .i64 0) := bc_ BK214 1; have hcz56_2 : w52.cell? ⟨gb214, 2, none⟩ = some (.slice none 0 0) := bc_ BK214 2; have hfz56_0 := blk_frozen BK214.out 0; have hfz56_1 := blk_frozen BK214.out 1; have hfz56_2 := blk_frozen BK214.out 2; obtain ⟨Ao57, co57, eo57⟩ := Kd.R_slice HO211.out; subst eo57))
   have n0_ : Aside0 (Kd.R (Kd.int .i64) 2 (((w52.setCell ⟨gb214, 0, none⟩ (.int .i64 t207)).setCell ⟨gb214, 1, none⟩ (.int .i64 t208)).setCell ⟨gb214, 2, none⟩ (.slice Ao57 t209.length co57)) w.heap.size (fun _ => True) (.slice Ao57 t209.length co57) t209) := ⟨rm_ (Kd.R_far (p := ⟨gb214, 2, none⟩) (Kd.R_far (p := ⟨gb214, 1, none⟩) (Kd.R_far (p := ⟨gb214, 0, none⟩) (Kd.R_types HO211.out BK214.out (by decide)) (fun _ hk => hk.2) (.int .i64 t207)) (fun _ hk => hk.2) (.int .i64 t208)) (fun _ hk => hk.2) (.slice Ao57 t209.length co57)) (fun _ hk => trivial)⟩
   have n1_ : Aside0 ((((w52.setCell ⟨gb214, 0, none⟩ (.int .i64 t207)).setCell ⟨gb214, 1, none⟩ (.int .i64 t208)).setCell ⟨gb214, 2, none⟩ (.slice Ao57 t209.length co57)).heap[gb201]? = some (.cells #[.int .i64 0, .int .i64 0, .slice none 0 0] 28 (0, 0))) := ⟨bk_ BK201.out⟩
   have n2_ : Aside0 ((((w52.setCell ⟨gb214, 0, none⟩ (.int .i64 t207)).setCell ⟨gb214, 1, none⟩ (.int .i64 t208)).setCell ⟨gb214, 2, none⟩ (.slice Ao57 t209.length co57)).heap[gb202]? = some (.cells #[.int .i64 0, .int .i64 0, .slice none 0 0] 28 (0, 0))) := ⟨bk_ BK202.out⟩
   have n3_ : Aside0 ((((w52.setCell ⟨gb214, 0, none⟩ (.int .i64 t207)).setCell ⟨gb214, 1, none⟩ (.int .i64 t208)).setCell ⟨gb214, 2, none⟩ (.slice Ao57 t209.length co57)).heap[gb214]? = some (.cells #[.int .i64 t207, .int .i64 t208, .slice Ao57 t209.length co57] 28 (0, 0))) := ⟨by (with_reducible repeat (first | refine blk_drewN ?_ _ | refine blk_drew ?_ | refine blk_alloc ?_ _)); refine blk_put (cs := #[.int .i64 t207, .int .i64 t208, .slice none 0 0]) ?_ 2 _ rfl; (with_reducible repeat (first | refine blk_drewN ?_ _ | refine blk_drew ?_ | refine blk_alloc ?_ _)); refine blk_put (cs := #[.int .i64 t207, .int .i64 0, .slice none 0 0]) ?_ 1 _ rfl; (with_reducible repeat (first | refine blk_drewN ?_ _ | refine blk_drew ?_ | refine blk_alloc ?_ _)); refine blk_put (cs := #[.int .i64 0, .int .i64 0, .slice none 0 0]) ?_ 0 _ rfl; (with_reducible repeat (first | refine blk_drewN ?_ _ | refine blk_drew ?_ | refine blk_alloc ?_ _)); exact BK214.out⟩
   have n4_ : Aside0 (IsS75 w (((w52.setCell ⟨gb214, 0, none⟩ (.int .i64 t207)).setCell ⟨gb214, 1, none⟩ (.int .i64 t208)).setCell ⟨gb214, 2, none⟩ (.slice Ao57 t209.length co57)) g206 t203 t212 t213) := ⟨is75_ HI206⟩
   have n5_ : Aside0 (Below w.heap.size w (((w52.setCell ⟨gb214, 0, none⟩ (.int .i64 t207)).setCell ⟨gb214, 1, none⟩ (.int .i64 t208)).setCell ⟨gb214, 2, none⟩ (.slice Ao57 t209.length co57))) := ⟨bi75_ HB.out⟩
   (try clear HO211)
   (try clear BK201)
   (try clear BK202)
   (try clear BK214)
   (try clear HI206)
   (try clear HB)
   generalize (((w52.setCell ⟨gb214, 0, none⟩ (.int .i64 t207)).setCell ⟨gb214, 1, none⟩ (.int .i64 t208)).setCell ⟨gb214, 2, none⟩ (.slice Ao57 t209.length co57)) = w58 at n0_ n1_ n2_ n3_ n4_ n5_ ⊢
   have HO211 := n0_
   have BK201 := n1_
   have BK202 := n2_
   have BK214 := n3_
   have HI206 := n4_
   have HB := n5_
   clear n0_ n1_ n2_ n3_ n4_ n5_
   have n0_ := am_ (Kd.R_drew HO211.out)
   have n1_ := am_ (blk_drew BK201.out)
   have n2_ := am_ (blk_drew BK202.out)
   have n3_ := am_ (blk_drew BK214.out)
   have n4_ := am_ (IsS75.drew HI206.out)
   have n5_ := am_ (below_drew1 HB.out)
   clear HO211 BK201 BK202 BK214 HI206 HB; revert n0_ n1_ n2_ n3_ n4_ n5_; intro HO211 BK201 BK202 BK214 HI206 HB
   refine start_ (n := 10) (S := fun w' => w'.cell? ⟨gb214, 0, none⟩ = some (.int .i64 t207) ∧ w'.cell? ⟨gb214, 1, none⟩ = some (.int .i64 t208) ∧ w'.cell? ⟨gb214, 2, none⟩ = some (.slice Ao57 t209.length co57)) (ds := []) #[false, false, false, false, false, false, false, false, false, false] (by kernel_rfl) rfl rfl ⟨bc_ BK214 0, bc_ BK214 1, bc_ BK214 2⟩ (fun hHeld => ?_); refine with_tabW spec_DrawMultiplyMatrices.tab3 spec_DrawMultiplyMatrices.bits3 (fun HT_ HW_ => ?_)
   generalize w58.drew = w59 at HO211 BK201 BK202 BK214 HI206 HB hHeld ⊢
   refine pure_ (i := 0) (N := some 12) (v := ?_) (a' := ?_) #[true, false, false, false, false, false, false, false, false, false] rfl rfl (any_of HT_.out (by kernel_rfl)) (fun _ _ _ h => h) (Or.inl ⟨by rfl, ?_⟩) ?_ ?_
   rotate_left
   ·intro w'
    go_simp
    with_reducible rfl
   rotate_left
   ·simp only [Act.put, List.setIfInBounds_toArray, List.set_cons_zero, List.set_cons_succ, i64_w, i32_w]
    rfl
   refine pure_ (i := 1) (N := some 13) (v := ?_) (a' := ?_) #[true, true, false, false, false, false, false, false, false, false] rfl rfl (any_of HT_.out (by kernel_rfl)) (fun _ _ _ h => h) (Or.inl ⟨by rfl, ?_⟩) ?_ ?_
   rotate_left
   ·intro w'
    go_simp
    with_reducible rfl
   rotate_left
   ·simp only [Act.put, List.setIfInBounds_toArray, List.set_cons_zero, List.set_cons_succ, i64_w, i32_w]
    rfl
   refine pure_ (i := 5) (N := some 17) (v := ?_) (a' := ?_) #[true, true, false, false, false, true, false, false, false, false] rfl rfl (any_of HT_.out (by kernel_rfl)) (fun _ _ _ h => h) (Or.inl ⟨by rfl, ?_⟩) ?_ ?_
   rotate_left
   ·intro w'
    go_simp
    with_reducible rfl
   rotate_left
   ·simp only [Act.put, List.setIfInBounds_toArray, List.set_cons_zero, List.set_cons_succ, i64_w, i32_w]
    rfl
   refine take_ (i := 2) (N := some 14) (v := ?_) (a' := ?_) #[true, true, true, false, false, true, false, false, false, false] rfl rfl (take_ofW HT_.out HW_.out (by kernel_rfl)) (fun _ _ _ h => h) (Or.inl ⟨by rfl, ?_⟩) hHeld ?_ ?_
   rotate_left
   ·rintro w' ⟨s0, s1, s2⟩
    go_simp
    with_reducible rfl
   rotate_left
   ·simp only [Act.put, List.setIfInBounds_toArray, List.set_cons_zero, List.set_cons_succ, i64_w, i32_w]
    rfl
   refine pure_ (i := 3) (N := some 15) (v := ?_) (a' := ?_) #[true, true, true, true, false, true, false, false, false, false] rfl rfl (any_of HT_.out (by kernel_rfl)) (fun _ _ _ h => h) (Or.inl ⟨by rfl, ?_⟩) ?_ ?_
   rotate_left
   ·intro w'
    go_simp
    with_reducible rfl
   rotate_left
   ·simp only [Act.put, List.setIfInBounds_toArray, List.set_cons_zero, List.set_cons_succ, i64_w, i32_w]
    rfl
   refine pure_ (i := 4) (N := some 16) (v := ?_) (a' := ?_) #[true, true, true, true, true, true, false, false, false, false] rfl rfl (any_of HT_.out (by kernel_rfl)) (fun _ _ _ h => h) (Or.inl ⟨by rfl, ?_⟩) ?_ ?_
   rotate_left
   ·intro w'
    go_simp
    with_reducible rfl
   rotate_left
   ·simp only [Act.put, List.setIfInBounds_toArray, List.set_cons_zero, List.set_cons_succ, i64_w, i32_w]
    rfl
   refine join_ (σ := Value × Nat) 1 #[true, true, true, true, true, true, true, true, true, false] (fun s_ => [(18, .int .i64 t215), (19, .agg #[.int .i64 t218, .int .i64 t219, s_.1]), (6, .pointer (some ⟨s_.2, 0, none⟩))]) (fun s_ w' => (w'.cell? ⟨gb214, 0, none⟩ = some (.int .i64 t207) ∧ w'.cell? ⟨gb214, 1, none⟩ = some (.int .i64 t208) ∧ w'.cell? ⟨gb214, 2, none⟩ = some (.slice Ao57 t209.length co57)) ∧ (Kd.R (Kd.int .i64) 2 w' w.heap.size (fun k_ => some k_ ≠ (s_.1 : Value).ownBlock) (.slice Ao57 t209.length co57) t209) ∧ (Kd.R (Kd.int .i64) 2 w' w.heap.size (fun k_ => some k_ ≠ (.slice Ao57 t209.length co57 : Value).ownBlock) s_.1 t220) ∧ (w'.heap[gb201]? = some (.cells #[.int .i64 0, .int .i64 0, .slice none 0 0] 28 (0, 0))) ∧ (w'.heap[gb202]? = some (.cells #[.int .i64 0, .int .i64 0, .slice none 0 0] 28 (0, 0))) ∧ (w'.heap[gb214]? = some (.cells #[.int .i64 t207, .int .i64 t208, .slice Ao57 t209.length co57] 28 (0, 0))) ∧ (w'.heap[s_.2]? = some (.cells #[.int .i64 0, .int .i64 0, .slice none 0 0] 28 (0, 0))) ∧ (w.heap.size ≤ s_.2) ∧ (w.heap.size ≤ s_.2) ∧ (g206 ≠ s_.2) ∧ (s_.2 ≠ g206) ∧ (gb201 ≠ s_.2) ∧ (s_.2 ≠ gb201) ∧ (gb202 ≠ s_.2) ∧ (s_.2 ≠ gb202) ∧ (gb214 ≠ s_.2) ∧ (s_.2 ≠ gb214) ∧ (IsS75 w w' g206 t203 t223 t224) ∧ (Below w.heap.size w w')) ?_ ?_
   rotate_left
   ·intro hCont
    refine two_ (i := 6) (j := 8) (Ni := some 18) (Nj := some 6) #[true, true, true, true, true, true, true, false, false, false] #[true, true, true, true, true, true, false, false, true, false] rfl rfl rfl rfl (two_of HT_.out (by kernel_rfl)) (by decide) (by decide) (fun K hK => ?_) (fun K hK => ?_)
    ·skip
     refine goes_ Try.func35 (by kernel_rfl) rfl #[.pointer (some ⟨g206, 0, none⟩), .int .i64 5] (by rfl) rfl rfl lm_ ?_
     with_reducible refine (spec_l01Next.calls g206 t203 t212 t213 5 t215 t216 t217 w _ ?side1 ?side2 A6.out).mono ?_
     (case side1 => exact is75_ HI206)
     (case side2 => exact bi75_ HB.out)
     rintro e w60 ⟨rfl, hi, hb, hk⟩
     refine ⟨_, rfl, ?_⟩
     have n0_ := am_ (KeepBut.blk hk (g' := gb201) (o := .cells #[.int .i64 0, .int .i64 0, .slice none 0 0] 28 (0, 0)) (bk_ BK201.out) NB201_206.out (by simp))
     have n1_ := am_ (KeepBut.blk hk (g' := gb202) (o := .cells #[.int .i64 0, .int .i64 0, .slice none 0 0] 28 (0, 0)) (bk_ BK202.out) NB202_206.out (by simp))
     have n2_ := am_ (Kd.R_mono (Kd.R_keep (IsS75.apart (show IsS75 w _ g206 t203 t212 t213 from is75_ HI206) (rk_ HO211.out) (by decide)) hk (fun _ h => h.2)) (fun _ h => h.1))
     have n3_ := am_ (KeepBut.blk hk (g' := gb214) (o := .cells #[.int .i64 t207, .int .i64 t208, .slice Ao57 t209.length co57] 28 (0, 0)) (bk_ BK214.out) NB214_206.out (by simp))
     have n4_ := am_ (hb)
     have n5_ := am_ (hi)
     clear BK201 BK202 HO211 BK214 HB HI206; revert n0_ n1_ n2_ n3_ n4_ n5_; intro BK201 BK202 HO211 BK214 HB HI206
     (try clear hb)
     (try clear hb2)
     (try clear hk)
     (try clear hi)
     refine hK.out _ _ ⟨bc_ BK214 0, bc_ BK214 1, bc_ BK214 2⟩ (fun hHeld => ?_)
     clear hK K
     refine norm_ (a' := ?_) ?_ ?_
     rotate_left
     ·show Act.put _ (some 18) _ = _
      simp only [Act.put, List.setIfInBounds_toArray, List.set_cons_zero, List.set_cons_succ, i64_w, i32_w]
      rfl
     refine two_ (i := 7) (j := 8) (Ni := some 19) (Nj := some 6) #[true, true, true, true, true, true, true, true, false, false] #[true, true, true, true, true, true, true, false, true, false] rfl rfl rfl rfl (two_of HT_.out (by kernel_rfl)) (by decide) (by decide) (fun K hK => ?_) (fun K hK => ?_)
     ·skip
      refine goes_ Try.func34 (by kernel_rfl) rfl #[.pointer (some ⟨g206, 0, none⟩), .int .i64 ji5, .int .i64 t215] (by rfl) rfl rfl (by (try simp only [List.map_toArray, List.map_cons, List.map_nil]); first | done | (simp only [hji5]; rfl) | rfl | (simp only [List.length_drop, List.length_take]; rfl)) ?_
      with_reducible refine (spec_l01DrawSize.calls k g206 t203 t216 t217 ji5 t215 t218 t219 t220 t223 t224 w _ ?side1 ?side2 A7.out).mono ?_
      (case side1 => exact is75_ HI206)
      (case side2 => exact bi75_ HB.out)
      rintro e w61 ⟨v221, rfl, ho0, hi, hb, hk⟩
      refine ⟨_, rfl, ?_⟩
      have n0_ := am_ (KeepBut.blk hk (g' := gb201) (o := .cells #[.int .i64 0, .int .i64 0, .slice none 0 0] 28 (0, 0)) (bk_ BK201.out) NB201_206.out (by simp))
      have n1_ := am_ (KeepBut.blk hk (g' := gb202) (o := .cells #[.int .i64 0, .int .i64 0, .slice none 0 0] 28 (0, 0)) (bk_ BK202.out) NB202_206.out (by simp))
      have n2_ := am_ (Kd.R_mono (Kd.R_told (Kd.R_oldK (IsS75.apart (show IsS75 w _ g206 t203 t216 t217 from is75_ HI206) (rk_ HO211.out) (by decide)) hk) (Kd.R_base ho0)) (fun _ h_ => h_.1))
      have n3_ := am_ (KeepBut.blk hk (g' := gb214) (o := .cells #[.int .i64 t207, .int .i64 t208, .slice Ao57 t209.length co57] 28 (0, 0)) (bk_ BK214.out) NB214_206.out (by simp))
      have n4_ := am_ (Kd.R_lower (Kd.R_new' ho0 (Kd.R_lt (rk_ HO211.out))) (below_size (bi75_ HB.out)))
      have n5_ := am_ (hb)
      have n6_ := am_ (hi)
      clear BK201 BK202 HO211 BK214 HB HI206; revert n0_ n1_ n2_ n3_ n4_ n5_ n6_; intro BK201 BK202 HO211 BK214 HO222 HB HI206
      (try clear hb)
      (try clear hb2)
      (try clear hk)
      (try clear hi)
      (try clear ho0)
      refine hK.out _ _ ⟨bc_ BK214 0, bc_ BK214 1, bc_ BK214 2⟩ (fun hHeld => ?_)
      clear hK K
      refine norm_ (a' := ?_) ?_ ?_
      rotate_left
      ·show Act.put _ (some 19) _ = _
       simp only [Act.put, List.setIfInBounds_toArray, List.set_cons_zero, List.set_cons_succ, i64_w, i32_w]
       rfl
      refine one_ (i := 8) (N := some 6) #[true, true, true, true, true, true, true, true, true, false] rfl rfl (one_of HT_.out (by kernel_rfl)) (by decide) (fun K hK => ?_)
      refine box_step ?hg (N := 6) ?hd (cs := #[.int .i64 0, .int .i64 0, .slice none 0 0]) (t := 28) ?hr ?_; (case hd => rfl); (case hg => rfl); (case hr => first | (go_simp; done) | (go_simp; rfl))
      intro gb225 hg w62 hbox hb
      have n0_ := am_ (Kd.R_below (rk_ HO211.out) hb)
      have n1_ := am_ (Kd.R_below (rk_ HO222.out) hb)
      have n2_ := am_ (bw_ BK201 hb)
      have n3_ := am_ (bw_ BK202 hb)
      have n4_ := am_ (IsS75.below (is75_ HI206) hb)
      have n5_ := am_ (bw_ BK214 hb)
      have n6_ := am_ (below_step (bi75_ HB.out) hb)
      have n7_ := am_ (hbox)
      have n8_ := am_ ((by rw [hg]; exact (below_size (bi75_ HB.out)) : w.heap.size ≤ gb225))
      have n9_ := am_ ((by rw [hg]; exact (below_size (bi75_ HB.out)) : w.heap.size ≤ gb225))
      have n10_ := am_ (nl_ BK201 hg)
      have n11_ := am_ (ng_ BK201 hg)
      have n12_ := am_ (nl_ BK202 hg)
      have n13_ := am_ (ng_ BK202 hg)
      have n14_ := am_ (nl_ BK214 hg)
      have n15_ := am_ (ng_ BK214 hg)
      have n16_ := am_ ((by rw [hg]; exact Nat.ne_of_lt (IsS75.lt (show IsS75 w _ g206 t203 t223 t224 from is75_ HI206)) : g206 ≠ gb225))
      have n17_ := am_ ((by rw [hg]; exact Nat.ne_of_gt (IsS75.lt (show IsS75 w _ g206 t203 t223 t224 from is75_ HI206)) : gb225 ≠ g206))
      clear HO211 HO222 BK201 BK202 HI206 BK214 HB; revert n0_ n1_ n2_ n3_ n4_ n5_ n6_ n7_ n8_ n9_ n10_ n11_ n12_ n13_ n14_ n15_ n16_ n17_; intro HO211 HO222 BK201 BK202 HI206 BK214 HB BK225 GW225 GE225 NB201_225 NB225_201 NB202_225 NB225_202 NB214_225 NB225_214 NB206_225 NB225_206
      clear hb hbox hg
      refine hK.out _ _ ⟨bc_ BK214 0, bc_ BK214 1, bc_ BK214 2⟩ (fun hHeld => ?_)
      clear hK K
      refine norm_ (a' := ?_) ?_ ?_
      rotate_left
      ·show Act.put _ (some 6) _ = _
       simp only [Act.put, List.setIfInBounds_toArray, List.set_cons_zero, List.set_cons_succ, i64_w, i32_w]
       rfl
      exact norm_ (by simp only [putAll, Act.put, List.setIfInBounds_toArray, List.set_cons_zero, List.set_cons_succ]) (hCont (v221, gb225) _ ⟨hHeld, (rm_ HO211.out (fun _ hk => hk.2)), (rm_ HO222.out (fun _ hk => hk.2)), (bk_ BK201.out), (bk_ BK202.out), (bk_ BK214.out), (bk_ BK225.out), GW225.out, GE225.out, NB206_225.out, NB225_206.out, NB201_225.out, NB225_201.out, NB202_225.out, NB225_202.out, NB214_225.out, NB225_214.out, (is75_ HI206), (bi75_ HB.out)⟩)
     ·skip
      refine box_step ?hg (N := 6) ?hd (cs := #[.int .i64 0, .int .i64 0, .slice none 0 0]) (t := 28) ?hr ?_; (case hd => rfl); (case hg => rfl); (case hr => first | (go_simp; done) | (go_simp; rfl))
      intro gb225 hg w61 hbox hb
      have n0_ := am_ (Kd.R_below (rk_ HO211.out) hb)
      have n1_ := am_ (bw_ BK201 hb)
      have n2_ := am_ (bw_ BK202 hb)
      have n3_ := am_ (IsS75.below (is75_ HI206) hb)
      have n4_ := am_ (bw_ BK214 hb)
      have n5_ := am_ (below_step (bi75_ HB.out) hb)
      have n6_ := am_ (hbox)
      have n7_ := am_ ((by rw [hg]; exact (below_size (bi75_ HB.out)) : w.heap.size ≤ gb225))
      have n8_ := am_ ((by rw [hg]; exact (below_size (bi75_ HB.out)) : w.heap.size ≤ gb225))
      have n9_ := am_ (nl_ BK201 hg)
      have n10_ := am_ (ng_ BK201 hg)
      have n11_ := am_ (nl_ BK202 hg)
      have n12_ := am_ (ng_ BK202 hg)
      have n13_ := am_ (nl_ BK214 hg)
      have n14_ := am_ (ng_ BK214 hg)
      have n15_ := am_ ((by rw [hg]; exact Nat.ne_of_lt (IsS75.lt (show IsS75 w _ g206 t203 t216 t217 from is75_ HI206)) : g206 ≠ gb225))
      have n16_ := am_ ((by rw [hg]; exact Nat.ne_of_gt (IsS75.lt (show IsS75 w _ g206 t203 t216 t217 from is75_ HI206)) : gb225 ≠ g206))
      clear HO211 BK201 BK202 HI206 BK214 HB; revert n0_ n1_ n2_ n3_ n4_ n5_ n6_ n7_ n8_ n9_ n10_ n11_ n12_ n13_ n14_ n15_ n16_; intro HO211 BK201 BK202 HI206 BK214 HB BK225 GW225 GE225 NB201_225 NB225_201 NB202_225 NB225_202 NB214_225 NB225_214 NB206_225 NB225_206
      clear hb hbox hg
      refine hK.out _ _ ⟨bc_ BK214 0, bc_ BK214 1, bc_ BK214 2⟩ (fun hHeld => ?_)
      clear hK K
      refine norm_ (a' := ?_) ?_ ?_
      rotate_left
      ·show Act.put _ (some 6) _ = _
       simp only [Act.put, List.setIfInBounds_toArray, List.set_cons_zero, List.set_cons_succ, i64_w, i32_w]
       rfl
      refine one_ (i := 7) (N := some 19) #[true, true, true, true, true, true, true, true, true, false] rfl rfl (one_of HT_.out (by kernel_rfl)) (by decide) (fun K hK => ?_)
      refine goes_ Try.func34 (by kernel_rfl) rfl #[.pointer (some ⟨g206, 0, none⟩), .int .i64 ji5, .int .i64 t215] (by rfl) rfl rfl (by (try simp only [List.map_toArray, List.map_cons, List.map_nil]); first | done | (simp only [hji5]; rfl) | rfl | (simp only [List.length_drop, List.length_take]; rfl)) ?_
      with_reducible refine (spec_l01DrawSize.calls k g206 t203 t216 t217 ji5 t215 t218 t219 t220 t223 t224 w _ ?side1 ?side2 A7.out).mono ?_
      (case side1 => exact is75_ HI206)
      (case side2 => exact bi75_ HB.out)
      rintro e w62 ⟨v221, rfl, ho0, hi, hb, hk⟩
      refine ⟨_, rfl, ?_⟩
      have n0_ := am_ (KeepBut.blk hk (g' := gb201) (o := .cells #[.int .i64 0, .int .i64 0, .slice none 0 0] 28 (0, 0)) (bk_ BK201.out) NB201_206.out (by simp))
      have n1_ := am_ (KeepBut.blk hk (g' := gb202) (o := .cells #[.int .i64 0, .int .i64 0, .slice none 0 0] 28 (0, 0)) (bk_ BK202.out) NB202_206.out (by simp))
      have n2_ := am_ (Kd.R_mono (Kd.R_told (Kd.R_oldK (IsS75.apart (show IsS75 w _ g206 t203 t216 t217 from is75_ HI206) (rk_ HO211.out) (by decide)) hk) (Kd.R_base ho0)) (fun _ h_ => h_.1))
      have n3_ := am_ (KeepBut.blk hk (g' := gb214) (o := .cells #[.int .i64 t207, .int .i64 t208, .slice Ao57 t209.length co57] 28 (0, 0)) (bk_ BK214.out) NB214_206.out (by simp))
      have n4_ := am_ (KeepBut.blk hk (g' := gb225) (o := .cells #[.int .i64 0, .int .i64 0, .slice none 0 0] 28 (0, 0)) (bk_ BK225.out) NB225_206.out (by simp))
      have n5_ := am_ (Kd.R_lower (Kd.R_new' ho0 (Kd.R_lt (rk_ HO211.out))) (below_size (bi75_ HB.out)))
      have n6_ := am_ (hb)
      have n7_ := am_ (hi)
      clear BK201 BK202 HO211 BK214 BK225 HB HI206; revert n0_ n1_ n2_ n3_ n4_ n5_ n6_ n7_; intro BK201 BK202 HO211 BK214 BK225 HO222 HB HI206
      (try clear hb)
      (try clear hb2)
      (try clear hk)
      (try clear hi)
      (try clear ho0)
      refine hK.out _ _ ⟨bc_ BK214 0, bc_ BK214 1, bc_ BK214 2⟩ (fun hHeld => ?_)
      clear hK K
      refine norm_ (a' := ?_) ?_ ?_
      rotate_left
      ·show Act.put _ (some 19) _ = _
       simp only [Act.put, List.setIfInBounds_toArray, List.set_cons_zero, List.set_cons_succ, i64_w, i32_w]
       rfl
      exact norm_ (by simp only [putAll, Act.put, List.setIfInBounds_toArray, List.set_cons_zero, List.set_cons_succ]) (hCont (v221, gb225) _ ⟨hHeld, (rm_ HO211.out (fun _ hk => hk.2)), (rm_ HO222.out (fun _ hk => hk.2)), (bk_ BK201.out), (bk_ BK202.out), (bk_ BK214.out), (bk_ BK225.out), GW225.out, GE225.out, NB206_225.out, NB225_206.out, NB201_225.out, NB225_201.out, NB202_225.out, NB225_202.out, NB214_225.out, NB225_214.out, (is75_ HI206), (bi75_ HB.out)⟩)
    ·skip
     refine box_step ?hg (N := 6) ?hd (cs := #[.int .i64 0, .int .i64 0, .slice none 0 0]) (t := 28) ?hr ?_; (case hd => rfl); (case hg => rfl); (case hr => first | (go_simp; done) | (go_simp; rfl))
     intro gb225 hg w60 hbox hb
     have n0_ := am_ (Kd.R_below (rk_ HO211.out) hb)
     have n1_ := am_ (bw_ BK201 hb)
     have n2_ := am_ (bw_ BK202 hb)
     have n3_ := am_ (IsS75.below (is75_ HI206) hb)
     have n4_ := am_ (bw_ BK214 hb)
     have n5_ := am_ (below_step (bi75_ HB.out) hb)
     have n6_ := am_ (hbox)
     have n7_ := am_ ((by rw [hg]; exact (below_size (bi75_ HB.out)) : w.heap.size ≤ gb225))
     have n8_ := am_ ((by rw [hg]; exact (below_size (bi75_ HB.out)) : w.heap.size ≤ gb225))
     have n9_ := am_ (nl_ BK201 hg)
     have n10_ := am_ (ng_ BK201 hg)
     have n11_ := am_ (nl_ BK202 hg)
     have n12_ := am_ (ng_ BK202 hg)
     have n13_ := am_ (nl_ BK214 hg)
     have n14_ := am_ (ng_ BK214 hg)
     have n15_ := am_ ((by rw [hg]; exact Nat.ne_of_lt (IsS75.lt (show IsS75 w _ g206 t203 t212 t213 from is75_ HI206)) : g206 ≠ gb225))
     have n16_ := am_ ((by rw [hg]; exact Nat.ne_of_gt (IsS75.lt (show IsS75 w _ g206 t203 t212 t213 from is75_ HI206)) : gb225 ≠ g206))
     clear HO211 BK201 BK202 HI206 BK214 HB; revert n0_ n1_ n2_ n3_ n4_ n5_ n6_ n7_ n8_ n9_ n10_ n11_ n12_ n13_ n14_ n15_ n16_; intro HO211 BK201 BK202 HI206 BK214 HB BK225 GW225 GE225 NB201_225 NB225_201 NB202_225 NB225_202 NB214_225 NB225_214 NB206_225 NB225_206
     clear hb hbox hg
     refine hK.out _ _ ⟨bc_ BK214 0, bc_ BK214 1, bc_ BK214 2⟩ (fun hHeld => ?_)
     clear hK K
     refine norm_ (a' := ?_) ?_ ?_
     rotate_left
     ·show Act.put _ (some 6) _ = _
      simp only [Act.put, List.setIfInBounds_toArray, List.set_cons_zero, List.set_cons_succ, i64_w, i32_w]
      rfl
     refine one_ (i := 6) (N := some 18) #[true, true, true, true, true, true, true, false, true, false] rfl rfl (one_of HT_.out (by kernel_rfl)) (by decide) (fun K hK => ?_)
     refine goes_ Try.func35 (by kernel_rfl) rfl #[.pointer (some ⟨g206, 0, none⟩), .int .i64 5] (by rfl) rfl rfl lm_ ?_
     with_reducible refine (spec_l01Next.calls g206 t203 t212 t213 5 t215 t216 t217 w _ ?side1 ?side2 A6.out).mono ?_
     (case side1 => exact is75_ HI206)
     (case side2 => exact bi75_ HB.out)
     rintro e w61 ⟨rfl, hi, hb, hk⟩
     refine ⟨_, rfl, ?_⟩
     have n0_ := am_ (KeepBut.blk hk (g' := gb201) (o := .cells #[.int .i64 0, .int .i64 0, .slice none 0 0] 28 (0, 0)) (bk_ BK201.out) NB201_206.out (by simp))
     have n1_ := am_ (KeepBut.blk hk (g' := gb202) (o := .cells #[.int .i64 0, .int .i64 0, .slice none 0 0] 28 (0, 0)) (bk_ BK202.out) NB202_206.out (by simp))
     have n2_ := am_ (Kd.R_mono (Kd.R_keep (IsS75.apart (show IsS75 w _ g206 t203 t212 t213 from is75_ HI206) (rk_ HO211.out) (by decide)) hk (fun _ h => h.2)) (fun _ h => h.1))
     have n3_ := am_ (KeepBut.blk hk (g' := gb214) (o := .cells #[.int .i64 t207, .int .i64 t208, .slice Ao57 t209.length co57] 28 (0, 0)) (bk_ BK214.out) NB214_206.out (by simp))
     have n4_ := am_ (KeepBut.blk hk (g' := gb225) (o := .cells #[.int .i64 0, .int .i64 0, .slice none 0 0] 28 (0, 0)) (bk_ BK225.out) NB225_206.out (by simp))
     have n5_ := am_ (hb)
     have n6_ := am_ (hi)
     clear BK201 BK202 HO211 BK214 BK225 HB HI206; revert n0_ n1_ n2_ n3_ n4_ n5_ n6_; intro BK201 BK202 HO211 BK214 BK225 HB HI206
     (try clear hb)
     (try clear hb2)
     (try clear hk)
     (try clear hi)
     refine hK.out _ _ ⟨bc_ BK214 0, bc_ BK214 1, bc_ BK214 2⟩ (fun hHeld => ?_)
     clear hK K
     refine norm_ (a' := ?_) ?_ ?_
     rotate_left
     ·show Act.put _ (some 18) _ = _
      simp only [Act.put, List.setIfInBounds_toArray, List.set_cons_zero, List.set_cons_succ, i64_w, i32_w]
      rfl
     refine one_ (i := 7) (N := some 19) #[true, true, true, true, true, true, true, true, true, false] rfl rfl (one_of HT_.out (by kernel_rfl)) (by decide) (fun K hK => ?_)
     refine goes_ Try.func34 (by kernel_rfl) rfl #[.pointer (some ⟨g206, 0, none⟩), .int .i64 ji5, .int .i64 t215] (by rfl) rfl rfl (by (try simp only [List.map_toArray, List.map_cons, List.map_nil]); first | done | (simp only [hji5]; rfl) | rfl | (simp only [List.length_drop, List.length_take]; rfl)) ?_
     with_reducible refine (spec_l01DrawSize.calls k g206 t203 t216 t217 ji5 t215 t218 t219 t220 t223 t224 w _ ?side1 ?side2 A7.out).mono ?_
     (case side1 => exact is75_ HI206)
     (case side2 => exact bi75_ HB.out)
     rintro e w62 ⟨v221, rfl, ho0, hi, hb, hk⟩
     refine ⟨_, rfl, ?_⟩
     have n0_ := am_ (KeepBut.blk hk (g' := gb201) (o := .cells #[.int .i64 0, .int .i64 0, .slice none 0 0] 28 (0, 0)) (bk_ BK201.out) NB201_206.out (by simp))
     have n1_ := am_ (KeepBut.blk hk (g' := gb202) (o := .cells #[.int .i64 0, .int .i64 0, .slice none 0 0] 28 (0, 0)) (bk_ BK202.out) NB202_206.out (by simp))
     have n2_ := am_ (Kd.R_mono (Kd.R_told (Kd.R_oldK (IsS75.apart (show IsS75 w _ g206 t203 t216 t217 from is75_ HI206) (rk_ HO211.out) (by decide)) hk) (Kd.R_base ho0)) (fun _ h_ => h_.1))
     have n3_ := am_ (KeepBut.blk hk (g' := gb214) (o := .cells #[.int .i64 t207, .int .i64 t208, .slice Ao57 t209.length co57] 28 (0, 0)) (bk_ BK214.out) NB214_206.out (by simp))
     have n4_ := am_ (KeepBut.blk hk (g' := gb225) (o := .cells #[.int .i64 0, .int .i64 0, .slice none 0 0] 28 (0, 0)) (bk_ BK225.out) NB225_206.out (by simp))
     have n5_ := am_ (Kd.R_lower (Kd.R_new' ho0 (Kd.R_lt (rk_ HO211.out))) (below_size (bi75_ HB.out)))
     have n6_ := am_ (hb)
     have n7_ := am_ (hi)
     clear BK201 BK202 HO211 BK214 BK225 HB HI206; revert n0_ n1_ n2_ n3_ n4_ n5_ n6_ n7_; intro BK201 BK202 HO211 BK214 BK225 HO222 HB HI206
     (try clear hb)
     (try clear hb2)
     (try clear hk)
     (try clear hi)
     (try clear ho0)
     refine hK.out _ _ ⟨bc_ BK214 0, bc_ BK214 1, bc_ BK214 2⟩ (fun hHeld => ?_)
     clear hK K
     refine norm_ (a' := ?_) ?_ ?_
     rotate_left
     ·show Act.put _ (some 19) _ = _
      simp only [Act.put, List.setIfInBounds_toArray, List.set_cons_zero, List.set_cons_succ, i64_w, i32_w]
      rfl
     exact norm_ (by simp only [putAll, Act.put, List.setIfInBounds_toArray, List.set_cons_zero, List.set_cons_succ]) (hCont (v221, gb225) _ ⟨hHeld, (rm_ HO211.out (fun _ hk => hk.2)), (rm_ HO222.out (fun _ hk => hk.2)), (bk_ BK201.out), (bk_ BK202.out), (bk_ BK214.out), (bk_ BK225.out), GW225.out, GE225.out, NB206_225.out, NB225_206.out, NB201_225.out, NB225_201.out, NB202_225.out, NB225_202.out, NB214_225.out, NB225_214.out, (is75_ HI206), (bi75_ HB.out)⟩)
   rintro ⟨v221, gb225⟩ w63 ⟨hS_, h0_, h1_, h2_, h3_, h4_, h5_, h6_, h7_, h8_, h9_, h10_, h11_, h12_, h13_, h14_, h15_, h16_, h17_⟩
   have n0_ : Aside0 (Kd.R (Kd.int .i64) 2 w63 w.heap.size (fun k_ => some k_ ≠ (v221 : Value).ownBlock) (.slice Ao57 t209.length co57) t209) := ⟨h0_⟩
   have n1_ : Aside0 (Kd.R (Kd.int .i64) 2 w63 w.heap.size (fun k_ => some k_ ≠ (.slice Ao57 t209.length co57 : Value).ownBlock) v221 t220) := ⟨h1_⟩
   have n2_ : Aside0 (w63.heap[gb201]? = some (.cells #[.int .i64 0, .int .i64 0, .slice none 0 0] 28 (0, 0))) := ⟨h2_⟩
   have n3_ : Aside0 (w63.heap[gb202]? = some (.cells #[.int .i64 0, .int .i64 0, .slice none 0 0] 28 (0, 0))) := ⟨h3_⟩
   have n4_ : Aside0 (w63.heap[gb214]? = some (.cells #[.int .i64 t207, .int .i64 t208, .slice Ao57 t209.length co57] 28 (0, 0))) := ⟨h4_⟩
   have n5_ : Aside0 (w63.heap[gb225]? = some (.cells #[.int .i64 0, .int .i64 0, .slice none 0 0] 28 (0, 0))) := ⟨h5_⟩
   have n6_ : Aside0 (w.heap.size ≤ gb225) := ⟨h6_⟩
   have n7_ : Aside0 (w.heap.size ≤ gb225) := ⟨h7_⟩
   have n8_ : Aside0 (g206 ≠ gb225) := ⟨h8_⟩
   have n9_ : Aside0 (gb225 ≠ g206) := ⟨h9_⟩
   have n10_ : Aside0 (gb201 ≠ gb225) := ⟨h10_⟩
   have n11_ : Aside0 (gb225 ≠ gb201) := ⟨h11_⟩
   have n12_ : Aside0 (gb202 ≠ gb225) := ⟨h12_⟩
   have n13_ : Aside0 (gb225 ≠ gb202) := ⟨h13_⟩
   have n14_ : Aside0 (gb214 ≠ gb225) := ⟨h14_⟩
   have n15_ : Aside0 (gb225 ≠ gb214) := ⟨h15_⟩
   have n16_ : Aside0 (IsS75 w w63 g206 t203 t223 t224) := ⟨h16_⟩
   have n17_ : Aside0 (Below w.heap.size w w63) := ⟨h17_⟩
   clear HO211
   clear BK201
   clear BK202
   clear BK214
   clear HI206
   clear HB
   clear h0_ h1_ h2_ h3_ h4_ h5_ h6_ h7_ h8_ h9_ h10_ h11_ h12_ h13_ h14_ h15_ h16_ h17_
   have HO211 := n0_
   have HO222 := n1_
   have BK201 := n2_
   have BK202 := n3_
   have BK214 := n4_
   have BK225 := n5_
   have GW225 := n6_
   have GE225 := n7_
   have NB206_225 := n8_
   have NB225_206 := n9_
   have NB201_225 := n10_
   have NB225_201 := n11_
   have NB202_225 := n12_
   have NB225_202 := n13_
   have NB214_225 := n14_
   have NB225_214 := n15_
   have HI206 := n16_
   have HB := n17_
   clear n0_ n1_ n2_ n3_ n4_ n5_ n6_ n7_ n8_ n9_ n10_ n11_ n12_ n13_ n14_ n15_ n16_ n17_
   have hHeld : w63.cell? ⟨gb214, 0, none⟩ = some (.int .i64 t207) ∧ w63.cell? ⟨gb214, 1, none⟩ = some (.int .i64 t208) ∧ w63.cell? ⟨gb214, 2, none⟩ = some (.slice Ao57 t209.length co57) := hS_
   obtain ⟨Ao66, co66, eo66⟩ := Kd.R_slice HO222.out
   (first | subst eo66 | (injection eo66 with f1_ f2_ f3_; have f4_ := f1_.symm; have f5_ := f3_.symm; clear f1_ f2_ f3_; subst f4_; subst f5_))
   refine norm_ (a' := ?_) ?_ ?_
   rotate_left
   ·simp only [putAll, Act.put, List.setIfInBounds_toArray, List.set_cons_zero, List.set_cons_succ]
    rfl
   refine one_ (i := 9) (N := none) #[true, true, true, true, true, true, true, true, true, true] rfl rfl (one_of HT_.out (by kernel_rfl)) (by decide) (fun K hK => ?_)
   have hs64 : w63.cell? ⟨gb225, 0, none⟩ = some (.int .i64 0) := bc_ BK225 0
   have hfs64 := blk_frozen BK225.out 0
   have hns64_0 := NB201_225.out
   have hns64_1 := NB202_225.out
   have hns64_2 := NB214_225.out
   have hms64_0 := NB225_201.out
   have hms64_1 := NB225_202.out
   have hms64_2 := NB225_214.out
   have hs65 : w63.cell? ⟨gb225, 1, none⟩ = some (.int .i64 0) := bc_ BK225 1
   have hfs65 := blk_frozen BK225.out 1
   have hns65_0 := NB201_225.out
   have hns65_1 := NB202_225.out
   have hns65_2 := NB214_225.out
   have hms65_0 := NB225_201.out
   have hms65_1 := NB225_202.out
   have hms65_2 := NB225_214.out
   have hs67 : w63.cell? ⟨gb225, 2, none⟩ = some (.slice none 0 0) := bc_ BK225 2
   have hfs67 := blk_frozen BK225.out 2
   have hns67_0 := NB201_225.out
   have hns67_1 := NB202_225.out
   have hns67_2 := NB214_225.out
   have hms67_0 := NB225_201.out
   have hms67_1 := NB225_202.out
   have hms67_2 := NB225_214.out
   refine skip_ (w1 := ?_) (by rfl) rfl ?_ ?_
   rotate_left
   ·go_simp
    rfl
   refine hK.out _ _ ⟨((cell_far (p := ⟨gb225, _, none⟩) NB214_225.out _).trans (((cell_far (p := ⟨gb225, _, none⟩) NB214_225.out _).trans (((cell_far (p := ⟨gb225, _, none⟩) NB214_225.out _).trans (hHeld.1)))))), ((cell_far (p := ⟨gb225, _, none⟩) NB214_225.out _).trans (((cell_far (p := ⟨gb225, _, none⟩) NB214_225.out _).trans (((cell_far (p := ⟨gb225, _, none⟩) NB214_225.out _).trans (hHeld.2.1)))))), ((cell_far (p := ⟨gb225, _, none⟩) NB214_225.out _).trans (((cell_far (p := ⟨gb225, _, none⟩) NB214_225.out _).trans (((cell_far (p := ⟨gb225, _, none⟩) NB214_225.out _).trans (hHeld.2.2))))))⟩ (fun hHeld => ?_)
   clear hK K
   refine done_ (done_of HT_.out (by kernel_rfl)) ?_
   try go_wp2_with (first | ((with_reducible refine gate_callee (f := 35) rfl ?_); refine goesL_ (some 21) rfl rfl Try.func35 (by kernel_rfl) rfl #[.pointer (some ⟨g206, 0, none⟩), .int .i64 10] rfl lm_ ?_; (with_reducible refine (spec_l01Next.calls g206 t203 t223 t224 10 t226 t227 t228 w _ ?side1 ?side2 A8.out).mono ?_); (case side1 => exact is75_ HI206); (case side2 => exact bi75_ HB.out); rintro e w68 ⟨rfl, hi, hb, hk⟩; refine ⟨_, rfl, ?_⟩; have n0_ := am_ (KeepBut.blk hk (g' := gb201) (o := .cells #[.int .i64 0, .int .i64 0, .slice none 0 0] 28 (0, 0)) (bk_ BK201.out) NB201_206.out (by simp)); have n1_ := am_ (KeepBut.blk hk (g' := gb202) (o := .cells #[.int .i64 0, .int .i64 0, .slice none 0 0] 28 (0, 0)) (bk_ BK202.out) NB202_206.out (by simp)); have n2_ := am_ (Kd.R_mono (Kd.R_keep (IsS75.apart (show IsS75 w _ g206 t203 t223 t224 from is75_ HI206) ((rm_ (Kd.R_far (p := ⟨gb225, 2, none⟩) (Kd.R_far (p := ⟨gb225, 1, none⟩) (Kd.R_far (p := ⟨gb225, 0, none⟩) (Kd.R_types HO211.out BK225.out (by decide)) (fun _ hk => hk.2) (.int .i64 t218)) (fun _ hk => hk.2) (.int .i64 t219)) (fun _ hk => hk.2) (.slice Ao66 t220.length co66)) (fun _ h_ => h_.1))) (by decide)) hk (fun _ h => h.2)) (fun _ h => h.1)); have n3_ := am_ (KeepBut.blk hk (g' := gb214) (o := .cells #[.int .i64 t207, .int .i64 t208, .slice Ao57 t209.length co57] 28 (0, 0)) (bk_ BK214.out) NB214_206.out (by simp)); have n4_ := am_ (Kd.R_mono (Kd.R_keep (IsS75.apart (show IsS75 w _ g206 t203 t223 t224 from is75_ HI206) ((rm_ (Kd.R_far (p := ⟨gb225, 2, none⟩) (Kd.R_far (p := ⟨gb225, 1, none⟩) (Kd.R_far (p := ⟨gb225, 0, none⟩) (Kd.R_types HO222.out BK225.out (by decide)) (fun _ hk => hk.2) (.int .i64 t218)) (fun _ hk => hk.2) (.int .i64 t219)) (fun _ hk => hk.2) (.slice Ao66 t220.length co66)) (fun _ h_ => h_.1))) (by decide)) hk (fun _ h => h.2)) (fun _ h => h.1)); have n5_ := am_ (KeepBut.blk hk (g' := gb225) (o := .cells #[.int .i64 t218, .int .i64 t219, .slice Ao66 t220.length co66] 28 (0, 0)) (by (with_reducible repeat (first | refine blk_drewN ?_ _ | refine blk_drew ?_ | refine blk_alloc ?_ _)); refine blk_put (cs := #[.int .i64 t218, .int .i64 t219, .slice none 0 0]) ?_ 2 _ rfl; (with_reducible repeat (first | refine blk_drewN ?_ _ | refine blk_drew ?_ | refine blk_alloc ?_ _)); refine blk_put (cs := #[.int .i64 t218, .int .i64 0, .slice none 0 0]) ?_ 1 _ rfl; (with_reducible repeat (first | refine blk_drewN ?_ _ | refine blk_drew ?_ | refine blk_alloc ?_ _)); refine blk_put (cs := #[.int .i64 0, .int .i64 0, .slice none 0 0]) ?_ 0 _ rfl; (with_reducible repeat (first | refine blk_drewN ?_ _ | refine blk_drew ?_ | refine blk_alloc ?_ _)); exact BK225.out) NB225_206.out (by simp)); have n6_ := am_ (hb); have n7_ := am_ (hi); clear BK201 BK202 HO211 BK214 HO222 BK225 HB HI206; revert n0_ n1_ n2_ n3_ n4_ n5_ n6_ n7_; intro BK201 BK202 HO211 BK214 HO222 BK225 HB HI206; (try clear hb); (try clear hb2); (try clear hk); (try clear hi)))
   go_loopg [7] k (fun kq v7 w' => ∃ (x7_1 : Int) (x215002_1 : List Int) (x226002_1 : List Int) (u215002 : Value) (u226002 : Value), v7 = .int .i64 x7_1 ∧ Aside0 (spec_DrawMultiplyMatrices.l0 kq x7_1 t207 t208 x215002_1 t218 t219 x226002_1 = some (r1, r2, r3, r4, r5, r6)) ∧ Aside0 (kq ≤ k) ∧ Aside0 (Kd.R (Kd.int .i64) 2 w' w.heap.size (fun k_ => some k_ ≠ (u226002 : Value).ownBlock) u215002 x215002_1) ∧ Aside0 (Kd.R (Kd.int .i64) 2 w' w.heap.size (fun k_ => some k_ ≠ (u215002 : Value).ownBlock) u226002 x226002_1) ∧ Aside0 (w'.heap[gb201]? = some (.cells #[.int .i64 0, .int .i64 0, (.slice none 0 0)] 28 (0, 0))) ∧ Aside0 (w'.heap[gb202]? = some (.cells #[.int .i64 0, .int .i64 0, (.slice none 0 0)] 28 (0, 0))) ∧ Aside0 (w'.heap[gb214]? = some (.cells #[.int .i64 t207, .int .i64 t208, u215002] 28 (0, 0))) ∧ Aside0 (w'.heap[gb225]? = some (.cells #[.int .i64 t218, .int .i64 t219, u226002] 28 (0, 0))) ∧ Aside0 (Below w.heap.size w w'))
   case atStart => exact ⟨(0), (t209), (t220), (.slice Ao57 t209.length co57), (.slice Ao66 t220.length co66), (by first | rfl | (simp; done) | (simp [*]; done)), H', ⟨Nat.le_refl _⟩, ⟨rk_ HO211.out⟩, ⟨rk_ HO222.out⟩, ⟨bk_ BK201.out⟩, ⟨bk_ BK202.out⟩, ⟨bk_ BK214.out⟩, ⟨bk_ BK225.out⟩, ⟨bi75_ HB.out⟩⟩
   case round =>
    clear H'
    try clear c1
    try clear p2
    try clear c3
    try clear c4
    try clear c5
    try clear c9
    try clear c9b0
    try clear c9b1
    try clear c12
    try clear c32
    try clear c33
    try clear c34
    try clear c35
    try clear c47
    try clear c47b0
    try clear c47b1
    try clear c53
    try clear c54
    try clear c55
    try clear hcz56_0
    try clear hcz56_1
    try clear hcz56_2
    try clear hfz56_0
    try clear hfz56_1
    try clear hfz56_2
    obtain ⟨x7_1, x215002_1, x226002_1, u215002, u226002, rfl, HA, HK1, HO_215002, HO_226002, BK201, BK202, BK214, BK225, HB⟩ := hrel
    cases gk with
    | zero => exact absurd HA.out (by simp [spec_DrawMultiplyMatrices.l0])
    | succ k1 =>
     have H := HA.out
     clear HA
     simp only [spec_DrawMultiplyMatrices.l0] at H
     by_cases c69 : x7_1 < (x226002_1.length : Int)
     ·rw [if_pos c69] at H
      have c69b0 : decide (x7_1 < (x226002_1.length : Int)) = true := decide_eq_true c69
      clear c69
      by_cases c70 : 0 ≤ x7_1
      ·rw [if_pos c70] at H
       have c70b0 : decide (0 ≤ x7_1) = true := decide_eq_true c70
       clear c70
       obtain ⟨y237, hy237⟩ : ∃ y_ : List Int, y_ = (x226002_1.set (x7_1 : Int).toNat (wrap64 ((rd x226002_1 x7_1) * 100000000000))) := ⟨_, rfl⟩
       replace H : (spec_DrawMultiplyMatrices.l0 k1 (wrap64 (x7_1 + 1)) t207 t208 x215002_1 t218 t219 y237) = some (r1, r2, r3, r4, r5, r6) := by first | (rw [hy237]; with_reducible exact H) | (have H2_ := (Option.bind_some _ _).symm.trans H; rw [hy237]; with_reducible exact H2_) | (have H2_ := (Option.bind_some _ _).symm.trans H; with_reducible exact H2_) | with_reducible exact H | (rw [hy237]; exact H) | exact H
       have Ny237 := am_ hy237
       clear hy237
       have H' := am_ H
       clear H
       have hnb72 := NB225_201.out
       have hnc72 := NB201_225.out
       have hnb73 := NB225_202.out
       have hnc73 := NB202_225.out
       have hnb74 := NB225_214.out
       have hnc74 := NB214_225.out
       have hcz75_0 : wr.cell? ⟨gb225, 0, none⟩ = some (.int .i64 t218) := bc_ BK225 0
       have hcz75_1 : wr.cell? ⟨gb225, 1, none⟩ = some (.int .i64 t219) := bc_ BK225 1
       have hcz75_2 : wr.cell? ⟨gb225, 2, none⟩ = some (u226002) := bc_ BK225 2
       have hfz75_0 := blk_frozen BK225.out 0
       have hfz75_1 := blk_frozen BK225.out 1
       have hfz75_2 := blk_frozen BK225.out 2
       obtain ⟨Ao76, co76, eo76⟩ := Kd.R_slice HO_226002.out
       subst eo76
       try go_wp2
       have n0_ := am_ (Kd.R_drew HO_215002.out)
       have n1_ := am_ (Kd.R_drew HO_226002.out)
       have n2_ := am_ (blk_drew BK201.out)
       have n3_ := am_ (blk_drew BK202.out)
       have n4_ := am_ (blk_drew BK214.out)
       have n5_ := am_ (blk_drew BK225.out)
       have n6_ := am_ (below_drew1 HB.out)
       clear HO_215002 HO_226002 BK201 BK202 BK214 BK225 HB; revert n0_ n1_ n2_ n3_ n4_ n5_ n6_; intro HO_215002 HO_226002 BK201 BK202 BK214 BK225 HB
       have p236 : 0 ≤ (x7_1 : Int) := of_decide_eq_true (by first | (with_reducible assumption) | assumption)
       have q236 : x7_1 < (x226002_1.length : Int) := of_decide_eq_true (by first | (with_reducible assumption) | assumption)
       obtain ⟨ad236, e236, hx236_0⟩ := Kd.at_int (Kd.R_reads' HO_226002.out).2.2 x7_1 p236 q236
       cases e236
       replace p236 := eq_true p236
       replace q236 := eq_true q236
       have p71 : 0 ≤ (x7_1 : Int) := of_decide_eq_true (by first | (with_reducible assumption) | assumption)
       have q71 : (x7_1 : Int) < ((x226002_1.length : Int) : Int) := of_decide_eq_true (by first | (with_reducible assumption) | assumption)
       obtain ⟨go71, co71, eo71, gb71, gl71, cl71, HG71⟩ := Kd.R_form HO_226002.out (by omega)
       (first | cases eo71 | (injection eo71 with ea_ en_ ec_; (first | subst ea_ | (injection ea_ with ea_; subst ea_)); subst ec_; clear en_))
       have GB71 := am_ gb71
       have GG71 := am_ HG71
       clear gb71 gl71 HG71
       (first | simp only [add_plain] at hx236_0 | skip)
       obtain ⟨hx71_0, hf71_0⟩ := Kd.R_celln 0 HO_226002.out (x7_1 : Int) p71 q71
       replace p71 := eq_true p71
       replace q71 := eq_true q71
       have HP78 := Kd.R_putn HO_226002.out (x7_1 : Int) (wrap64 ((rd x226002_1 x7_1) * 100000000000))
       rw [← Ny237.out] at HP78
       have HQ78 := am_ HP78
       clear HP78
       refine start_ (n := 11) (S := fun w' => w'.cell? ⟨gb225, 0, none⟩ = some (.int .i64 t218) ∧ w'.cell? ⟨gb225, 1, none⟩ = some (.int .i64 t219) ∧ w'.cell? ⟨gb225, 2, none⟩ = some (.slice (some ⟨go71, 0, none⟩) x226002_1.length co76) ∧ w'.cell? ⟨go71, (x7_1).toNat, none⟩ = some (.int .i64 (rd x226002_1 x7_1))) (ds := [10]) #[false, false, false, false, false, false, false, false, false, false, false] (by kernel_rfl) rfl rfl ⟨bc_ BK225 0, bc_ BK225 1, bc_ BK225 2, hx236_0⟩ (fun hHeld => ?_); refine with_tabW spec_DrawMultiplyMatrices.tab11 spec_DrawMultiplyMatrices.bits11 (fun HT_ HW_ => ?_)
       generalize wr.drew = w77 at HO_215002 HO_226002 BK201 BK202 BK214 BK225 HB GG71 HQ78 hf71_0 hx236_0 hx71_0 hHeld ⊢
       refine pure_ (i := 0) (N := some 35) (v := ?_) (a' := ?_) #[true, false, false, false, false, false, false, false, false, false, false] rfl rfl (any_of HT_.out (by kernel_rfl)) (fun _ _ _ h => h) (Or.inl ⟨by rfl, ?_⟩) ?_ ?_
       rotate_left
       ·intro w'
        go_simp
        with_reducible rfl
       rotate_left
       ·simp only [Act.put, List.setIfInBounds_toArray, List.set_cons_zero, List.set_cons_succ, i64_w, i32_w]
        rfl
       refine pure_ (i := 2) (N := some 37) (v := ?_) (a' := ?_) #[true, false, true, false, false, false, false, false, false, false, false] rfl rfl (any_of HT_.out (by kernel_rfl)) (fun _ _ _ h => h) (Or.inl ⟨by rfl, ?_⟩) ?_ ?_
       rotate_left
       ·intro w'
        go_simp
        with_reducible rfl
       rotate_left
       ·simp only [Act.put, List.setIfInBounds_toArray, List.set_cons_zero, List.set_cons_succ, i64_w, i32_w]
        rfl
       refine pure_ (i := 3) (N := some 38) (v := ?_) (a' := ?_) #[true, false, true, true, false, false, false, false, false, false, false] rfl rfl (any_of HT_.out (by kernel_rfl)) (fun _ _ _ h => h) (Or.inl ⟨by rfl, ?_⟩) ?_ ?_
       rotate_left
       ·intro w'
        go_simp
        with_reducible rfl
       rotate_left
       ·simp only [Act.put, List.setIfInBounds_toArray, List.set_cons_zero, List.set_cons_succ, i64_w, i32_w]
        rfl
       refine pure_ (i := 5) (N := some 40) (v := ?_) (a' := ?_) #[true, false, true, true, false, true, false, false, false, false, false] rfl rfl (any_of HT_.out (by kernel_rfl)) (fun _ _ _ h => h) (Or.inl ⟨by rfl, ?_⟩) ?_ ?_
       rotate_left
       ·intro w'
        go_simp
        with_reducible rfl
       rotate_left
       ·simp only [Act.put, List.setIfInBounds_toArray, List.set_cons_zero, List.set_cons_succ, i64_w, i32_w]
        rfl
       refine take_ (i := 1) (N := some 36) (v := ?_) (a' := ?_) #[true, true, true, true, false, true, false, false, false, false, false] rfl rfl (take_ofW HT_.out HW_.out (by kernel_rfl)) (fun _ _ _ h => h) (Or.inl ⟨by rfl, ?_⟩) hHeld ?_ ?_
       rotate_left
       ·rintro w' ⟨s0, s1, s2, s3⟩
        go_simp
        with_reducible rfl
       rotate_left
       ·simp only [Act.put, List.setIfInBounds_toArray, List.set_cons_zero, List.set_cons_succ, i64_w, i32_w]
        rfl
       refine take_ (i := 4) (N := some 39) (v := ?_) (a' := ?_) #[true, true, true, true, true, true, false, false, false, false, false] rfl rfl (take_ofW HT_.out HW_.out (by kernel_rfl)) (fun _ _ _ h => h) (Or.inl ⟨by rfl, ?_⟩) hHeld ?_ ?_
       rotate_left
       ·rintro w' ⟨s0, s1, s2, s3⟩
        go_simp
        with_reducible rfl
       rotate_left
       ·simp only [Act.put, List.setIfInBounds_toArray, List.set_cons_zero, List.set_cons_succ, i64_w, i32_w]
        rfl
       refine pure_ (i := 6) (N := some 41) (v := ?_) (a' := ?_) #[true, true, true, true, true, true, true, false, false, false, false] rfl rfl (any_of HT_.out (by kernel_rfl)) (fun _ _ _ h => h) (Or.inl ⟨by rfl, ?_⟩) ?_ ?_
       rotate_left
       ·intro w'
        go_simp
        with_reducible rfl
       rotate_left
       ·simp only [Act.put, List.setIfInBounds_toArray, List.set_cons_zero, List.set_cons_succ, i64_w, i32_w]
        rfl
       refine take_ (i := 7) (N := some 42) (v := ?_) (a' := ?_) #[true, true, true, true, true, true, true, true, false, false, false] rfl rfl (take_ofW HT_.out HW_.out (by kernel_rfl)) (fun _ _ _ h => h) (Or.inl ⟨by rfl, ?_⟩) hHeld ?_ ?_
       rotate_left
       ·rintro w' ⟨s0, s1, s2, s3⟩
        go_simp
        with_reducible rfl
       rotate_left
       ·simp only [Act.put, List.setIfInBounds_toArray, List.set_cons_zero, List.set_cons_succ, i64_w, i32_w]
        rfl
       refine pure_ (i := 8) (N := some 43) (v := ?_) (a' := ?_) #[true, true, true, true, true, true, true, true, true, false, false] rfl rfl (any_of HT_.out (by kernel_rfl)) (fun _ _ _ h => h) (Or.inl ⟨by rfl, ?_⟩) ?_ ?_
       rotate_left
       ·intro w'
        go_simp
        with_reducible rfl
       rotate_left
       ·simp only [Act.put, List.setIfInBounds_toArray, List.set_cons_zero, List.set_cons_succ, i64_w, i32_w]
        rfl
       refine pure_ (i := 9) (N := some 44) (v := ?_) (a' := ?_) #[true, true, true, true, true, true, true, true, true, true, false] rfl rfl (any_of HT_.out (by kernel_rfl)) (fun _ _ _ h => h) (Or.inl ⟨by rfl, ?_⟩) ?_ ?_
       rotate_left
       ·intro w'
        go_simp
        with_reducible rfl
       rotate_left
       ·simp only [Act.put, List.setIfInBounds_toArray, List.set_cons_zero, List.set_cons_succ, i64_w, i32_w]
        rfl
       refine last_ (i := 10) (N := none) #[true, true, true, true, true, true, true, true, true, true, true] rfl rfl (one_of HT_.out (by kernel_rfl)) (by decide) (fun K hK => ?_)
       refine skip_ (w1 := ?_) (by rfl) rfl ?_ ?_
       rotate_left
       ·go_simp
        rfl
       refine hK.out _ _ ?_
       clear hK K
       refine done_ (done_of HT_.out (by kernel_rfl)) ?_
       try go_wp2
       go_roundg k1
       case measure => have := HK1.out; omega
       case rel => exact ⟨(wrap64 (x7_1 + 1)), (x215002_1), (y237), (u215002), (.slice (some ⟨go71, 0, none⟩) x226002_1.length co76), (by first | rfl | (simp; done) | (simp [*]; done)), H', ⟨by have := HK1.out; omega⟩, ⟨rm_ (Kd.R_far (p := ⟨go71, (x7_1 : Int).toNat, none⟩) (Kd.R_mono HO_215002.out (fun k_ hk => (⟨hk, fun e_ => hk (by rw [e_]; rfl)⟩ : _ ∧ k_ ≠ go71))) (fun _ hk => hk.2) (.int .i64 (wrap64 ((rd x226002_1 x7_1) * 100000000000)))) (fun _ hk => hk.1)⟩, ⟨rk_ HQ78.out⟩, ⟨by (with_reducible repeat (first | refine blk_drewN ?_ _ | refine blk_drew ?_ | refine blk_alloc ?_ _)); refine blk_far ?_ (by have h_ := Kd.R_ne HO_226002.out BK201.out (by decide); intro e_; exact h_ (by rw [e_]; rfl)) _; (with_reducible repeat (first | refine blk_drewN ?_ _ | refine blk_drew ?_ | refine blk_alloc ?_ _)); exact BK201.out⟩, ⟨by (with_reducible repeat (first | refine blk_drewN ?_ _ | refine blk_drew ?_ | refine blk_alloc ?_ _)); refine blk_far ?_ (by have h_ := Kd.R_ne HO_226002.out BK202.out (by decide); intro e_; exact h_ (by rw [e_]; rfl)) _; (with_reducible repeat (first | refine blk_drewN ?_ _ | refine blk_drew ?_ | refine blk_alloc ?_ _)); exact BK202.out⟩, ⟨by (with_reducible repeat (first | refine blk_drewN ?_ _ | refine blk_drew ?_ | refine blk_alloc ?_ _)); refine blk_far ?_ (by have h_ := Kd.R_ne HO_226002.out BK214.out (by decide); intro e_; exact h_ (by rw [e_]; rfl)) _; (with_reducible repeat (first | refine blk_drewN ?_ _ | refine blk_drew ?_ | refine blk_alloc ?_ _)); exact BK214.out⟩, ⟨by (with_reducible repeat (first | refine blk_drewN ?_ _ | refine blk_drew ?_ | refine blk_alloc ?_ _)); refine blk_far ?_ (by have h_ := Kd.R_ne HO_226002.out BK225.out (by decide); intro e_; exact h_ (by rw [e_]; rfl)) _; (with_reducible repeat (first | refine blk_drewN ?_ _ | refine blk_drew ?_ | refine blk_alloc ?_ _)); exact BK225.out⟩, ⟨bb_ HB.out⟩⟩
      ·rw [if_neg c70] at H
       exact absurd H (by simp)
     ·rw [if_neg c69] at H
      have c69b0 : decide (x7_1 < (x226002_1.length : Int)) = false := decide_eq_false c69
      clear c69
      simp only [Option.some.injEq, Prod.mk.injEq] at H
      obtain ⟨rfl, rfl, rfl, rfl, rfl, rfl⟩ := H
      have hnb79 := NB225_201.out
      have hnc79 := NB201_225.out
      have hnb80 := NB225_202.out
      have hnc80 := NB202_225.out
      have hnb81 := NB225_214.out
      have hnc81 := NB214_225.out
      have hcz82_0 : wr.cell? ⟨gb225, 0, none⟩ = some (.int .i64 t218) := bc_ BK225 0
      have hcz82_1 : wr.cell? ⟨gb225, 1, none⟩ = some (.int .i64 t219) := bc_ BK225 1
      have hcz82_2 : wr.cell? ⟨gb225, 2, none⟩ = some (u226002) := bc_ BK225 2
      have hfz82_0 := blk_frozen BK225.out 0
      have hfz82_1 := blk_frozen BK225.out 1
      have hfz82_2 := blk_frozen BK225.out 2
      obtain ⟨Ao83, co83, eo83⟩ := Kd.R_slice HO_226002.out
      subst eo83
      try go_wp2
      have n0_ := am_ (Kd.R_drew HO_215002.out)
      have n1_ := am_ (Kd.R_drew HO_226002.out)
      have n2_ := am_ (blk_drew BK201.out)
      have n3_ := am_ (blk_drew BK202.out)
      have n4_ := am_ (blk_drew BK214.out)
      have n5_ := am_ (blk_drew BK225.out)
      have n6_ := am_ (below_drew1 HB.out)
      clear HO_215002 HO_226002 BK201 BK202 BK214 BK225 HB; revert n0_ n1_ n2_ n3_ n4_ n5_ n6_; intro HO_215002 HO_226002 BK201 BK202 BK214 BK225 HB
      obtain ⟨Ao87, co87, eo87⟩ := Kd.R_slice HO_215002.out
      (first | subst eo87 | (injection eo87 with f1_ f2_ f3_; have f4_ := f1_.symm; have f5_ := f3_.symm; clear f1_ f2_ f3_; subst f4_; subst f5_))
      refine start_ (n := 4) (S := fun w' => w'.cell? ⟨gb214, 0, none⟩ = some (.int .i64 t207) ∧ w'.cell? ⟨gb214, 1, none⟩ = some (.int .i64 t208) ∧ w'.cell? ⟨gb214, 2, none⟩ = some (.slice Ao87 x215002_1.length co87) ∧ w'.cell? ⟨gb225, 0, none⟩ = some (.int .i64 t218) ∧ w'.cell? ⟨gb225, 1, none⟩ = some (.int .i64 t219) ∧ w'.cell? ⟨gb225, 2, none⟩ = some (.slice Ao83 x226002_1.length co83)) (ds := []) #[false, false, false, false] (by kernel_rfl) rfl rfl ⟨bc_ BK214 0, bc_ BK214 1, bc_ BK214 2, bc_ BK225 0, bc_ BK225 1, bc_ BK225 2⟩ (fun hHeld => ?_)
      generalize wr.drew = w84 at HO_215002 HO_226002 BK201 BK202 BK214 BK225 HB hHeld ⊢
      refine take_ (i := 0) (N := some 45) (v := ?_) (a' := ?_) #[true, false, false, false] rfl rfl (by kernel_rfl) (fun _ _ _ h => h) (Or.inl ⟨by rfl, ?_⟩) hHeld ?_ ?_
      rotate_left
      ·rintro w' ⟨s0, s1, s2, s3, s4, s5⟩
       go_simp
       with_reducible rfl
      rotate_left
      ·simp only [Act.put, List.setIfInBounds_toArray, List.set_cons_zero, List.set_cons_succ, i64_w, i32_w]
       rfl
      refine take_ (i := 1) (N := some 46) (v := ?_) (a' := ?_) #[true, true, false, false] rfl rfl (by kernel_rfl) (fun _ _ _ h => h) (Or.inl ⟨by rfl, ?_⟩) hHeld ?_ ?_
      rotate_left
      ·rintro w' ⟨s0, s1, s2, s3, s4, s5⟩
       go_simp
       with_reducible rfl
      rotate_left
      ·simp only [Act.put, List.setIfInBounds_toArray, List.set_cons_zero, List.set_cons_succ, i64_w, i32_w]
       rfl
      refine one_ (i := 2) (N := none) #[true, true, true, false] rfl rfl (by kernel_rfl) (by decide) (fun K hK => ?_)
      have hs85 : w84.cell? ⟨gb201, 0, none⟩ = some (.int .i64 0) := bc_ BK201 0
      have hfs85 := blk_frozen BK201.out 0
      have hns85_1 := NB202_201.out
      have hns85_2 := NB214_201.out
      have hns85_3 := NB225_201.out
      have hms85_1 := NB201_202.out
      have hms85_2 := NB201_214.out
      have hms85_3 := NB201_225.out
      have hs86 : w84.cell? ⟨gb201, 1, none⟩ = some (.int .i64 0) := bc_ BK201 1
      have hfs86 := blk_frozen BK201.out 1
      have hns86_1 := NB202_201.out
      have hns86_2 := NB214_201.out
      have hns86_3 := NB225_201.out
      have hms86_1 := NB201_202.out
      have hms86_2 := NB201_214.out
      have hms86_3 := NB201_225.out
      have hs88 : w84.cell? ⟨gb201, 2, none⟩ = some (.slice none 0 0) := bc_ BK201 2
      have hfs88 := blk_frozen BK201.out 2
      have hns88_1 := NB202_201.out
      have hns88_2 := NB214_201.out
      have hns88_3 := NB225_201.out
      have hms88_1 := NB201_202.out
      have hms88_2 := NB201_214.out
      have hms88_3 := NB201_225.out
      refine skip_ (w1 := ?_) (by rfl) rfl ?_ ?_
      rotate_left
      ·go_simp
       rfl
      refine hK.out _ _ ⟨((cell_far (p := ⟨gb201, _, none⟩) NB214_201.out _).trans (((cell_far (p := ⟨gb201, _, none⟩) NB214_201.out _).trans (((cell_far (p := ⟨gb201, _, none⟩) NB214_201.out _).trans (hHeld.1)))))), ((cell_far (p := ⟨gb201, _, none⟩) NB214_201.out _).trans (((cell_far (p := ⟨gb201, _, none⟩) NB214_201.out _).trans (((cell_far (p := ⟨gb201, _, none⟩) NB214_201.out _).trans (hHeld.2.1)))))), ((cell_far (p := ⟨gb201, _, none⟩) NB214_201.out _).trans (((cell_far (p := ⟨gb201, _, none⟩) NB214_201.out _).trans (((cell_far (p := ⟨gb201, _, none⟩) NB214_201.out _).trans (hHeld.2.2.1)))))), ((cell_far (p := ⟨gb201, _, none⟩) NB225_201.out _).trans (((cell_far (p := ⟨gb201, _, none⟩) NB225_201.out _).trans (((cell_far (p := ⟨gb201, _, none⟩) NB225_201.out _).trans (hHeld.2.2.2.1)))))), ((cell_far (p := ⟨gb201, _, none⟩) NB225_201.out _).trans (((cell_far (p := ⟨gb201, _, none⟩) NB225_201.out _).trans (((cell_far (p := ⟨gb201, _, none⟩) NB225_201.out _).trans (hHeld.2.2.2.2.1)))))), ((cell_far (p := ⟨gb201, _, none⟩) NB225_201.out _).trans (((cell_far (p := ⟨gb201, _, none⟩) NB225_201.out _).trans (((cell_far (p := ⟨gb201, _, none⟩) NB225_201.out _).trans (hHeld.2.2.2.2.2))))))⟩ (fun hHeld => ?_)
      clear hK K
      refine one_ (i := 3) (N := none) #[true, true, true, true] rfl rfl (by kernel_rfl) (by decide) (fun K hK => ?_)
      have hs89 : w84.cell? ⟨gb202, 0, none⟩ = some (.int .i64 0) := bc_ BK202 0
      have hfs89 := blk_frozen BK202.out 0
      have hns89_0 := NB201_202.out
      have hns89_2 := NB214_202.out
      have hns89_3 := NB225_202.out
      have hms89_0 := NB202_201.out
      have hms89_2 := NB202_214.out
      have hms89_3 := NB202_225.out
      have hs90 : w84.cell? ⟨gb202, 1, none⟩ = some (.int .i64 0) := bc_ BK202 1
      have hfs90 := blk_frozen BK202.out 1
      have hns90_0 := NB201_202.out
      have hns90_2 := NB214_202.out
      have hns90_3 := NB225_202.out
      have hms90_0 := NB202_201.out
      have hms90_2 := NB202_214.out
      have hms90_3 := NB202_225.out
      have hs91 : w84.cell? ⟨gb202, 2, none⟩ = some (.slice none 0 0) := bc_ BK202 2
      have hfs91 := blk_frozen BK202.out 2
      have hns91_0 := NB201_202.out
      have hns91_2 := NB214_202.out
      have hns91_3 := NB225_202.out
      have hms91_0 := NB202_201.out
      have hms91_2 := NB202_214.out
      have hms91_3 := NB202_225.out
      refine skip_ (w1 := ?_) (by rfl) rfl ?_ ?_
      rotate_left
      ·go_simp
       rfl
      refine hK.out _ _ ⟨((cell_far (p := ⟨gb202, _, none⟩) NB214_202.out _).trans (((cell_far (p := ⟨gb202, _, none⟩) NB214_202.out _).trans (((cell_far (p := ⟨gb202, _, none⟩) NB214_202.out _).trans (hHeld.1)))))), ((cell_far (p := ⟨gb202, _, none⟩) NB214_202.out _).trans (((cell_far (p := ⟨gb202, _, none⟩) NB214_202.out _).trans (((cell_far (p := ⟨gb202, _, none⟩) NB214_202.out _).trans (hHeld.2.1)))))), ((cell_far (p := ⟨gb202, _, none⟩) NB214_202.out _).trans (((cell_far (p := ⟨gb202, _, none⟩) NB214_202.out _).trans (((cell_far (p := ⟨gb202, _, none⟩) NB214_202.out _).trans (hHeld.2.2.1)))))), ((cell_far (p := ⟨gb202, _, none⟩) NB225_202.out _).trans (((cell_far (p := ⟨gb202, _, none⟩) NB225_202.out _).trans (((cell_far (p := ⟨gb202, _, none⟩) NB225_202.out _).trans (hHeld.2.2.2.1)))))), ((cell_far (p := ⟨gb202, _, none⟩) NB225_202.out _).trans (((cell_far (p := ⟨gb202, _, none⟩) NB225_202.out _).trans (((cell_far (p := ⟨gb202, _, none⟩) NB225_202.out _).trans (hHeld.2.2.2.2.1)))))), ((cell_far (p := ⟨gb202, _, none⟩) NB225_202.out _).trans (((cell_far (p := ⟨gb202, _, none⟩) NB225_202.out _).trans (((cell_far (p := ⟨gb202, _, none⟩) NB225_202.out _).trans (hHeld.2.2.2.2.2))))))⟩ (fun hHeld => ?_)
      clear hK K
      refine done_ (by kernel_rfl) ?_
      try go_wp2
      refine bodyPost_ret (results_cc rfl _ _ gb201 gb202 28 28 #[.int .i64 t207, .int .i64 t208, .slice Ao87 x215002_1.length co87] #[.int .i64 t218, .int .i64 t219, .slice Ao83 x226002_1.length co83] (0, 0) (0, 0) _ _ rfl (by (with_reducible repeat (first | refine blk_drewN ?_ _ | refine blk_drew ?_ | refine blk_alloc ?_ _)); refine blk_far ?_ NB201_202.out _; (with_reducible repeat (first | refine blk_drewN ?_ _ | refine blk_drew ?_ | refine blk_alloc ?_ _)); refine blk_far ?_ NB201_202.out _; (with_reducible repeat (first | refine blk_drewN ?_ _ | refine blk_drew ?_ | refine blk_alloc ?_ _)); refine blk_far ?_ NB201_202.out _; (with_reducible repeat (first | refine blk_drewN ?_ _ | refine blk_drew ?_ | refine blk_alloc ?_ _)); refine blk_put (cs := #[.int .i64 t207, .int .i64 t208, .slice none 0 0]) ?_ 2 _ rfl; (with_reducible repeat (first | refine blk_drewN ?_ _ | refine blk_drew ?_ | refine blk_alloc ?_ _)); refine blk_put (cs := #[.int .i64 t207, .int .i64 0, .slice none 0 0]) ?_ 1 _ rfl; (with_reducible repeat (first | refine blk_drewN ?_ _ | refine blk_drew ?_ | refine blk_alloc ?_ _)); refine blk_put (cs := #[.int .i64 0, .int .i64 0, .slice none 0 0]) ?_ 0 _ rfl; (with_reducible repeat (first | refine blk_drewN ?_ _ | refine blk_drew ?_ | refine blk_alloc ?_ _)); exact BK201.out) Try.underlying28 rfl (by kernel_rfl) rfl (by (with_reducible repeat (first | refine blk_drewN ?_ _ | refine blk_drew ?_ | refine blk_alloc ?_ _)); refine blk_put (cs := #[.int .i64 t218, .int .i64 t219, .slice none 0 0]) ?_ 2 _ rfl; (with_reducible repeat (first | refine blk_drewN ?_ _ | refine blk_drew ?_ | refine blk_alloc ?_ _)); refine blk_put (cs := #[.int .i64 t218, .int .i64 0, .slice none 0 0]) ?_ 1 _ rfl; (with_reducible repeat (first | refine blk_drewN ?_ _ | refine blk_drew ?_ | refine blk_alloc ?_ _)); refine blk_put (cs := #[.int .i64 0, .int .i64 0, .slice none 0 0]) ?_ 0 _ rfl; (with_reducible repeat (first | refine blk_drewN ?_ _ | refine blk_drew ?_ | refine blk_alloc ?_ _)); refine blk_far ?_ NB202_201.out _; (with_reducible repeat (first | refine blk_drewN ?_ _ | refine blk_drew ?_ | refine blk_alloc ?_ _)); refine blk_far ?_ NB202_201.out _; (with_reducible repeat (first | refine blk_drewN ?_ _ | refine blk_drew ?_ | refine blk_alloc ?_ _)); refine blk_far ?_ NB202_201.out _; (with_reducible repeat (first | refine blk_drewN ?_ _ | refine blk_drew ?_ | refine blk_alloc ?_ _)); exact BK202.out) Try.underlying28 rfl (by kernel_rfl)) rfl ?_
      exact ⟨_, _, by first | rfl | (simp [errW_none, errW_some] <;> rfl) | (simp only [← hji4, ← hji5]; first | rfl | (simp [errW_none, errW_some] <;> rfl)) | (simp [*, errW_none, errW_some] <;> rfl), rm_ (Kd.R_far (p := ⟨gb202, 2, none⟩) (Kd.R_far (p := ⟨gb202, 1, none⟩) (Kd.R_far (p := ⟨gb202, 0, none⟩) (Kd.R_far (p := ⟨gb201, 2, none⟩) (Kd.R_far (p := ⟨gb201, 1, none⟩) (Kd.R_far (p := ⟨gb201, 0, none⟩) (Kd.R_types (Kd.R_types HO_215002.out BK201.out (by decide)) BK202.out (by decide)) (fun _ hk => hk.1.2) (.int .i64 t207)) (fun _ hk => hk.1.2) (.int .i64 t208)) (fun _ hk => hk.1.2) (.slice Ao87 x215002_1.length co87)) (fun _ hk => hk.2) (.int .i64 t218)) (fun _ hk => hk.2) (.int .i64 t219)) (fun _ hk => hk.2) (.slice Ao83 x226002_1.length co83)) (fun _ hk => hk.1.1), rm_ (Kd.R_far (p := ⟨gb202, 2, none⟩) (Kd.R_far (p := ⟨gb202, 1, none⟩) (Kd.R_far (p := ⟨gb202, 0, none⟩) (Kd.R_far (p := ⟨gb201, 2, none⟩) (Kd.R_far (p := ⟨gb201, 1, none⟩) (Kd.R_far (p := ⟨gb201, 0, none⟩) (Kd.R_types (Kd.R_types HO_226002.out BK201.out (by decide)) BK202.out (by decide)) (fun _ hk => hk.1.2) (.int .i64 t207)) (fun _ hk => hk.1.2) (.int .i64 t208)) (fun _ hk => hk.1.2) (.slice Ao87 x215002_1.length co87)) (fun _ hk => hk.2) (.int .i64 t218)) (fun _ hk => hk.2) (.int .i64 t219)) (fun _ hk => hk.2) (.slice Ao83 x226002_1.length co83)) (fun _ hk => hk.1.1), bb_ HB.out⟩
  ·rw [if_neg c47] at H
   have c47b0 : (t226 == 1) = false := beq_eq_false_iff_ne.mpr c47
   have c47b1 : (t226 != 1) = true := bne_iff_ne.mpr c47
   simp only [Option.some.injEq, Prod.mk.injEq] at H
   obtain ⟨rfl, rfl, rfl, rfl, rfl, rfl⟩ := H
   go_enter Try.func12, Try.ntmps12
   try go_wp2_with (first | ((with_reducible refine gate_dst (N := 2) rfl ?_); refine box_event ?hg (N := 2) ?hd (cs := #[.int .i64 0, .int .i64 0, .slice none 0 0]) (t := 28) ?hr ?_; (case hd => rfl); (case hg => rfl); (case hr => first | (go_simp; done) | (go_simp; rfl)); intro gb201 hg w92 hbox hb; have n0_ := am_ (below_step (bb_ HB.out) hb); have n1_ := am_ (hbox); have n2_ := am_ ((by rw [hg]; exact (below_size (bb_ HB.out)) : w.heap.size ≤ gb201)); have n3_ := am_ ((by rw [hg]; exact (below_size (bb_ HB.out)) : w.heap.size ≤ gb201)); clear HB; revert n0_ n1_ n2_ n3_; intro HB BK201 GW201 GE201; clear hb hbox hg) | ((with_reducible refine gate_dst (N := 3) rfl ?_); refine box_event ?hg (N := 3) ?hd (cs := #[.int .i64 0, .int .i64 0, .slice none 0 0]) (t := 28) ?hr ?_; (case hd => rfl); (case hg => rfl); (case hr => first | (go_simp; done) | (go_simp; rfl)); intro gb202 hg w93 hbox hb; have n0_ := am_ (bw_ BK201 hb); have n1_ := am_ (below_step (bb_ HB.out) hb); have n2_ := am_ (hbox); have n3_ := am_ ((by rw [hg]; exact (below_size (bb_ HB.out)) : w.heap.size ≤ gb202)); have n4_ := am_ ((by rw [hg]; exact (below_size (bb_ HB.out)) : w.heap.size ≤ gb202)); have n5_ := am_ (nl_ BK201 hg); have n6_ := am_ (ng_ BK201 hg); clear BK201 HB; revert n0_ n1_ n2_ n3_ n4_ n5_ n6_; intro BK201 HB BK202 GW202 GE202 NB201_202 NB202_201; clear hb hbox hg) | ((with_reducible refine gate_callee (f := 32) rfl ?_); refine goesL_ (some 9) rfl rfl Try.func32 (by kernel_rfl) rfl #[.slice A0 l0.length c0] rfl lm_ ?_; (with_reducible refine (spec_l01From.calls k _ _ l0 t203 t204 t205 w _ ?side1 ?side2 ?side3 A2.out).mono ?_); (case side1 => exact bb_ HB.out); (case side2 => exact HR0.out); (case side3 => exact HC0.out); rintro e w94 ⟨g206, rfl, hi, hb, hb2⟩; refine ⟨_, rfl, ?_⟩; have n0_ := am_ (bw_ BK201 hb2); have n1_ := am_ (bw_ BK202 hb2); have n2_ := am_ (hb); have n3_ := am_ (hi); have n4_ := am_ (IsS75.ne_blk hi (bw_ BK201 hb2) (by decide)); have n5_ := am_ (Ne.symm (IsS75.ne_blk hi (bw_ BK201 hb2) (by decide))); have n6_ := am_ (IsS75.ne_blk hi (bw_ BK202 hb2) (by decide)); have n7_ := am_ (Ne.symm (IsS75.ne_blk hi (bw_ BK202 hb2) (by decide))); clear BK201 BK202 HB; revert n0_ n1_ n2_ n3_ n4_ n5_ n6_ n7_; intro BK201 BK202 HB HI206 NB206_201 NB201_206 NB206_202 NB202_206; (try clear hb); (try clear hb2); (try clear hk); (try clear hi)) | ((with_reducible refine gate_callee (f := 33) rfl ?_); refine goesL_ (some 11) rfl rfl Try.func33 (by kernel_rfl) rfl #[.pointer (some ⟨g206, 0, none⟩)] rfl lm_ ?_; (with_reducible refine (spec_l01DrawMatrix.calls k g206 t203 t204 t205 t207 t208 t209 t212 t213 w _ ?side1 ?side2 A3.out).mono ?_); (case side1 => exact is75_ HI206); (case side2 => exact bi75_ HB.out); rintro e w95 ⟨v210, rfl, ho0, hi, hb, hk⟩; refine ⟨_, rfl, ?_⟩; have n0_ := am_ (KeepBut.blk hk (g' := gb201) (o := .cells #[.int .i64 0, .int .i64 0, .slice none 0 0] 28 (0, 0)) (bk_ BK201.out) NB201_206.out (by simp)); have n1_ := am_ (KeepBut.blk hk (g' := gb202) (o := .cells #[.int .i64 0, .int .i64 0, .slice none 0 0] 28 (0, 0)) (bk_ BK202.out) NB202_206.out (by simp)); have n2_ := am_ (Kd.R_lower ho0 (below_size (bi75_ HB.out))); have n3_ := am_ (hb); have n4_ := am_ (hi); clear BK201 BK202 HB HI206; revert n0_ n1_ n2_ n3_ n4_; intro BK201 BK202 HO211 HB HI206; (try clear hb); (try clear hb2); (try clear hk); (try clear hi); (try clear ho0)) | ((with_reducible refine gate_dst (N := 5) rfl ?_); refine box_event ?hg (N := 5) ?hd (cs := #[.int .i64 0, .int .i64 0, .slice none 0 0]) (t := 28) ?hr ?_; (case hd => rfl); (case hg => rfl); (case hr => first | (go_simp; done) | (go_simp; rfl)); intro gb214 hg w96 hbox hb; have n0_ := am_ (Kd.R_below (rk_ HO211.out) hb); have n1_ := am_ (bw_ BK201 hb); have n2_ := am_ (bw_ BK202 hb); have n3_ := am_ (IsS75.below (is75_ HI206) hb); have n4_ := am_ (below_step (bi75_ HB.out) hb); have n5_ := am_ (hbox); have n6_ := am_ ((by rw [hg]; exact (below_size (bi75_ HB.out)) : w.heap.size ≤ gb214)); have n7_ := am_ ((by rw [hg]; exact (below_size (bi75_ HB.out)) : w.heap.size ≤ gb214)); have n8_ := am_ (nl_ BK201 hg); have n9_ := am_ (ng_ BK201 hg); have n10_ := am_ (nl_ BK202 hg); have n11_ := am_ (ng_ BK202 hg); have n12_ := am_ ((by rw [hg]; exact Nat.ne_of_lt (IsS75.lt (show IsS75 w _ g206 t203 t212 t213 from is75_ HI206)) : g206 ≠ gb214)); have n13_ := am_ ((by rw [hg]; exact Nat.ne_of_gt (IsS75.lt (show IsS75 w _ g206 t203 t212 t213 from is75_ HI206)) : gb214 ≠ g206)); clear HO211 BK201 BK202 HI206 HB; revert n0_ n1_ n2_ n3_ n4_ n5_ n6_ n7_ n8_ n9_ n10_ n11_ n12_ n13_; intro HO211 BK201 BK202 HI206 HB BK214 GW214 GE214 NB201_214 NB214_201 NB202_214 NB214_202 NB206_214 NB214_206; clear hb hbox hg; have hnb97 := NB214_201.out; have hnc97 := NB201_214.out; have hnb98 := NB214_202.out; have hnc98 := NB202_214.out; have hnb99 := NB214_206.out; have hnc99 := NB206_214.out; have hcz100_0 : w96.cell? ⟨gb214, 0, none⟩ = some (.int .i64 0) := bc_ BK214 0; have hcz100_1 : w96.cell? ⟨gb214, 1, none⟩ = some (.int .i64 0) := bc_ BK214 1; have hcz100_2 : w96.cell? ⟨gb214, 2, none⟩ = some (.slice none 0 0) := bc_ BK214 2; have hfz100_0 := blk_frozen BK214.out 0; have hfz100_1 := blk_frozen BK214.out 1; have hfz100_2 := blk_frozen BK214.out 2; obtain ⟨Ao101, co101, eo101⟩ := Kd.R_slice HO211.out; subst eo101))
   have n0_ : Aside0 (Kd.R (Kd.int .i64) 2 (((w96.setCell ⟨gb214, 0, none⟩ (.int .i64 t207)).setCell ⟨gb214, 1, none⟩ (.int .i64 t208)).setCell ⟨gb214, 2, none⟩ (.slice Ao101 t209.length co101)) w.heap.size (fun _ => True) (.slice Ao101 t209.length co101) t209) := ⟨rm_ (Kd.R_far (p := ⟨gb214, 2, none⟩) (Kd.R_far (p := ⟨gb214, 1, none⟩) (Kd.R_far (p := ⟨gb214, 0, none⟩) (Kd.R_types HO211.out BK214.out (by decide)) (fun _ hk => hk.2) (.int .i64 t207)) (fun _ hk => hk.2) (.int .i64 t208)) (fun _ hk => hk.2) (.slice Ao101 t209.length co101)) (fun _ hk => trivial)⟩
   have n1_ : Aside0 ((((w96.setCell ⟨gb214, 0, none⟩ (.int .i64 t207)).setCell ⟨gb214, 1, none⟩ (.int .i64 t208)).setCell ⟨gb214, 2, none⟩ (.slice Ao101 t209.length co101)).heap[gb201]? = some (.cells #[.int .i64 0, .int .i64 0, .slice none 0 0] 28 (0, 0))) := ⟨bk_ BK201.out⟩
   have n2_ : Aside0 ((((w96.setCell ⟨gb214, 0, none⟩ (.int .i64 t207)).setCell ⟨gb214, 1, none⟩ (.int .i64 t208)).setCell ⟨gb214, 2, none⟩ (.slice Ao101 t209.length co101)).heap[gb202]? = some (.cells #[.int .i64 0, .int .i64 0, .slice none 0 0] 28 (0, 0))) := ⟨bk_ BK202.out⟩
   have n3_ : Aside0 ((((w96.setCell ⟨gb214, 0, none⟩ (.int .i64 t207)).setCell ⟨gb214, 1, none⟩ (.int .i64 t208)).setCell ⟨gb214, 2, none⟩ (.slice Ao101 t209.length co101)).heap[gb214]? = some (.cells #[.int .i64 t207, .int .i64 t208, .slice Ao101 t209.length co101] 28 (0, 0))) := ⟨by (with_reducible repeat (first | refine blk_drewN ?_ _ | refine blk_drew ?_ | refine blk_alloc ?_ _)); refine blk_put (cs := #[.int .i64 t207, .int .i64 t208, .slice none 0 0]) ?_ 2 _ rfl; (with_reducible repeat (first | refine blk_drewN ?_ _ | refine blk_drew ?_ | refine blk_alloc ?_ _)); refine blk_put (cs := #[.int .i64 t207, .int .i64 0, .slice none 0 0]) ?_ 1 _ rfl; (with_reducible repeat (first | refine blk_drewN ?_ _ | refine blk_drew ?_ | refine blk_alloc ?_ _)); refine blk_put (cs := #[.int .i64 0, .int .i64 0, .slice none 0 0]) ?_ 0 _ rfl; (with_reducible repeat (first | refine blk_drewN ?_ _ | refine blk_drew ?_ | refine blk_alloc ?_ _)); exact BK214.out⟩
   have n4_ : Aside0 (IsS75 w (((w96.setCell ⟨gb214, 0, none⟩ (.int .i64 t207)).setCell ⟨gb214, 1, none⟩ (.int .i64 t208)).setCell ⟨gb214, 2, none⟩ (.slice Ao101 t209.length co101)) g206 t203 t212 t213) := ⟨is75_ HI206⟩
   have n5_ : Aside0 (Below w.heap.size w (((w96.setCell ⟨gb214, 0, none⟩ (.int .i64 t207)).setCell ⟨gb214, 1, none⟩ (.int .i64 t208)).setCell ⟨gb214, 2, none⟩ (.slice Ao101 t209.length co101))) := ⟨bi75_ HB.out⟩
   (try clear HO211)
   (try clear BK201)
   (try clear BK202)
   (try clear BK214)
   (try clear HI206)
   (try clear HB)
   generalize (((w96.setCell ⟨gb214, 0, none⟩ (.int .i64 t207)).setCell ⟨gb214, 1, none⟩ (.int .i64 t208)).setCell ⟨gb214, 2, none⟩ (.slice Ao101 t209.length co101)) = w102 at n0_ n1_ n2_ n3_ n4_ n5_ ⊢
   have HO211 := n0_
   have BK201 := n1_
   have BK202 := n2_
   have BK214 := n3_
   have HI206 := n4_
   have HB := n5_
   clear n0_ n1_ n2_ n3_ n4_ n5_
   have n0_ := am_ (Kd.R_drew HO211.out)
   have n1_ := am_ (blk_drew BK201.out)
   have n2_ := am_ (blk_drew BK202.out)
   have n3_ := am_ (blk_drew BK214.out)
   have n4_ := am_ (IsS75.drew HI206.out)
   have n5_ := am_ (below_drew1 HB.out)
   clear HO211 BK201 BK202 BK214 HI206 HB; revert n0_ n1_ n2_ n3_ n4_ n5_; intro HO211 BK201 BK202 BK214 HI206 HB
   refine start_ (n := 10) (S := fun w' => w'.cell? ⟨gb214, 0, none⟩ = some (.int .i64 t207) ∧ w'.cell? ⟨gb214, 1, none⟩ = some (.int .i64 t208) ∧ w'.cell? ⟨gb214, 2, none⟩ = some (.slice Ao101 t209.length co101)) (ds := []) #[false, false, false, false, false, false, false, false, false, false] (by kernel_rfl) rfl rfl ⟨bc_ BK214 0, bc_ BK214 1, bc_ BK214 2⟩ (fun hHeld => ?_); refine with_tabW spec_DrawMultiplyMatrices.tab3 spec_DrawMultiplyMatrices.bits3 (fun HT_ HW_ => ?_)
   generalize w102.drew = w103 at HO211 BK201 BK202 BK214 HI206 HB hHeld ⊢
   refine pure_ (i := 0) (N := some 12) (v := ?_) (a' := ?_) #[true, false, false, false, false, false, false, false, false, false] rfl rfl (any_of HT_.out (by kernel_rfl)) (fun _ _ _ h => h) (Or.inl ⟨by rfl, ?_⟩) ?_ ?_
   rotate_left
   ·intro w'
    go_simp
    with_reducible rfl
   rotate_left
   ·simp only [Act.put, List.setIfInBounds_toArray, List.set_cons_zero, List.set_cons_succ, i64_w, i32_w]
    rfl
   refine pure_ (i := 1) (N := some 13) (v := ?_) (a' := ?_) #[true, true, false, false, false, false, false, false, false, false] rfl rfl (any_of HT_.out (by kernel_rfl)) (fun _ _ _ h => h) (Or.inl ⟨by rfl, ?_⟩) ?_ ?_
   rotate_left
   ·intro w'
    go_simp
    with_reducible rfl
   rotate_left
   ·simp only [Act.put, List.setIfInBounds_toArray, List.set_cons_zero, List.set_cons_succ, i64_w, i32_w]
    rfl
   refine pure_ (i := 5) (N := some 17) (v := ?_) (a' := ?_) #[true, true, false, false, false, true, false, false, false, false] rfl rfl (any_of HT_.out (by kernel_rfl)) (fun _ _ _ h => h) (Or.inl ⟨by rfl, ?_⟩) ?_ ?_
   rotate_left
   ·intro w'
    go_simp
    with_reducible rfl
   rotate_left
   ·simp only [Act.put, List.setIfInBounds_toArray, List.set_cons_zero, List.set_cons_succ, i64_w, i32_w]
    rfl
   refine take_ (i := 2) (N := some 14) (v := ?_) (a' := ?_) #[true, true, true, false, false, true, false, false, false, false] rfl rfl (take_ofW HT_.out HW_.out (by kernel_rfl)) (fun _ _ _ h => h) (Or.inl ⟨by rfl, ?_⟩) hHeld ?_ ?_
   rotate_left
   ·rintro w' ⟨s0, s1, s2⟩
    go_simp
    with_reducible rfl
   rotate_left
   ·simp only [Act.put, List.setIfInBounds_toArray, List.set_cons_zero, List.set_cons_succ, i64_w, i32_w]
    rfl
   refine pure_ (i := 3) (N := some 15) (v := ?_) (a' := ?_) #[true, true, true, true, false, true, false, false, false, false] rfl rfl (any_of HT_.out (by kernel_rfl)) (fun _ _ _ h => h) (Or.inl ⟨by rfl, ?_⟩) ?_ ?_
   rotate_left
   ·intro w'
    go_simp
    with_reducible rfl
   rotate_left
   ·simp only [Act.put, List.setIfInBounds_toArray, List.set_cons_zero, List.set_cons_succ, i64_w, i32_w]
    rfl
   refine pure_ (i := 4) (N := some 16) (v := ?_) (a' := ?_) #[true, true, true, true, true, true, false, false, false, false] rfl rfl (any_of HT_.out (by kernel_rfl)) (fun _ _ _ h => h) (Or.inl ⟨by rfl, ?_⟩) ?_ ?_
   rotate_left
   ·intro w'
    go_simp
    with_reducible rfl
   rotate_left
   ·simp only [Act.put, List.setIfInBounds_toArray, List.set_cons_zero, List.set_cons_succ, i64_w, i32_w]
    rfl
   refine join_ (σ := Value × Nat) 1 #[true, true, true, true, true, true, true, true, true, false] (fun s_ => [(18, .int .i64 t215), (19, .agg #[.int .i64 t218, .int .i64 t219, s_.1]), (6, .pointer (some ⟨s_.2, 0, none⟩))]) (fun s_ w' => (w'.cell? ⟨gb214, 0, none⟩ = some (.int .i64 t207) ∧ w'.cell? ⟨gb214, 1, none⟩ = some (.int .i64 t208) ∧ w'.cell? ⟨gb214, 2, none⟩ = some (.slice Ao101 t209.length co101)) ∧ (Kd.R (Kd.int .i64) 2 w' w.heap.size (fun k_ => some k_ ≠ (s_.1 : Value).ownBlock) (.slice Ao101 t209.length co101) t209) ∧ (Kd.R (Kd.int .i64) 2 w' w.heap.size (fun k_ => some k_ ≠ (.slice Ao101 t209.length co101 : Value).ownBlock) s_.1 t220) ∧ (w'.heap[gb201]? = some (.cells #[.int .i64 0, .int .i64 0, .slice none 0 0] 28 (0, 0))) ∧ (w'.heap[gb202]? = some (.cells #[.int .i64 0, .int .i64 0, .slice none 0 0] 28 (0, 0))) ∧ (w'.heap[gb214]? = some (.cells #[.int .i64 t207, .int .i64 t208, .slice Ao101 t209.length co101] 28 (0, 0))) ∧ (w'.heap[s_.2]? = some (.cells #[.int .i64 0, .int .i64 0, .slice none 0 0] 28 (0, 0))) ∧ (w.heap.size ≤ s_.2) ∧ (w.heap.size ≤ s_.2) ∧ (g206 ≠ s_.2) ∧ (s_.2 ≠ g206) ∧ (gb201 ≠ s_.2) ∧ (s_.2 ≠ gb201) ∧ (gb202 ≠ s_.2) ∧ (s_.2 ≠ gb202) ∧ (gb214 ≠ s_.2) ∧ (s_.2 ≠ gb214) ∧ (IsS75 w w' g206 t203 t223 t224) ∧ (Below w.heap.size w w')) ?_ ?_
   rotate_left
   ·intro hCont
    refine two_ (i := 6) (j := 8) (Ni := some 18) (Nj := some 6) #[true, true, true, true, true, true, true, false, false, false] #[true, true, true, true, true, true, false, false, true, false] rfl rfl rfl rfl (two_of HT_.out (by kernel_rfl)) (by decide) (by decide) (fun K hK => ?_) (fun K hK => ?_)
    ·skip
     refine goes_ Try.func35 (by kernel_rfl) rfl #[.pointer (some ⟨g206, 0, none⟩), .int .i64 5] (by rfl) rfl rfl lm_ ?_
     with_reducible refine (spec_l01Next.calls g206 t203 t212 t213 5 t215 t216 t217 w _ ?side1 ?side2 A6.out).mono ?_
     (case side1 => exact is75_ HI206)
     (case side2 => exact bi75_ HB.out)
     rintro e w104 ⟨rfl, hi, hb, hk⟩
     refine ⟨_, rfl, ?_⟩
     have n0_ := am_ (KeepBut.blk hk (g' := gb201) (o := .cells #[.int .i64 0, .int .i64 0, .slice none 0 0] 28 (0, 0)) (bk_ BK201.out) NB201_206.out (by simp))
     have n1_ := am_ (KeepBut.blk hk (g' := gb202) (o := .cells #[.int .i64 0, .int .i64 0, .slice none 0 0] 28 (0, 0)) (bk_ BK202.out) NB202_206.out (by simp))
     have n2_ := am_ (Kd.R_mono (Kd.R_keep (IsS75.apart (show IsS75 w _ g206 t203 t212 t213 from is75_ HI206) (rk_ HO211.out) (by decide)) hk (fun _ h => h.2)) (fun _ h => h.1))
     have n3_ := am_ (KeepBut.blk hk (g' := gb214) (o := .cells #[.int .i64 t207, .int .i64 t208, .slice Ao101 t209.length co101] 28 (0, 0)) (bk_ BK214.out) NB214_206.out (by simp))
     have n4_ := am_ (hb)
     have n5_ := am_ (hi)
     clear BK201 BK202 HO211 BK214 HB HI206; revert n0_ n1_ n2_ n3_ n4_ n5_; intro BK201 BK202 HO211 BK214 HB HI206
     (try clear hb)
     (try clear hb2)
     (try clear hk)
     (try clear hi)
     refine hK.out _ _ ⟨bc_ BK214 0, bc_ BK214 1, bc_ BK214 2⟩ (fun hHeld => ?_)
     clear hK K
     refine norm_ (a' := ?_) ?_ ?_
     rotate_left
     ·show Act.put _ (some 18) _ = _
      simp only [Act.put, List.setIfInBounds_toArray, List.set_cons_zero, List.set_cons_succ, i64_w, i32_w]
      rfl
     refine two_ (i := 7) (j := 8) (Ni := some 19) (Nj := some 6) #[true, true, true, true, true, true, true, true, false, false] #[true, true, true, true, true, true, true, false, true, false] rfl rfl rfl rfl (two_of HT_.out (by kernel_rfl)) (by decide) (by decide) (fun K hK => ?_) (fun K hK => ?_)
     ·skip
      refine goes_ Try.func34 (by kernel_rfl) rfl #[.pointer (some ⟨g206, 0, none⟩), .int .i64 ji5, .int .i64 t215] (by rfl) rfl rfl (by (try simp only [List.map_toArray, List.map_cons, List.map_nil]); first | done | (simp only [hji5]; rfl) | rfl | (simp only [List.length_drop, List.length_take]; rfl)) ?_
      with_reducible refine (spec_l01DrawSize.calls k g206 t203 t216 t217 ji5 t215 t218 t219 t220 t223 t224 w _ ?side1 ?side2 A7.out).mono ?_
      (case side1 => exact is75_ HI206)
      (case side2 => exact bi75_ HB.out)
      rintro e w105 ⟨v221, rfl, ho0, hi, hb, hk⟩
      refine ⟨_, rfl, ?_⟩
      have n0_ := am_ (KeepBut.blk hk (g' := gb201) (o := .cells #[.int .i64 0, .int .i64 0, .slice none 0 0] 28 (0, 0)) (bk_ BK201.out) NB201_206.out (by simp))
      have n1_ := am_ (KeepBut.blk hk (g' := gb202) (o := .cells #[.int .i64 0, .int .i64 0, .slice none 0 0] 28 (0, 0)) (bk_ BK202.out) NB202_206.out (by simp))
      have n2_ := am_ (Kd.R_mono (Kd.R_told (Kd.R_oldK (IsS75.apart (show IsS75 w _ g206 t203 t216 t217 from is75_ HI206) (rk_ HO211.out) (by decide)) hk) (Kd.R_base ho0)) (fun _ h_ => h_.1))
      have n3_ := am_ (KeepBut.blk hk (g' := gb214) (o := .cells #[.int .i64 t207, .int .i64 t208, .slice Ao101 t209.length co101] 28 (0, 0)) (bk_ BK214.out) NB214_206.out (by simp))
      have n4_ := am_ (Kd.R_lower (Kd.R_new' ho0 (Kd.R_lt (rk_ HO211.out))) (below_size (bi75_ HB.out)))
      have n5_ := am_ (hb)
      have n6_ := am_ (hi)
      clear BK201 BK202 HO211 BK214 HB HI206; revert n0_ n1_ n2_ n3_ n4_ n5_ n6_; intro BK201 BK202 HO211 BK214 HO222 HB HI206
      (try clear hb)
      (try clear hb2)
      (try clear hk)
      (try clear hi)
      (try clear ho0)
      refine hK.out _ _ ⟨bc_ BK214 0, bc_ BK214 1, bc_ BK214 2⟩ (fun hHeld => ?_)
      clear hK K
      refine norm_ (a' := ?_) ?_ ?_
      rotate_left
      ·show Act.put _ (some 19) _ = _
       simp only [Act.put, List.setIfInBounds_toArray, List.set_cons_zero, List.set_cons_succ, i64_w, i32_w]
       rfl
      refine one_ (i := 8) (N := some 6) #[true, true, true, true, true, true, true, true, true, false] rfl rfl (one_of HT_.out (by kernel_rfl)) (by decide) (fun K hK => ?_)
      refine box_step ?hg (N := 6) ?hd (cs := #[.int .i64 0, .int .i64 0, .slice none 0 0]) (t := 28) ?hr ?_; (case hd => rfl); (case hg => rfl); (case hr => first | (go_simp; done) | (go_simp; rfl))
      intro gb225 hg w106 hbox hb
      have n0_ := am_ (Kd.R_below (rk_ HO211.out) hb)
      have n1_ := am_ (Kd.R_below (rk_ HO222.out) hb)
      have n2_ := am_ (bw_ BK201 hb)
      have n3_ := am_ (bw_ BK202 hb)
      have n4_ := am_ (IsS75.below (is75_ HI206) hb)
      have n5_ := am_ (bw_ BK214 hb)
      have n6_ := am_ (below_step (bi75_ HB.out) hb)
      have n7_ := am_ (hbox)
      have n8_ := am_ ((by rw [hg]; exact (below_size (bi75_ HB.out)) : w.heap.size ≤ gb225))
      have n9_ := am_ ((by rw [hg]; exact (below_size (bi75_ HB.out)) : w.heap.size ≤ gb225))
      have n10_ := am_ (nl_ BK201 hg)
      have n11_ := am_ (ng_ BK201 hg)
      have n12_ := am_ (nl_ BK202 hg)
      have n13_ := am_ (ng_ BK202 hg)
      have n14_ := am_ (nl_ BK214 hg)
      have n15_ := am_ (ng_ BK214 hg)
      have n16_ := am_ ((by rw [hg]; exact Nat.ne_of_lt (IsS75.lt (show IsS75 w _ g206 t203 t223 t224 from is75_ HI206)) : g206 ≠ gb225))
      have n17_ := am_ ((by rw [hg]; exact Nat.ne_of_gt (IsS75.lt (show IsS75 w _ g206 t203 t223 t224 from is75_ HI206)) : gb225 ≠ g206))
      clear HO211 HO222 BK201 BK202 HI206 BK214 HB; revert n0_ n1_ n2_ n3_ n4_ n5_ n6_ n7_ n8_ n9_ n10_ n11_ n12_ n13_ n14_ n15_ n16_ n17_; intro HO211 HO222 BK201 BK202 HI206 BK214 HB BK225 GW225 GE225 NB201_225 NB225_201 NB202_225 NB225_202 NB214_225 NB225_214 NB206_225 NB225_206
      clear hb hbox hg
      refine hK.out _ _ ⟨bc_ BK214 0, bc_ BK214 1, bc_ BK214 2⟩ (fun hHeld => ?_)
      clear hK K
      refine norm_ (a' := ?_) ?_ ?_
      rotate_left
      ·show Act.put _ (some 6) _ = _
       simp only [Act.put, List.setIfInBounds_toArray, List.set_cons_zero, List.set_cons_succ, i64_w, i32_w]
       rfl
      exact norm_ (by simp only [putAll, Act.put, List.setIfInBounds_toArray, List.set_cons_zero, List.set_cons_succ]) (hCont (v221, gb225) _ ⟨hHeld, (rm_ HO211.out (fun _ hk => hk.2)), (rm_ HO222.out (fun _ hk => hk.2)), (bk_ BK201.out), (bk_ BK202.out), (bk_ BK214.out), (bk_ BK225.out), GW225.out, GE225.out, NB206_225.out, NB225_206.out, NB201_225.out, NB225_201.out, NB202_225.out, NB225_202.out, NB214_225.out, NB225_214.out, (is75_ HI206), (bi75_ HB.out)⟩)
     ·skip
      refine box_step ?hg (N := 6) ?hd (cs := #[.int .i64 0, .int .i64 0, .slice none 0 0]) (t := 28) ?hr ?_; (case hd => rfl); (case hg => rfl); (case hr => first | (go_simp; done) | (go_simp; rfl))
      intro gb225 hg w105 hbox hb
      have n0_ := am_ (Kd.R_below (rk_ HO211.out) hb)
      have n1_ := am_ (bw_ BK201 hb)
      have n2_ := am_ (bw_ BK202 hb)
      have n3_ := am_ (IsS75.below (is75_ HI206) hb)
      have n4_ := am_ (bw_ BK214 hb)
      have n5_ := am_ (below_step (bi75_ HB.out) hb)
      have n6_ := am_ (hbox)
      have n7_ := am_ ((by rw [hg]; exact (below_size (bi75_ HB.out)) : w.heap.size ≤ gb225))
      have n8_ := am_ ((by rw [hg]; exact (below_size (bi75_ HB.out)) : w.heap.size ≤ gb225))
      have n9_ := am_ (nl_ BK201 hg)
      have n10_ := am_ (ng_ BK201 hg)
      have n11_ := am_ (nl_ BK202 hg)
      have n12_ := am_ (ng_ BK202 hg)
      have n13_ := am_ (nl_ BK214 hg)
      have n14_ := am_ (ng_ BK214 hg)
      have n15_ := am_ ((by rw [hg]; exact Nat.ne_of_lt (IsS75.lt (show IsS75 w _ g206 t203 t216 t217 from is75_ HI206)) : g206 ≠ gb225))
      have n16_ := am_ ((by rw [hg]; exact Nat.ne_of_gt (IsS75.lt (show IsS75 w _ g206 t203 t216 t217 from is75_ HI206)) : gb225 ≠ g206))
      clear HO211 BK201 BK202 HI206 BK214 HB; revert n0_ n1_ n2_ n3_ n4_ n5_ n6_ n7_ n8_ n9_ n10_ n11_ n12_ n13_ n14_ n15_ n16_; intro HO211 BK201 BK202 HI206 BK214 HB BK225 GW225 GE225 NB201_225 NB225_201 NB202_225 NB225_202 NB214_225 NB225_214 NB206_225 NB225_206
      clear hb hbox hg
      refine hK.out _ _ ⟨bc_ BK214 0, bc_ BK214 1, bc_ BK214 2⟩ (fun hHeld => ?_)
      clear hK K
      refine norm_ (a' := ?_) ?_ ?_
      rotate_left
      ·show Act.put _ (some 6) _ = _
       simp only [Act.put, List.setIfInBounds_toArray, List.set_cons_zero, List.set_cons_succ, i64_w, i32_w]
       rfl
      refine one_ (i := 7) (N := some 19) #[true, true, true, true, true, true, true, true, true, false] rfl rfl (one_of HT_.out (by kernel_rfl)) (by decide) (fun K hK => ?_)
      refine goes_ Try.func34 (by kernel_rfl) rfl #[.pointer (some ⟨g206, 0, none⟩), .int .i64 ji5, .int .i64 t215] (by rfl) rfl rfl (by (try simp only [List.map_toArray, List.map_cons, List.map_nil]); first | done | (simp only [hji5]; rfl) | rfl | (simp only [List.length_drop, List.length_take]; rfl)) ?_
      with_reducible refine (spec_l01DrawSize.calls k g206 t203 t216 t217 ji5 t215 t218 t219 t220 t223 t224 w _ ?side1 ?side2 A7.out).mono ?_
      (case side1 => exact is75_ HI206)
      (case side2 => exact bi75_ HB.out)
      rintro e w106 ⟨v221, rfl, ho0, hi, hb, hk⟩
      refine ⟨_, rfl, ?_⟩
      have n0_ := am_ (KeepBut.blk hk (g' := gb201) (o := .cells #[.int .i64 0, .int .i64 0, .slice none 0 0] 28 (0, 0)) (bk_ BK201.out) NB201_206.out (by simp))
      have n1_ := am_ (KeepBut.blk hk (g' := gb202) (o := .cells #[.int .i64 0, .int .i64 0, .slice none 0 0] 28 (0, 0)) (bk_ BK202.out) NB202_206.out (by simp))
      have n2_ := am_ (Kd.R_mono (Kd.R_told (Kd.R_oldK (IsS75.apart (show IsS75 w _ g206 t203 t216 t217 from is75_ HI206) (rk_ HO211.out) (by decide)) hk) (Kd.R_base ho0)) (fun _ h_ => h_.1))
      have n3_ := am_ (KeepBut.blk hk (g' := gb214) (o := .cells #[.int .i64 t207, .int .i64 t208, .slice Ao101 t209.length co101] 28 (0, 0)) (bk_ BK214.out) NB214_206.out (by simp))
      have n4_ := am_ (KeepBut.blk hk (g' := gb225) (o := .cells #[.int .i64 0, .int .i64 0, .slice none 0 0] 28 (0, 0)) (bk_ BK225.out) NB225_206.out (by simp))
      have n5_ := am_ (Kd.R_lower (Kd.R_new' ho0 (Kd.R_lt (rk_ HO211.out))) (below_size (bi75_ HB.out)))
      have n6_ := am_ (hb)
      have n7_ := am_ (hi)
      clear BK201 BK202 HO211 BK214 BK225 HB HI206; revert n0_ n1_ n2_ n3_ n4_ n5_ n6_ n7_; intro BK201 BK202 HO211 BK214 BK225 HO222 HB HI206
      (try clear hb)
      (try clear hb2)
      (try clear hk)
      (try clear hi)
      (try clear ho0)
      refine hK.out _ _ ⟨bc_ BK214 0, bc_ BK214 1, bc_ BK214 2⟩ (fun hHeld => ?_)
      clear hK K
      refine norm_ (a' := ?_) ?_ ?_
      rotate_left
      ·show Act.put _ (some 19) _ = _
       simp only [Act.put, List.setIfInBounds_toArray, List.set_cons_zero, List.set_cons_succ, i64_w, i32_w]
       rfl
      exact norm_ (by simp only [putAll, Act.put, List.setIfInBounds_toArray, List.set_cons_zero, List.set_cons_succ]) (hCont (v221, gb225) _ ⟨hHeld, (rm_ HO211.out (fun _ hk => hk.2)), (rm_ HO222.out (fun _ hk => hk.2)), (bk_ BK201.out), (bk_ BK202.out), (bk_ BK214.out), (bk_ BK225.out), GW225.out, GE225.out, NB206_225.out, NB225_206.out, NB201_225.out, NB225_201.out, NB202_225.out, NB225_202.out, NB214_225.out, NB225_214.out, (is75_ HI206), (bi75_ HB.out)⟩)
    ·skip
     refine box_step ?hg (N := 6) ?hd (cs := #[.int .i64 0, .int .i64 0, .slice none 0 0]) (t := 28) ?hr ?_; (case hd => rfl); (case hg => rfl); (case hr => first | (go_simp; done) | (go_simp; rfl))
     intro gb225 hg w104 hbox hb
     have n0_ := am_ (Kd.R_below (rk_ HO211.out) hb)
     have n1_ := am_ (bw_ BK201 hb)
     have n2_ := am_ (bw_ BK202 hb)
     have n3_ := am_ (IsS75.below (is75_ HI206) hb)
     have n4_ := am_ (bw_ BK214 hb)
     have n5_ := am_ (below_step (bi75_ HB.out) hb)
     have n6_ := am_ (hbox)
     have n7_ := am_ ((by rw [hg]; exact (below_size (bi75_ HB.out)) : w.heap.size ≤ gb225))
     have n8_ := am_ ((by rw [hg]; exact (below_size (bi75_ HB.out)) : w.heap.size ≤ gb225))
     have n9_ := am_ (nl_ BK201 hg)
     have n10_ := am_ (ng_ BK201 hg)
     have n11_ := am_ (nl_ BK202 hg)
     have n12_ := am_ (ng_ BK202 hg)
     have n13_ := am_ (nl_ BK214 hg)
     have n14_ := am_ (ng_ BK214 hg)
     have n15_ := am_ ((by rw [hg]; exact Nat.ne_of_lt (IsS75.lt (show IsS75 w _ g206 t203 t212 t213 from is75_ HI206)) : g206 ≠ gb225))
     have n16_ := am_ ((by rw [hg]; exact Nat.ne_of_gt (IsS75.lt (show IsS75 w _ g206 t203 t212 t213 from is75_ HI206)) : gb225 ≠ g206))
     clear HO211 BK201 BK202 HI206 BK214 HB; revert n0_ n1_ n2_ n3_ n4_ n5_ n6_ n7_ n8_ n9_ n10_ n11_ n12_ n13_ n14_ n15_ n16_; intro HO211 BK201 BK202 HI206 BK214 HB BK225 GW225 GE225 NB201_225 NB225_201 NB202_225 NB225_202 NB214_225 NB225_214 NB206_225 NB225_206
     clear hb hbox hg
     refine hK.out _ _ ⟨bc_ BK214 0, bc_ BK214 1, bc_ BK214 2⟩ (fun hHeld => ?_)
     clear hK K
     refine norm_ (a' := ?_) ?_ ?_
     rotate_left
     ·show Act.put _ (some 6) _ = _
      simp only [Act.put, List.setIfInBounds_toArray, List.set_cons_zero, List.set_cons_succ, i64_w, i32_w]
      rfl
     refine one_ (i := 6) (N := some 18) #[true, true, true, true, true, true, true, false, true, false] rfl rfl (one_of HT_.out (by kernel_rfl)) (by decide) (fun K hK => ?_)
     refine goes_ Try.func35 (by kernel_rfl) rfl #[.pointer (some ⟨g206, 0, none⟩), .int .i64 5] (by rfl) rfl rfl lm_ ?_
     with_reducible refine (spec_l01Next.calls g206 t203 t212 t213 5 t215 t216 t217 w _ ?side1 ?side2 A6.out).mono ?_
     (case side1 => exact is75_ HI206)
     (case side2 => exact bi75_ HB.out)
     rintro e w105 ⟨rfl, hi, hb, hk⟩
     refine ⟨_, rfl, ?_⟩
     have n0_ := am_ (KeepBut.blk hk (g' := gb201) (o := .cells #[.int .i64 0, .int .i64 0, .slice none 0 0] 28 (0, 0)) (bk_ BK201.out) NB201_206.out (by simp))
     have n1_ := am_ (KeepBut.blk hk (g' := gb202) (o := .cells #[.int .i64 0, .int .i64 0, .slice none 0 0] 28 (0, 0)) (bk_ BK202.out) NB202_206.out (by simp))
     have n2_ := am_ (Kd.R_mono (Kd.R_keep (IsS75.apart (show IsS75 w _ g206 t203 t212 t213 from is75_ HI206) (rk_ HO211.out) (by decide)) hk (fun _ h => h.2)) (fun _ h => h.1))
     have n3_ := am_ (KeepBut.blk hk (g' := gb214) (o := .cells #[.int .i64 t207, .int .i64 t208, .slice Ao101 t209.length co101] 28 (0, 0)) (bk_ BK214.out) NB214_206.out (by simp))
     have n4_ := am_ (KeepBut.blk hk (g' := gb225) (o := .cells #[.int .i64 0, .int .i64 0, .slice none 0 0] 28 (0, 0)) (bk_ BK225.out) NB225_206.out (by simp))
     have n5_ := am_ (hb)
     have n6_ := am_ (hi)
     clear BK201 BK202 HO211 BK214 BK225 HB HI206; revert n0_ n1_ n2_ n3_ n4_ n5_ n6_; intro BK201 BK202 HO211 BK214 BK225 HB HI206
     (try clear hb)
     (try clear hb2)
     (try clear hk)
     (try clear hi)
     refine hK.out _ _ ⟨bc_ BK214 0, bc_ BK214 1, bc_ BK214 2⟩ (fun hHeld => ?_)
     clear hK K
     refine norm_ (a' := ?_) ?_ ?_
     rotate_left
     ·show Act.put _ (some 18) _ = _
      simp only [Act.put, List.setIfInBounds_toArray, List.set_cons_zero, List.set_cons_succ, i64_w, i32_w]
      rfl
     refine one_ (i := 7) (N := some 19) #[true, true, true, true, true, true, true, true, true, false] rfl rfl (one_of HT_.out (by kernel_rfl)) (by decide) (fun K hK => ?_)
     refine goes_ Try.func34 (by kernel_rfl) rfl #[.pointer (some ⟨g206, 0, none⟩), .int .i64 ji5, .int .i64 t215] (by rfl) rfl rfl (by (try simp only [List.map_toArray, List.map_cons, List.map_nil]); first | done | (simp only [hji5]; rfl) | rfl | (simp only [List.length_drop, List.length_take]; rfl)) ?_
     with_reducible refine (spec_l01DrawSize.calls k g206 t203 t216 t217 ji5 t215 t218 t219 t220 t223 t224 w _ ?side1 ?side2 A7.out).mono ?_
     (case side1 => exact is75_ HI206)
     (case side2 => exact bi75_ HB.out)
     rintro e w106 ⟨v221, rfl, ho0, hi, hb, hk⟩
     refine ⟨_, rfl, ?_⟩
     have n0_ := am_ (KeepBut.blk hk (g' := gb201) (o := .cells #[.int .i64 0, .int .i64 0, .slice none 0 0] 28 (0, 0)) (bk_ BK201.out) NB201_206.out (by simp))
     have n1_ := am_ (KeepBut.blk hk (g' := gb202) (o := .cells #[.int .i64 0, .int .i64 0, .slice none 0 0] 28 (0, 0)) (bk_ BK202.out) NB202_206.out (by simp))
     have n2_ := am_ (Kd.R_mono (Kd.R_told (Kd.R_oldK (IsS75.apart (show IsS75 w _ g206 t203 t216 t217 from is75_ HI206) (rk_ HO211.out) (by decide)) hk) (Kd.R_base ho0)) (fun _ h_ => h_.1))
     have n3_ := am_ (KeepBut.blk hk (g' := gb214) (o := .cells #[.int .i64 t207, .int .i64 t208, .slice Ao101 t209.length co101] 28 (0, 0)) (bk_ BK214.out) NB214_206.out (by simp))
     have n4_ := am_ (KeepBut.blk hk (g' := gb225) (o := .cells #[.int .i64 0, .int .i64 0, .slice none 0 0] 28 (0, 0)) (bk_ BK225.out) NB225_206.out (by simp))
     have n5_ := am_ (Kd.R_lower (Kd.R_new' ho0 (Kd.R_lt (rk_ HO211.out))) (below_size (bi75_ HB.out)))
     have n6_ := am_ (hb)
     have n7_ := am_ (hi)
     clear BK201 BK202 HO211 BK214 BK225 HB HI206; revert n0_ n1_ n2_ n3_ n4_ n5_ n6_ n7_; intro BK201 BK202 HO211 BK214 BK225 HO222 HB HI206
     (try clear hb)
     (try clear hb2)
     (try clear hk)
     (try clear hi)
     (try clear ho0)
     refine hK.out _ _ ⟨bc_ BK214 0, bc_ BK214 1, bc_ BK214 2⟩ (fun hHeld => ?_)
     clear hK K
     refine norm_ (a' := ?_) ?_ ?_
     rotate_left
     ·show Act.put _ (some 19) _ = _
      simp only [Act.put, List.setIfInBounds_toArray, List.set_cons_zero, List.set_cons_succ, i64_w, i32_w]
      rfl
     exact norm_ (by simp only [putAll, Act.put, List.setIfInBounds_toArray, List.set_cons_zero, List.set_cons_succ]) (hCont (v221, gb225) _ ⟨hHeld, (rm_ HO211.out (fun _ hk => hk.2)), (rm_ HO222.out (fun _ hk => hk.2)), (bk_ BK201.out), (bk_ BK202.out), (bk_ BK214.out), (bk_ BK225.out), GW225.out, GE225.out, NB206_225.out, NB225_206.out, NB201_225.out, NB225_201.out, NB202_225.out, NB225_202.out, NB214_225.out, NB225_214.out, (is75_ HI206), (bi75_ HB.out)⟩)
   rintro ⟨v221, gb225⟩ w107 ⟨hS_, h0_, h1_, h2_, h3_, h4_, h5_, h6_, h7_, h8_, h9_, h10_, h11_, h12_, h13_, h14_, h15_, h16_, h17_⟩
   have n0_ : Aside0 (Kd.R (Kd.int .i64) 2 w107 w.heap.size (fun k_ => some k_ ≠ (v221 : Value).ownBlock) (.slice Ao101 t209.length co101) t209) := ⟨h0_⟩
   have n1_ : Aside0 (Kd.R (Kd.int .i64) 2 w107 w.heap.size (fun k_ => some k_ ≠ (.slice Ao101 t209.length co101 : Value).ownBlock) v221 t220) := ⟨h1_⟩
   have n2_ : Aside0 (w107.heap[gb201]? = some (.cells #[.int .i64 0, .int .i64 0, .slice none 0 0] 28 (0, 0))) := ⟨h2_⟩
   have n3_ : Aside0 (w107.heap[gb202]? = some (.cells #[.int .i64 0, .int .i64 0, .slice none 0 0] 28 (0, 0))) := ⟨h3_⟩
   have n4_ : Aside0 (w107.heap[gb214]? = some (.cells #[.int .i64 t207, .int .i64 t208, .slice Ao101 t209.length co101] 28 (0, 0))) := ⟨h4_⟩
   have n5_ : Aside0 (w107.heap[gb225]? = some (.cells #[.int .i64 0, .int .i64 0, .slice none 0 0] 28 (0, 0))) := ⟨h5_⟩
   have n6_ : Aside0 (w.heap.size ≤ gb225) := ⟨h6_⟩
   have n7_ : Aside0 (w.heap.size ≤ gb225) := ⟨h7_⟩
   have n8_ : Aside0 (g206 ≠ gb225) := ⟨h8_⟩
   have n9_ : Aside0 (gb225 ≠ g206) := ⟨h9_⟩
   have n10_ : Aside0 (gb201 ≠ gb225) := ⟨h10_⟩
   have n11_ : Aside0 (gb225 ≠ gb201) := ⟨h11_⟩
   have n12_ : Aside0 (gb202 ≠ gb225) := ⟨h12_⟩
   have n13_ : Aside0 (gb225 ≠ gb202) := ⟨h13_⟩
   have n14_ : Aside0 (gb214 ≠ gb225) := ⟨h14_⟩
   have n15_ : Aside0 (gb225 ≠ gb214) := ⟨h15_⟩
   have n16_ : Aside0 (IsS75 w w107 g206 t203 t223 t224) := ⟨h16_⟩
   have n17_ : Aside0 (Below w.heap.size w w107) := ⟨h17_⟩
   clear HO211
   clear BK201
   clear BK202
   clear BK214
   clear HI206
   clear HB
   clear h0_ h1_ h2_ h3_ h4_ h5_ h6_ h7_ h8_ h9_ h10_ h11_ h12_ h13_ h14_ h15_ h16_ h17_
   have HO211 := n0_
   have HO222 := n1_
   have BK201 := n2_
   have BK202 := n3_
   have BK214 := n4_
   have BK225 := n5_
   have GW225 := n6_
   have GE225 := n7_
   have NB206_225 := n8_
   have NB225_206 := n9_
   have NB201_225 := n10_
   have NB225_201 := n11_
   have NB202_225 := n12_
   have NB225_202 := n13_
   have NB214_225 := n14_
   have NB225_214 := n15_
   have HI206 := n16_
   have HB := n17_
   clear n0_ n1_ n2_ n3_ n4_ n5_ n6_ n7_ n8_ n9_ n10_ n11_ n12_ n13_ n14_ n15_ n16_ n17_
   have hHeld : w107.cell? ⟨gb214, 0, none⟩ = some (.int .i64 t207) ∧ w107.cell? ⟨gb214, 1, none⟩ = some (.int .i64 t208) ∧ w107.cell? ⟨gb214, 2, none⟩ = some (.slice Ao101 t209.length co101) := hS_
   obtain ⟨Ao110, co110, eo110⟩ := Kd.R_slice HO222.out
   (first | subst eo110 | (injection eo110 with f1_ f2_ f3_; have f4_ := f1_.symm; have f5_ := f3_.symm; clear f1_ f2_ f3_; subst f4_; subst f5_))
   refine norm_ (a' := ?_) ?_ ?_
   rotate_left
   ·simp only [putAll, Act.put, List.setIfInBounds_toArray, List.set_cons_zero, List.set_cons_succ]
    rfl
   refine one_ (i := 9) (N := none) #[true, true, true, true, true, true, true, true, true, true] rfl rfl (one_of HT_.out (by kernel_rfl)) (by decide) (fun K hK => ?_)
   have hs108 : w107.cell? ⟨gb225, 0, none⟩ = some (.int .i64 0) := bc_ BK225 0
   have hfs108 := blk_frozen BK225.out 0
   have hns108_0 := NB201_225.out
   have hns108_1 := NB202_225.out
   have hns108_2 := NB214_225.out
   have hms108_0 := NB225_201.out
   have hms108_1 := NB225_202.out
   have hms108_2 := NB225_214.out
   have hs109 : w107.cell? ⟨gb225, 1, none⟩ = some (.int .i64 0) := bc_ BK225 1
   have hfs109 := blk_frozen BK225.out 1
   have hns109_0 := NB201_225.out
   have hns109_1 := NB202_225.out
   have hns109_2 := NB214_225.out
   have hms109_0 := NB225_201.out
   have hms109_1 := NB225_202.out
   have hms109_2 := NB225_214.out
   have hs111 : w107.cell? ⟨gb225, 2, none⟩ = some (.slice none 0 0) := bc_ BK225 2
   have hfs111 := blk_frozen BK225.out 2
   have hns111_0 := NB201_225.out
   have hns111_1 := NB202_225.out
   have hns111_2 := NB214_225.out
   have hms111_0 := NB225_201.out
   have hms111_1 := NB225_202.out
   have hms111_2 := NB225_214.out
   refine skip_ (w1 := ?_) (by rfl) rfl ?_ ?_
   rotate_left
   ·go_simp
    rfl
   refine hK.out _ _ ⟨((cell_far (p := ⟨gb225, _, none⟩) NB214_225.out _).trans (((cell_far (p := ⟨gb225, _, none⟩) NB214_225.out _).trans (((cell_far (p := ⟨gb225, _, none⟩) NB214_225.out _).trans (hHeld.1)))))), ((cell_far (p := ⟨gb225, _, none⟩) NB214_225.out _).trans (((cell_far (p := ⟨gb225, _, none⟩) NB214_225.out _).trans (((cell_far (p := ⟨gb225, _, none⟩) NB214_225.out _).trans (hHeld.2.1)))))), ((cell_far (p := ⟨gb225, _, none⟩) NB214_225.out _).trans (((cell_far (p := ⟨gb225, _, none⟩) NB214_225.out _).trans (((cell_far (p := ⟨gb225, _, none⟩) NB214_225.out _).trans (hHeld.2.2))))))⟩ (fun hHeld => ?_)
   clear hK K
   refine done_ (done_of HT_.out (by kernel_rfl)) ?_
   try go_wp2_with (first | ((with_reducible refine gate_callee (f := 35) rfl ?_); refine goesL_ (some 21) rfl rfl Try.func35 (by kernel_rfl) rfl #[.pointer (some ⟨g206, 0, none⟩), .int .i64 10] rfl lm_ ?_; (with_reducible refine (spec_l01Next.calls g206 t203 t223 t224 10 t226 t227 t228 w _ ?side1 ?side2 A8.out).mono ?_); (case side1 => exact is75_ HI206); (case side2 => exact bi75_ HB.out); rintro e w112 ⟨rfl, hi, hb, hk⟩; refine ⟨_, rfl, ?_⟩; have n0_ := am_ (KeepBut.blk hk (g' := gb201) (o := .cells #[.int .i64 0, .int .i64 0, .slice none 0 0] 28 (0, 0)) (bk_ BK201.out) NB201_206.out (by simp)); have n1_ := am_ (KeepBut.blk hk (g' := gb202) (o := .cells #[.int .i64 0, .int .i64 0, .slice none 0 0] 28 (0, 0)) (bk_ BK202.out) NB202_206.out (by simp)); have n2_ := am_ (Kd.R_mono (Kd.R_keep (IsS75.apart (show IsS75 w _ g206 t203 t223 t224 from is75_ HI206) ((rm_ (Kd.R_far (p := ⟨gb225, 2, none⟩) (Kd.R_far (p := ⟨gb225, 1, none⟩) (Kd.R_far (p := ⟨gb225, 0, none⟩) (Kd.R_types HO211.out BK225.out (by decide)) (fun _ hk => hk.2) (.int .i64 t218)) (fun _ hk => hk.2) (.int .i64 t219)) (fun _ hk => hk.2) (.slice Ao110 t220.length co110)) (fun _ h_ => h_.1))) (by decide)) hk (fun _ h => h.2)) (fun _ h => h.1)); have n3_ := am_ (KeepBut.blk hk (g' := gb214) (o := .cells #[.int .i64 t207, .int .i64 t208, .slice Ao101 t209.length co101] 28 (0, 0)) (bk_ BK214.out) NB214_206.out (by simp)); have n4_ := am_ (Kd.R_mono (Kd.R_keep (IsS75.apart (show IsS75 w _ g206 t203 t223 t224 from is75_ HI206) ((rm_ (Kd.R_far (p := ⟨gb225, 2, none⟩) (Kd.R_far (p := ⟨gb225, 1, none⟩) (Kd.R_far (p := ⟨gb225, 0, none⟩) (Kd.R_types HO222.out BK225.out (by decide)) (fun _ hk => hk.2) (.int .i64 t218)) (fun _ hk => hk.2) (.int .i64 t219)) (fun _ hk => hk.2) (.slice Ao110 t220.length co110)) (fun _ h_ => h_.1))) (by decide)) hk (fun _ h => h.2)) (fun _ h => h.1)); have n5_ := am_ (KeepBut.blk hk (g' := gb225) (o := .cells #[.int .i64 t218, .int .i64 t219, .slice Ao110 t220.length co110] 28 (0, 0)) (by (with_reducible repeat (first | refine blk_drewN ?_ _ | refine blk_drew ?_ | refine blk_alloc ?_ _)); refine blk_put (cs := #[.int .i64 t218, .int .i64 t219, .slice none 0 0]) ?_ 2 _ rfl; (with_reducible repeat (first | refine blk_drewN ?_ _ | refine blk_drew ?_ | refine blk_alloc ?_ _)); refine blk_put (cs := #[.int .i64 t218, .int .i64 0, .slice none 0 0]) ?_ 1 _ rfl; (with_reducible repeat (first | refine blk_drewN ?_ _ | refine blk_drew ?_ | refine blk_alloc ?_ _)); refine blk_put (cs := #[.int .i64 0, .int .i64 0, .slice none 0 0]) ?_ 0 _ rfl; (with_reducible repeat (first | refine blk_drewN ?_ _ | refine blk_drew ?_ | refine blk_alloc ?_ _)); exact BK225.out) NB225_206.out (by simp)); have n6_ := am_ (hb); have n7_ := am_ (hi); clear BK201 BK202 HO211 BK214 HO222 BK225 HB HI206; revert n0_ n1_ n2_ n3_ n4_ n5_ n6_ n7_; intro BK201 BK202 HO211 BK214 HO222 BK225 HB HI206; (try clear hb); (try clear hb2); (try clear hk); (try clear hi)))
   have n0_ := am_ (Kd.R_drew HO211.out)
   have n1_ := am_ (Kd.R_drew HO222.out)
   have n2_ := am_ (blk_drew BK201.out)
   have n3_ := am_ (blk_drew BK202.out)
   have n4_ := am_ (blk_drew BK214.out)
   have n5_ := am_ (blk_drew BK225.out)
   have n6_ := am_ (IsS75.drew HI206.out)
   have n7_ := am_ (below_drew1 HB.out)
   clear HO211 HO222 BK201 BK202 BK214 BK225 HI206 HB; revert n0_ n1_ n2_ n3_ n4_ n5_ n6_ n7_; intro HO211 HO222 BK201 BK202 BK214 BK225 HI206 HB
   refine start_ (n := 4) (S := fun w' => w'.cell? ⟨gb214, 0, none⟩ = some (.int .i64 t207) ∧ w'.cell? ⟨gb214, 1, none⟩ = some (.int .i64 t208) ∧ w'.cell? ⟨gb214, 2, none⟩ = some (.slice Ao101 t209.length co101) ∧ w'.cell? ⟨gb225, 0, none⟩ = some (.int .i64 t218) ∧ w'.cell? ⟨gb225, 1, none⟩ = some (.int .i64 t219) ∧ w'.cell? ⟨gb225, 2, none⟩ = some (.slice Ao110 t220.length co110)) (ds := []) #[false, false, false, false] (by kernel_rfl) rfl rfl ⟨bc_ BK214 0, bc_ BK214 1, bc_ BK214 2, bc_ BK225 0, bc_ BK225 1, bc_ BK225 2⟩ (fun hHeld => ?_)
   generalize w112.drew = w113 at HO211 HO222 BK201 BK202 BK214 BK225 HI206 HB hHeld ⊢
   refine take_ (i := 0) (N := some 45) (v := ?_) (a' := ?_) #[true, false, false, false] rfl rfl (by kernel_rfl) (fun _ _ _ h => h) (Or.inl ⟨by rfl, ?_⟩) hHeld ?_ ?_
   rotate_left
   ·rintro w' ⟨s0, s1, s2, s3, s4, s5⟩
    go_simp
    with_reducible rfl
   rotate_left
   ·simp only [Act.put, List.setIfInBounds_toArray, List.set_cons_zero, List.set_cons_succ, i64_w, i32_w]
    rfl
   refine take_ (i := 1) (N := some 46) (v := ?_) (a' := ?_) #[true, true, false, false] rfl rfl (by kernel_rfl) (fun _ _ _ h => h) (Or.inl ⟨by rfl, ?_⟩) hHeld ?_ ?_
   rotate_left
   ·rintro w' ⟨s0, s1, s2, s3, s4, s5⟩
    go_simp
    with_reducible rfl
   rotate_left
   ·simp only [Act.put, List.setIfInBounds_toArray, List.set_cons_zero, List.set_cons_succ, i64_w, i32_w]
    rfl
   refine one_ (i := 2) (N := none) #[true, true, true, false] rfl rfl (by kernel_rfl) (by decide) (fun K hK => ?_)
   have hs114 : w113.cell? ⟨gb201, 0, none⟩ = some (.int .i64 0) := bc_ BK201 0
   have hfs114 := blk_frozen BK201.out 0
   have hns114_1 := NB202_201.out
   have hns114_2 := NB214_201.out
   have hns114_3 := NB225_201.out
   have hms114_1 := NB201_202.out
   have hms114_2 := NB201_214.out
   have hms114_3 := NB201_225.out
   have hs115 : w113.cell? ⟨gb201, 1, none⟩ = some (.int .i64 0) := bc_ BK201 1
   have hfs115 := blk_frozen BK201.out 1
   have hns115_1 := NB202_201.out
   have hns115_2 := NB214_201.out
   have hns115_3 := NB225_201.out
   have hms115_1 := NB201_202.out
   have hms115_2 := NB201_214.out
   have hms115_3 := NB201_225.out
   have hs116 : w113.cell? ⟨gb201, 2, none⟩ = some (.slice none 0 0) := bc_ BK201 2
   have hfs116 := blk_frozen BK201.out 2
   have hns116_1 := NB202_201.out
   have hns116_2 := NB214_201.out
   have hns116_3 := NB225_201.out
   have hms116_1 := NB201_202.out
   have hms116_2 := NB201_214.out
   have hms116_3 := NB201_225.out
   refine skip_ (w1 := ?_) (by rfl) rfl ?_ ?_
   rotate_left
   ·go_simp
    rfl
   refine hK.out _ _ ⟨((cell_far (p := ⟨gb201, _, none⟩) NB214_201.out _).trans (((cell_far (p := ⟨gb201, _, none⟩) NB214_201.out _).trans (((cell_far (p := ⟨gb201, _, none⟩) NB214_201.out _).trans (hHeld.1)))))), ((cell_far (p := ⟨gb201, _, none⟩) NB214_201.out _).trans (((cell_far (p := ⟨gb201, _, none⟩) NB214_201.out _).trans (((cell_far (p := ⟨gb201, _, none⟩) NB214_201.out _).trans (hHeld.2.1)))))), ((cell_far (p := ⟨gb201, _, none⟩) NB214_201.out _).trans (((cell_far (p := ⟨gb201, _, none⟩) NB214_201.out _).trans (((cell_far (p := ⟨gb201, _, none⟩) NB214_201.out _).trans (hHeld.2.2.1)))))), ((cell_far (p := ⟨gb201, _, none⟩) NB225_201.out _).trans (((cell_far (p := ⟨gb201, _, none⟩) NB225_201.out _).trans (((cell_far (p := ⟨gb201, _, none⟩) NB225_201.out _).trans (hHeld.2.2.2.1)))))), ((cell_far (p := ⟨gb201, _, none⟩) NB225_201.out _).trans (((cell_far (p := ⟨gb201, _, none⟩) NB225_201.out _).trans (((cell_far (p := ⟨gb201, _, none⟩) NB225_201.out _).trans (hHeld.2.2.2.2.1)))))), ((cell_far (p := ⟨gb201, _, none⟩) NB225_201.out _).trans (((cell_far (p := ⟨gb201, _, none⟩) NB225_201.out _).trans (((cell_far (p := ⟨gb201, _, none⟩) NB225_201.out _).trans (hHeld.2.2.2.2.2))))))⟩ (fun hHeld => ?_)
   clear hK K
   refine one_ (i := 3) (N := none) #[true, true, true, true] rfl rfl (by kernel_rfl) (by decide) (fun K hK => ?_)
   have hs117 : w113.cell? ⟨gb202, 0, none⟩ = some (.int .i64 0) := bc_ BK202 0
   have hfs117 := blk_frozen BK202.out 0
   have hns117_0 := NB201_202.out
   have hns117_2 := NB214_202.out
   have hns117_3 := NB225_202.out
   have hms117_0 := NB202_201.out
   have hms117_2 := NB202_214.out
   have hms117_3 := NB202_225.out
   have hs118 : w113.cell? ⟨gb202, 1, none⟩ = some (.int .i64 0) := bc_ BK202 1
   have hfs118 := blk_frozen BK202.out 1
   have hns118_0 := NB201_202.out
   have hns118_2 := NB214_202.out
   have hns118_3 := NB225_202.out
   have hms118_0 := NB202_201.out
   have hms118_2 := NB202_214.out
   have hms118_3 := NB202_225.out
   have hs119 : w113.cell? ⟨gb202, 2, none⟩ = some (.slice none 0 0) := bc_ BK202 2
   have hfs119 := blk_frozen BK202.out 2
   have hns119_0 := NB201_202.out
   have hns119_2 := NB214_202.out
   have hns119_3 := NB225_202.out
   have hms119_0 := NB202_201.out
   have hms119_2 := NB202_214.out
   have hms119_3 := NB202_225.out
   refine skip_ (w1 := ?_) (by rfl) rfl ?_ ?_
   rotate_left
   ·go_simp
    rfl
   refine hK.out _ _ ⟨((cell_far (p := ⟨gb202, _, none⟩) NB214_202.out _).trans (((cell_far (p := ⟨gb202, _, none⟩) NB214_202.out _).trans (((cell_far (p := ⟨gb202, _, none⟩) NB214_202.out _).trans (hHeld.1)))))), ((cell_far (p := ⟨gb202, _, none⟩) NB214_202.out _).trans (((cell_far (p := ⟨gb202, _, none⟩) NB214_202.out _).trans (((cell_far (p := ⟨gb202, _, none⟩) NB214_202.out _).trans (hHeld.2.1)))))), ((cell_far (p := ⟨gb202, _, none⟩) NB214_202.out _).trans (((cell_far (p := ⟨gb202, _, none⟩) NB214_202.out _).trans (((cell_far (p := ⟨gb202, _, none⟩) NB214_202.out _).trans (hHeld.2.2.1)))))), ((cell_far (p := ⟨gb202, _, none⟩) NB225_202.out _).trans (((cell_far (p := ⟨gb202, _, none⟩) NB225_202.out _).trans (((cell_far (p := ⟨gb202, _, none⟩) NB225_202.out _).trans (hHeld.2.2.2.1)))))), ((cell_far (p := ⟨gb202, _, none⟩) NB225_202.out _).trans (((cell_far (p := ⟨gb202, _, none⟩) NB225_202.out _).trans (((cell_far (p := ⟨gb202, _, none⟩) NB225_202.out _).trans (hHeld.2.2.2.2.1)))))), ((cell_far (p := ⟨gb202, _, none⟩) NB225_202.out _).trans (((cell_far (p := ⟨gb202, _, none⟩) NB225_202.out _).trans (((cell_far (p := ⟨gb202, _, none⟩) NB225_202.out _).trans (hHeld.2.2.2.2.2))))))⟩ (fun hHeld => ?_)
   clear hK K
   refine done_ (by kernel_rfl) ?_
   try go_wp2
   refine bodyPost_ret (results_cc rfl _ _ gb201 gb202 28 28 #[.int .i64 t207, .int .i64 t208, .slice Ao101 t209.length co101] #[.int .i64 t218, .int .i64 t219, .slice Ao110 t220.length co110] (0, 0) (0, 0) _ _ rfl (by (with_reducible repeat (first | refine blk_drewN ?_ _ | refine blk_drew ?_ | refine blk_alloc ?_ _)); refine blk_far ?_ NB201_202.out _; (with_reducible repeat (first | refine blk_drewN ?_ _ | refine blk_drew ?_ | refine blk_alloc ?_ _)); refine blk_far ?_ NB201_202.out _; (with_reducible repeat (first | refine blk_drewN ?_ _ | refine blk_drew ?_ | refine blk_alloc ?_ _)); refine blk_far ?_ NB201_202.out _; (with_reducible repeat (first | refine blk_drewN ?_ _ | refine blk_drew ?_ | refine blk_alloc ?_ _)); refine blk_put (cs := #[.int .i64 t207, .int .i64 t208, .slice none 0 0]) ?_ 2 _ rfl; (with_reducible repeat (first | refine blk_drewN ?_ _ | refine blk_drew ?_ | refine blk_alloc ?_ _)); refine blk_put (cs := #[.int .i64 t207, .int .i64 0, .slice none 0 0]) ?_ 1 _ rfl; (with_reducible repeat (first | refine blk_drewN ?_ _ | refine blk_drew ?_ | refine blk_alloc ?_ _)); refine blk_put (cs := #[.int .i64 0, .int .i64 0, .slice none 0 0]) ?_ 0 _ rfl; (with_reducible repeat (first | refine blk_drewN ?_ _ | refine blk_drew ?_ | refine blk_alloc ?_ _)); exact BK201.out) Try.underlying28 rfl (by kernel_rfl) rfl (by (with_reducible repeat (first | refine blk_drewN ?_ _ | refine blk_drew ?_ | refine blk_alloc ?_ _)); refine blk_put (cs := #[.int .i64 t218, .int .i64 t219, .slice none 0 0]) ?_ 2 _ rfl; (with_reducible repeat (first | refine blk_drewN ?_ _ | refine blk_drew ?_ | refine blk_alloc ?_ _)); refine blk_put (cs := #[.int .i64 t218, .int .i64 0, .slice none 0 0]) ?_ 1 _ rfl; (with_reducible repeat (first | refine blk_drewN ?_ _ | refine blk_drew ?_ | refine blk_alloc ?_ _)); refine blk_put (cs := #[.int .i64 0, .int .i64 0, .slice none 0 0]) ?_ 0 _ rfl; (with_reducible repeat (first | refine blk_drewN ?_ _ | refine blk_drew ?_ | refine blk_alloc ?_ _)); refine blk_far ?_ NB202_201.out _; (with_reducible repeat (first | refine blk_drewN ?_ _ | refine blk_drew ?_ | refine blk_alloc ?_ _)); refine blk_far ?_ NB202_201.out _; (with_reducible repeat (first | refine blk_drewN ?_ _ | refine blk_drew ?_ | refine blk_alloc ?_ _)); refine blk_far ?_ NB202_201.out _; (with_reducible repeat (first | refine blk_drewN ?_ _ | refine blk_drew ?_ | refine blk_alloc ?_ _)); exact BK202.out) Try.underlying28 rfl (by kernel_rfl)) rfl ?_
   exact ⟨_, _, by first | rfl | (simp [errW_none, errW_some] <;> rfl) | (simp only [← hji4, ← hji5]; first | rfl | (simp [errW_none, errW_some] <;> rfl)) | (simp [*, errW_none, errW_some] <;> rfl), rm_ (Kd.R_far (p := ⟨gb202, 2, none⟩) (Kd.R_far (p := ⟨gb202, 1, none⟩) (Kd.R_far (p := ⟨gb202, 0, none⟩) (Kd.R_far (p := ⟨gb201, 2, none⟩) (Kd.R_far (p := ⟨gb201, 1, none⟩) (Kd.R_far (p := ⟨gb201, 0, none⟩) (Kd.R_types (Kd.R_types HO211.out BK201.out (by decide)) BK202.out (by decide)) (fun _ hk => hk.1.2) (.int .i64 t207)) (fun _ hk => hk.1.2) (.int .i64 t208)) (fun _ hk => hk.1.2) (.slice Ao101 t209.length co101)) (fun _ hk => hk.2) (.int .i64 t218)) (fun _ hk => hk.2) (.int .i64 t219)) (fun _ hk => hk.2) (.slice Ao110 t220.length co110)) (fun _ hk => hk.1.1), rm_ (Kd.R_far (p := ⟨gb202, 2, none⟩) (Kd.R_far (p := ⟨gb202, 1, none⟩) (Kd.R_far (p := ⟨gb202, 0, none⟩) (Kd.R_far (p := ⟨gb201, 2, none⟩) (Kd.R_far (p := ⟨gb201, 1, none⟩) (Kd.R_far (p := ⟨gb201, 0, none⟩) (Kd.R_types (Kd.R_types HO222.out BK201.out (by decide)) BK202.out (by decide)) (fun _ hk => hk.1.2) (.int .i64 t207)) (fun _ hk => hk.1.2) (.int .i64 t208)) (fun _ hk => hk.1.2) (.slice Ao101 t209.length co101)) (fun _ hk => hk.2) (.int .i64 t218)) (fun _ hk => hk.2) (.int .i64 t219)) (fun _ hk => hk.2) (.slice Ao110 t220.length co110)) (fun _ hk => hk.1.1), bi75_ HB.out⟩

end Go.Proofs.Ytifbfloifdkacaa.PFnProducts
