/- Written by this session's program out of the kit's print and this session's contracts. -/
import Derived.Test.YtifbfloifdkacaaVFnProductsPx0
import Derived.Test.YtifbfloifdkacaaVFnProductsPx3
import Derived.Test.YtifbfloifdkacaaVFnProductsPx5
import Derived.Test.YtifbfloifdkacaaVFnProductsPx7
import Derived.Test.YtifbfloifdkacaaVFnProductsPx10
import Derived.Test.YtifbfloifdkacaaVFnProductsPx11
namespace Go.Proofs.Ytifbfloifdkacaa.PFnProducts
open Go.RowKit Go.Proofs.YtifbfloifdkacaaW.PrintWords Go.Proofs.YtifbfloifdkacaaW.PrintLast Go.Proofs.YtifbfloifdkacaaW.PrintMore
attribute [local go_sem] max2_int min2_int max_two min_two max_three min_three max_four min_four   -- for this text's walks alone
set_option linter.unusedVariables false
set_option linter.unusedSimpArgs false

/-! ### laws_FnProducts: function 4 -/
mutual
def laws_FnProducts.j0 : Nat → Int → Bool → Int → Int → List Int → Int → Int → List Int → Int → Int → List Int → Option (Bool)
 | 0, _, _, _, _, _, _, _, _, _, _, _ => none
 | k + 1, x6, x52, x334000, x334001, x334002, x335000, x335001, x335002, x342000, x342001, x342002 => if x52 = true then (some false) else (if x6 = 0 then ((impl_Transpose.f k x335000 x335001 x335002).bind fun bt349 => ((impl_Transpose.f k x334000 x334001 x334002).bind fun bt354 => ((impl_MultiplyMatrices.f k bt349.1 bt349.2.1 bt349.2.2 bt354.1 bt354.2.1 bt354.2.2).bind fun bt359 => (if bt359.2.2.2 = 0 then ((impl_Transpose.f k x342000 x342001 x342002).bind fun bt366 => ((laws_likeMatrix.f k bt359.1 bt359.2.1 bt359.2.2.1 bt366.1 bt366.2.1 bt366.2.2).bind fun t371 => (laws_FnProducts.j1 k (!t371) x334000 x334001 x334002 x335000 x335001 x335002 x342000 x342001 x342002))) else (laws_FnProducts.j1 k true x334000 x334001 x334002 x335000 x335001 x335002 x342000 x342001 x342002))))) else (if x342000 = 0 then (some ((x342002.length : Int) == 0)) else (some false)))
def laws_FnProducts.j1 : Nat → Bool → Int → Int → List Int → Int → Int → List Int → Int → Int → List Int → Option (Bool)
 | 0, _, _, _, _, _, _, _, _, _, _ => none
 | k + 1, x80, x334000, x334001, x334002, x335000, x335001, x335002, x342000, x342001, x342002 => if x80 = true then (some false) else ((impl_Determinant.f k x334000 x334001 x334002).bind fun bt372 => ((impl_Determinant.f k x335000 x335001 x335002).bind fun bt374 => ((impl_Determinant.f k x342000 x342001 x342002).bind fun bt376 => (if (wrap64 ((wrap64 (bt372.2 + bt374.2)) + bt376.2)) = 0 then (some (bt376.1 == (wrap64 (bt372.1 * bt374.1)))) else (some true)))))
end
def laws_FnProducts.f (k : Nat) (l0 : List Int) : Option (Bool) := (laws_big.f l0).bind fun t322 => (if t322 = true then (some true) else ((spec_DrawMultiplyMatrices.f k l0).bind fun bt323 => ((impl_MultiplyMatrices.f k bt323.1 bt323.2.1 bt323.2.2.1 bt323.2.2.2.1 bt323.2.2.2.2.1 bt323.2.2.2.2.2).bind fun bt335 => ((spec_MultiplyMatrices.f k bt323.1 bt323.2.1 bt323.2.2.1 bt323.2.2.2.1 bt323.2.2.2.2.1 bt323.2.2.2.2.2).bind fun bt342 => (if bt335.2.2.2 = bt342.2.2.2 then (if bt335.1 = bt342.1 then (laws_FnProducts.j0 k bt335.2.2.2 (bt335.2.1 != bt342.2.1) bt323.1 bt323.2.1 bt323.2.2.1 bt323.2.2.2.1 bt323.2.2.2.2.1 bt323.2.2.2.2.2 bt335.1 bt335.2.1 bt335.2.2.1) else (laws_FnProducts.j0 k bt335.2.2.2 true bt323.1 bt323.2.1 bt323.2.2.1 bt323.2.2.2.1 bt323.2.2.2.2.1 bt323.2.2.2.2.2 bt335.1 bt335.2.1 bt335.2.2.1)) else (laws_FnProducts.j0 k bt335.2.2.2 true bt323.1 bt323.2.1 bt323.2.2.1 bt323.2.2.2.1 bt323.2.2.2.2.1 bt323.2.2.2.2.2 bt335.1 bt335.2.1 bt335.2.2.1))))))
theorem laws_FnProducts.mono_l : ∀ k, (∀ y0 y1 y2 y3 y4 y5 y6 y7 y8 y9 y10, LeO (laws_FnProducts.j0 k y0 y1 y2 y3 y4 y5 y6 y7 y8 y9 y10) (laws_FnProducts.j0 (k + 1) y0 y1 y2 y3 y4 y5 y6 y7 y8 y9 y10)) ∧ (∀ y0 y1 y2 y3 y4 y5 y6 y7 y8 y9, LeO (laws_FnProducts.j1 k y0 y1 y2 y3 y4 y5 y6 y7 y8 y9) (laws_FnProducts.j1 (k + 1) y0 y1 y2 y3 y4 y5 y6 y7 y8 y9))
 | 0 => ⟨fun _ _ _ _ _ _ _ _ _ _ _ r h => by simp [laws_FnProducts.j0] at h, fun _ _ _ _ _ _ _ _ _ _ r h => by simp [laws_FnProducts.j1] at h⟩
 | k + 1 => by
  obtain ⟨ih0, ih1⟩ := laws_FnProducts.mono_l k
  refine ⟨?_, ?_⟩
  ·intro y0 y1 y2 y3 y4 y5 y6 y7 y8 y9 y10
   unfold laws_FnProducts.j0
   repeat' first
   | (with_reducible exact ih0 _ _ _ _ _ _ _ _ _ _ _)
   | (with_reducible exact ih1 _ _ _ _ _ _ _ _ _ _)
   | (with_reducible exact impl_Determinant.mono _ _ _ _)
   | (with_reducible exact impl_MultiplyMatrices.mono _ _ _ _ _ _ _)
   | (with_reducible exact impl_Transpose.mono _ _ _ _)
   | (with_reducible exact laws_likeMatrix.mono _ _ _ _ _ _ _)
   | (with_reducible exact spec_DrawMultiplyMatrices.mono _ _)
   | (with_reducible exact spec_MultiplyMatrices.mono _ _ _ _ _ _ _)
   | (with_reducible exact LeO.refl _)
   | (with_reducible exact LeO.none _)
   | (with_reducible refine LeO.ite ?_ ?_)
   | (with_reducible refine LeO.bind ?_ (fun _ => ?_))
   | exact ih0 _ _ _ _ _ _ _ _ _ _ _
   | exact ih1 _ _ _ _ _ _ _ _ _ _
   | exact impl_Determinant.mono _ _ _ _
   | exact impl_MultiplyMatrices.mono _ _ _ _ _ _ _
   | exact impl_Transpose.mono _ _ _ _
   | exact laws_likeMatrix.mono _ _ _ _ _ _ _
   | exact spec_DrawMultiplyMatrices.mono _ _
   | exact spec_MultiplyMatrices.mono _ _ _ _ _ _ _
   | exact LeO.none _
   | refine LeO.ite ?_ ?_
   | refine LeO.bind ?_ (fun _ => ?_)
  ·intro y0 y1 y2 y3 y4 y5 y6 y7 y8 y9
   unfold laws_FnProducts.j1
   repeat' first
   | (with_reducible exact ih0 _ _ _ _ _ _ _ _ _ _ _)
   | (with_reducible exact ih1 _ _ _ _ _ _ _ _ _ _)
   | (with_reducible exact impl_Determinant.mono _ _ _ _)
   | (with_reducible exact impl_MultiplyMatrices.mono _ _ _ _ _ _ _)
   | (with_reducible exact impl_Transpose.mono _ _ _ _)
   | (with_reducible exact laws_likeMatrix.mono _ _ _ _ _ _ _)
   | (with_reducible exact spec_DrawMultiplyMatrices.mono _ _)
   | (with_reducible exact spec_MultiplyMatrices.mono _ _ _ _ _ _ _)
   | (with_reducible exact LeO.refl _)
   | (with_reducible exact LeO.none _)
   | (with_reducible refine LeO.ite ?_ ?_)
   | (with_reducible refine LeO.bind ?_ (fun _ => ?_))
   | exact ih0 _ _ _ _ _ _ _ _ _ _ _
   | exact ih1 _ _ _ _ _ _ _ _ _ _
   | exact impl_Determinant.mono _ _ _ _
   | exact impl_MultiplyMatrices.mono _ _ _ _ _ _ _
   | exact impl_Transpose.mono _ _ _ _
   | exact laws_likeMatrix.mono _ _ _ _ _ _ _
   | exact spec_DrawMultiplyMatrices.mono _ _
   | exact spec_MultiplyMatrices.mono _ _ _ _ _ _ _
   | exact LeO.none _
   | refine LeO.ite ?_ ?_
   | refine LeO.bind ?_ (fun _ => ?_)
theorem laws_FnProducts.mono : ∀ a0 k, LeO (laws_FnProducts.f k a0) (laws_FnProducts.f (k + 1) a0) := by
 intro a0 k
 obtain ⟨ih0, ih1⟩ := laws_FnProducts.mono_l k
 unfold laws_FnProducts.f
 repeat' first
   | (with_reducible exact ih0 _ _ _ _ _ _ _ _ _ _ _)
   | (with_reducible exact ih1 _ _ _ _ _ _ _ _ _ _)
   | (with_reducible exact impl_Determinant.mono _ _ _ _)
   | (with_reducible exact impl_MultiplyMatrices.mono _ _ _ _ _ _ _)
   | (with_reducible exact impl_Transpose.mono _ _ _ _)
   | (with_reducible exact laws_likeMatrix.mono _ _ _ _ _ _ _)
   | (with_reducible exact spec_DrawMultiplyMatrices.mono _ _)
   | (with_reducible exact spec_MultiplyMatrices.mono _ _ _ _ _ _ _)
   | (with_reducible exact LeO.refl _)
   | (with_reducible exact LeO.none _)
   | (with_reducible refine LeO.ite ?_ ?_)
   | (with_reducible refine LeO.bind ?_ (fun _ => ?_))
   | exact ih0 _ _ _ _ _ _ _ _ _ _ _
   | exact ih1 _ _ _ _ _ _ _ _ _ _
   | exact impl_Determinant.mono _ _ _ _
   | exact impl_MultiplyMatrices.mono _ _ _ _ _ _ _
   | exact impl_Transpose.mono _ _ _ _
   | exact laws_likeMatrix.mono _ _ _ _ _ _ _
   | exact spec_DrawMultiplyMatrices.mono _ _
   | exact spec_MultiplyMatrices.mono _ _ _ _ _ _ _
   | exact LeO.none _
   | refine LeO.ite ?_ ?_
   | refine LeO.bind ?_ (fun _ => ?_)
def laws_FnProducts.T10 : Bool × List (List Nat × List Nat) := (true, [([], []), ([0], [0]), ([], []), ([2, 1], [2]), ([1, 3, 3], [1, 3]), ([4], [4]), ([5], [5]), ([5], [5]), ([], []), ([8, 6, 4, 0, 1, 2, 3, 4, 5, 6, 8], [6, 8]), ([7, 9, 0, 1, 2, 3, 4, 5, 6, 7, 8, 9], [7])])
def laws_FnProducts.B10 : List Nat := [0, 1, 0, 7, 15, 31, 63, 63, 0, 383, 1023]
theorem laws_FnProducts.tab10 : rtab .any (opsOf Try.f4 10) = laws_FnProducts.T10 := by kernel_rfl
theorem laws_FnProducts.bits10 : waitsOk laws_FnProducts.T10.2 laws_FnProducts.B10 = true := by kernel_rfl
def laws_FnProducts.T11 : Bool × List (List Nat × List Nat) := (true, [([], []), ([0], [0]), ([1], [1]), ([2], [2]), ([2], [2]), ([4, 2, 2], [2, 4]), ([3, 5, 5, 2], [2, 3, 5]), ([6, 2], [2, 6]), ([2, 7], [2, 7])])
def laws_FnProducts.B11 : List Nat := [0, 1, 3, 7, 7, 23, 63, 127, 255]
theorem laws_FnProducts.tab11 : rtab .any (opsOf Try.f4 11) = laws_FnProducts.T11 := by kernel_rfl
theorem laws_FnProducts.bits11 : waitsOk laws_FnProducts.T11.2 laws_FnProducts.B11 = true := by kernel_rfl
set_option maxHeartbeats 8000000 in
set_option maxRecDepth 100000 in
theorem laws_FnProducts.calls (k : Nat) (A0 : Option Addr) (c0 : Nat) (l0 : List Int) (r : Bool) (w : World) (hr0 : Kd.C (Kd.int .u8) w A0 l0.length l0) (hc0 : l0.length ≤ c0) (h : laws_FnProducts.f k l0 = some r) (HTRUE_ : Aside0 (r = true)) :
  Calls Try.prog 4 #[.slice A0 l0.length c0] w fun e w' => e = .returned (.bool r) ∧ Below w.heap.size w w' := by
 have hu28 := Try.underlying28
 have HR0 := am_ hr0
 have HC0 := am_ hc0
 clear hr0 hc0
 have HB := am_ (Below.refl w.heap.size w)
 have H : ((laws_big.f l0).bind fun t322 => (if t322 = true then (some true) else ((spec_DrawMultiplyMatrices.f k l0).bind fun bt323 => ((impl_MultiplyMatrices.f k bt323.1 bt323.2.1 bt323.2.2.1 bt323.2.2.2.1 bt323.2.2.2.2.1 bt323.2.2.2.2.2).bind fun bt335 => ((spec_MultiplyMatrices.f k bt323.1 bt323.2.1 bt323.2.2.1 bt323.2.2.2.1 bt323.2.2.2.2.1 bt323.2.2.2.2.2).bind fun bt342 => (if bt335.2.2.2 = bt342.2.2.2 then (if bt335.1 = bt342.1 then (laws_FnProducts.j0 k bt335.2.2.2 (bt335.2.1 != bt342.2.1) bt323.1 bt323.2.1 bt323.2.2.1 bt323.2.2.2.1 bt323.2.2.2.2.1 bt323.2.2.2.2.2 bt335.1 bt335.2.1 bt335.2.2.1) else (laws_FnProducts.j0 k bt335.2.2.2 true bt323.1 bt323.2.1 bt323.2.2.1 bt323.2.2.2.1 bt323.2.2.2.2.1 bt323.2.2.2.2.2 bt335.1 bt335.2.1 bt335.2.2.1)) else (laws_FnProducts.j0 k bt335.2.2.2 true bt323.1 bt323.2.1 bt323.2.2.1 bt323.2.2.2.1 bt323.2.2.2.2.1 bt323.2.2.2.2.2 bt335.1 bt335.2.1 bt335.2.2.1))))))) = some r := h
 clear h
 replace H := Option.bind_eq_some_iff.mp H
 obtain ⟨t322, A20, H⟩ := H
 replace H : (if t322 = true then (some true) else ((spec_DrawMultiplyMatrices.f k l0).bind fun bt323 => ((impl_MultiplyMatrices.f k bt323.1 bt323.2.1 bt323.2.2.1 bt323.2.2.2.1 bt323.2.2.2.2.1 bt323.2.2.2.2.2).bind fun bt335 => ((spec_MultiplyMatrices.f k bt323.1 bt323.2.1 bt323.2.2.1 bt323.2.2.2.1 bt323.2.2.2.2.1 bt323.2.2.2.2.2).bind fun bt342 => (if bt335.2.2.2 = bt342.2.2.2 then (if bt335.1 = bt342.1 then (laws_FnProducts.j0 k bt335.2.2.2 (bt335.2.1 != bt342.2.1) bt323.1 bt323.2.1 bt323.2.2.1 bt323.2.2.2.1 bt323.2.2.2.2.1 bt323.2.2.2.2.2 bt335.1 bt335.2.1 bt335.2.2.1) else (laws_FnProducts.j0 k bt335.2.2.2 true bt323.1 bt323.2.1 bt323.2.2.1 bt323.2.2.2.1 bt323.2.2.2.2.1 bt323.2.2.2.2.2 bt335.1 bt335.2.1 bt335.2.2.1)) else (laws_FnProducts.j0 k bt335.2.2.2 true bt323.1 bt323.2.1 bt323.2.2.1 bt323.2.2.2.1 bt323.2.2.2.2.1 bt323.2.2.2.2.2 bt335.1 bt335.2.1 bt335.2.2.1)))))) = some r := H
 have A2 := am_ A20
 clear A20
 by_cases c3 : t322 = true
 ·subst c3
  have H1 : (some true) = some r := by rw [if_pos rfl] at H; exact H
  clear H
  have H := H1
  clear H1
  obtain rfl := Option.some.inj H
  go_enter Try.func4, Try.ntmps4
  go_wp2_with (first | ((with_reducible refine gate_callee (f := 11) rfl ?_); refine goesL_ (some 18) rfl rfl Try.func11 (by kernel_rfl) rfl #[.slice A0 l0.length c0] rfl lm_ ?_; (with_reducible refine (laws_big.calls _ _ l0 true _ ?side1 ?side2 A2.out).mono ?_); (case side1 => repeat (first | exact HR0.out | (with_reducible refine Kd.C_alloc ?_ _) | (with_reducible refine Kd.C_drewN ?_ _) | (with_reducible refine Kd.C_drew ?_))); (case side2 => exact HC0.out); rintro e w' ⟨rfl, ⟨nd, rfl⟩⟩; refine ⟨_, rfl, ?_⟩))
  go_ret
  exact ⟨by first | rfl | (simp [errW_none, errW_some] <;> rfl) | (simp [*, errW_none, errW_some] <;> rfl), bb_ HB.out⟩
 ·replace c3 := Bool.eq_false_iff.mpr c3
  subst c3
  have H1 : ((spec_DrawMultiplyMatrices.f k l0).bind fun bt323 => ((impl_MultiplyMatrices.f k bt323.1 bt323.2.1 bt323.2.2.1 bt323.2.2.2.1 bt323.2.2.2.2.1 bt323.2.2.2.2.2).bind fun bt335 => ((spec_MultiplyMatrices.f k bt323.1 bt323.2.1 bt323.2.2.1 bt323.2.2.2.1 bt323.2.2.2.2.1 bt323.2.2.2.2.2).bind fun bt342 => (if bt335.2.2.2 = bt342.2.2.2 then (if bt335.1 = bt342.1 then (laws_FnProducts.j0 k bt335.2.2.2 (bt335.2.1 != bt342.2.1) bt323.1 bt323.2.1 bt323.2.2.1 bt323.2.2.2.1 bt323.2.2.2.2.1 bt323.2.2.2.2.2 bt335.1 bt335.2.1 bt335.2.2.1) else (laws_FnProducts.j0 k bt335.2.2.2 true bt323.1 bt323.2.1 bt323.2.2.1 bt323.2.2.2.1 bt323.2.2.2.2.1 bt323.2.2.2.2.2 bt335.1 bt335.2.1 bt335.2.2.1)) else (laws_FnProducts.j0 k bt335.2.2.2 true bt323.1 bt323.2.1 bt323.2.2.1 bt323.2.2.2.1 bt323.2.2.2.2.1 bt323.2.2.2.2.2 bt335.1 bt335.2.1 bt335.2.2.1))))) = some r := by rw [if_neg (show ¬ (false = true) by decide)] at H; exact H
  clear H
  have H := H1
  clear H1
  replace H := Option.bind_eq_some_iff.mp H
  obtain ⟨⟨t323, t324, t325, t328, t329, t330⟩, A40, H⟩ := H
  replace H : ((impl_MultiplyMatrices.f k t323 t324 t325 t328 t329 t330).bind fun bt335 => ((spec_MultiplyMatrices.f k t323 t324 t325 t328 t329 t330).bind fun bt342 => (if bt335.2.2.2 = bt342.2.2.2 then (if bt335.1 = bt342.1 then (laws_FnProducts.j0 k bt335.2.2.2 (bt335.2.1 != bt342.2.1) t323 t324 t325 t328 t329 t330 bt335.1 bt335.2.1 bt335.2.2.1) else (laws_FnProducts.j0 k bt335.2.2.2 true t323 t324 t325 t328 t329 t330 bt335.1 bt335.2.1 bt335.2.2.1)) else (laws_FnProducts.j0 k bt335.2.2.2 true t323 t324 t325 t328 t329 t330 bt335.1 bt335.2.1 bt335.2.2.1)))) = some r := H
  have A4 := am_ A40
  clear A40
  replace H := Option.bind_eq_some_iff.mp H
  obtain ⟨⟨t335, t336, t337, t340⟩, A50, H⟩ := H
  replace H : ((spec_MultiplyMatrices.f k t323 t324 t325 t328 t329 t330).bind fun bt342 => (if t340 = bt342.2.2.2 then (if t335 = bt342.1 then (laws_FnProducts.j0 k t340 (t336 != bt342.2.1) t323 t324 t325 t328 t329 t330 t335 t336 t337) else (laws_FnProducts.j0 k t340 true t323 t324 t325 t328 t329 t330 t335 t336 t337)) else (laws_FnProducts.j0 k t340 true t323 t324 t325 t328 t329 t330 t335 t336 t337))) = some r := H
  have A5 := am_ A50
  clear A50
  replace H := Option.bind_eq_some_iff.mp H
  obtain ⟨⟨t342, t343, t344, t347⟩, A60, H⟩ := H
  replace H : (if t340 = t347 then (if t335 = t342 then (laws_FnProducts.j0 k t340 (t336 != t343) t323 t324 t325 t328 t329 t330 t335 t336 t337) else (laws_FnProducts.j0 k t340 true t323 t324 t325 t328 t329 t330 t335 t336 t337)) else (laws_FnProducts.j0 k t340 true t323 t324 t325 t328 t329 t330 t335 t336 t337)) = some r := H
  have A6 := am_ A60
  clear A60
  have HC7 := am_ H
  clear H
  go_enter Try.func4, Try.ntmps4
  go_upto_region 6 with (first | ((with_reducible refine gate_callee (f := 11) rfl ?_); refine goesL_ (some 18) rfl rfl Try.func11 (by kernel_rfl) rfl #[.slice A0 l0.length c0] rfl lm_ ?_; (with_reducible refine (laws_big.calls _ _ l0 false _ ?side1 ?side2 A2.out).mono ?_); (case side1 => repeat (first | exact HR0.out | (with_reducible refine Kd.C_alloc ?_ _) | (with_reducible refine Kd.C_drewN ?_ _) | (with_reducible refine Kd.C_drew ?_))); (case side2 => exact HC0.out); rintro e w' ⟨rfl, ⟨nd, rfl⟩⟩; refine ⟨_, rfl, ?_⟩) | ((with_reducible refine gate_callee (f := 12) rfl ?_); refine goesL_ (some 21) rfl rfl Try.func12 (by kernel_rfl) rfl #[.slice A0 l0.length c0] rfl lm_ ?_; (with_reducible refine (spec_DrawMultiplyMatrices.calls k _ _ l0 t323 t324 t325 t328 t329 t330 _ ?side1 ?side2 A4.out).mono ?_); (case side1 => repeat (first | exact HR0.out | (with_reducible refine Kd.C_alloc ?_ _) | (with_reducible refine Kd.C_drewN ?_ _) | (with_reducible refine Kd.C_drew ?_))); (case side2 => exact HC0.out); rintro e w8 ⟨v326, v331, rfl, ho0, ho1, hb⟩; refine ⟨_, rfl, ?_⟩; have n0_ := am_ (Kd.R_lower ho0 (below_size (bb_ HB.out))); have n1_ := am_ (Kd.R_lower ho1 (below_size (bb_ HB.out))); have n2_ := am_ (below_step (bb_ HB.out) hb); clear HB; revert n0_ n1_ n2_; intro HO327 HO332 HB; (try clear hb); (try clear hb2); (try clear hk); (try clear hi); (try clear ho0); (try clear ho1)) | ((with_reducible refine gate_dst (N := 3) rfl ?_); (try (refine gate_guard (by rfl) ?_; dsimp only)); refine box_event ?hg (N := 3) ?hd (cs := #[.int .i64 0, .int .i64 0, .slice none 0 0]) (t := 28) ?hr ?_; (case hd => rfl); (case hg => rfl); (case hr => first | (go_simp; done) | (go_simp; rfl)); intro gb333 hg w9 hbox hb; have n0_ := am_ (Kd.R_below (rk_ HO327.out) hb); have n1_ := am_ (Kd.R_below (rk_ HO332.out) hb); have n2_ := am_ (below_step (bb_ HB.out) hb); have n3_ := am_ (hbox); have n4_ := am_ ((by rw [hg]; exact (below_size (bb_ HB.out)) : w.heap.size ≤ gb333)); have n5_ := am_ ((by rw [hg]; exact (below_size (bb_ HB.out)) : w.heap.size ≤ gb333)); clear HO327 HO332 HB; revert n0_ n1_ n2_ n3_ n4_ n5_; intro HO327 HO332 HB BK333 GW333 GE333; clear hb hbox hg) | ((with_reducible refine gate_dst (N := 4) rfl ?_); (try (refine gate_guard (by rfl) ?_; dsimp only)); refine box_event ?hg (N := 4) ?hd (cs := #[.int .i64 0, .int .i64 0, .slice none 0 0]) (t := 28) ?hr ?_; (case hd => rfl); (case hg => rfl); (case hr => first | (go_simp; done) | (go_simp; rfl)); intro gb334 hg w10 hbox hb; have n0_ := am_ (Kd.R_below (rk_ HO327.out) hb); have n1_ := am_ (Kd.R_below (rk_ HO332.out) hb); have n2_ := am_ (bw_ BK333 hb); have n3_ := am_ (below_step (bb_ HB.out) hb); have n4_ := am_ (hbox); have n5_ := am_ ((by rw [hg]; exact (below_size (bb_ HB.out)) : w.heap.size ≤ gb334)); have n6_ := am_ ((by rw [hg]; exact (below_size (bb_ HB.out)) : w.heap.size ≤ gb334)); have n7_ := am_ (nl_ BK333 hg); have n8_ := am_ (ng_ BK333 hg); clear HO327 HO332 BK333 HB; revert n0_ n1_ n2_ n3_ n4_ n5_ n6_ n7_ n8_; intro HO327 HO332 BK333 HB BK334 GW334 GE334 NB333_334 NB334_333; clear hb hbox hg; have hnb11 := NB333_334.out; have hnc11 := NB334_333.out; have hcz12_0 : w10.cell? ⟨gb333, 0, none⟩ = some (.int .i64 0) := bc_ BK333 0; have hcz12_1 : w10.cell? ⟨gb333, 1, none⟩ = some (.int .i64 0) := bc_ BK333 1; have hcz12_2 : w10.cell? ⟨gb333, 2, none⟩ = some (.slice none 0 0) := bc_ BK333 2; have hfz12_0 := blk_frozen BK333.out 0; have hfz12_1 := blk_frozen BK333.out 1; have hfz12_2 := blk_frozen BK333.out 2; obtain ⟨Ao13, co13, eo13⟩ := Kd.R_slice HO327.out; subst eo13; have hcz14_0 : w10.cell? ⟨gb334, 0, none⟩ = some (.int .i64 0) := bc_ BK334 0; have hcz14_1 : w10.cell? ⟨gb334, 1, none⟩ = some (.int .i64 0) := bc_ BK334 1; have hcz14_2 : w10.cell? ⟨gb334, 2, none⟩ = some (.slice none 0 0) := bc_ BK334 2; have hfz14_0 := blk_frozen BK334.out 0; have hfz14_1 := blk_frozen BK334.out 1; have hfz14_2 := blk_frozen BK334.out 2; obtain ⟨Ao15, co15, eo15⟩ := Kd.R_slice HO332.out; subst eo15) | ((with_reducible refine gate_callee (f := 13) rfl ?_); refine goesL_ (some 27) rfl rfl Try.func13 (by kernel_rfl) rfl #[.agg #[.int .i64 t323, .int .i64 t324, .slice Ao13 t325.length co13], .agg #[.int .i64 t328, .int .i64 t329, .slice Ao15 t330.length co15]] rfl lm_ ?_; (with_reducible refine (impl_MultiplyMatrices.calls k t323 t324 _ _ t325 t328 t329 _ _ t330 t335 t336 t337 t340 _ ?side1 ?side2 ?side3 ?side4 A5.out).mono ?_); (case side1 => refine (Kd.R_reads' (e := 2) (base := w.heap.size) (ok := fun k_ => some k_ ≠ (.slice Ao15 t330.length co15 : Value).ownBlock) (n := t325.length) (c := co13) ?_).2.2; exact ((rm_ (Kd.R_mono (Kd.R_far (p := ⟨gb334, 2, none⟩) (Kd.R_far (p := ⟨gb334, 1, none⟩) (Kd.R_far (p := ⟨gb334, 0, none⟩) (Kd.R_far (p := ⟨gb333, 2, none⟩) (Kd.R_far (p := ⟨gb333, 1, none⟩) (Kd.R_far (p := ⟨gb333, 0, none⟩) (Kd.R_types (Kd.R_types HO327.out BK333.out (by decide)) BK334.out (by decide)) (fun _ hk => hk.1.2) (.int .i64 t323)) (fun _ hk => hk.1.2) (.int .i64 t324)) (fun _ hk => hk.1.2) (.slice Ao13 t325.length co13)) (fun _ hk => hk.2) (.int .i64 t328)) (fun _ hk => hk.2) (.int .i64 t329)) (fun _ hk => hk.2) (.slice Ao15 t330.length co15)) (fun _ h_ => h_.1)) (fun _ h_ => h_.1)))); (case side2 => exact (Kd.R_reads' HO327.out).2.1); (case side3 => refine (Kd.R_reads' (e := 2) (base := w.heap.size) (ok := fun k_ => some k_ ≠ (.slice Ao13 t325.length co13 : Value).ownBlock) (n := t330.length) (c := co15) ?_).2.2; exact ((rm_ (Kd.R_mono (Kd.R_far (p := ⟨gb334, 2, none⟩) (Kd.R_far (p := ⟨gb334, 1, none⟩) (Kd.R_far (p := ⟨gb334, 0, none⟩) (Kd.R_far (p := ⟨gb333, 2, none⟩) (Kd.R_far (p := ⟨gb333, 1, none⟩) (Kd.R_far (p := ⟨gb333, 0, none⟩) (Kd.R_types (Kd.R_types HO332.out BK333.out (by decide)) BK334.out (by decide)) (fun _ hk => hk.1.2) (.int .i64 t323)) (fun _ hk => hk.1.2) (.int .i64 t324)) (fun _ hk => hk.1.2) (.slice Ao13 t325.length co13)) (fun _ hk => hk.2) (.int .i64 t328)) (fun _ hk => hk.2) (.int .i64 t329)) (fun _ hk => hk.2) (.slice Ao15 t330.length co15)) (fun _ h_ => h_.1)) (fun _ h_ => h_.1)))); (case side4 => exact (Kd.R_reads' HO332.out).2.1); rintro e w16 ⟨v338, rfl, ho0, hb⟩; refine ⟨_, rfl, ?_⟩; have n0_ := am_ (Kd.R_elder' ((rm_ (Kd.R_mono (Kd.R_far (p := ⟨gb334, 2, none⟩) (Kd.R_far (p := ⟨gb334, 1, none⟩) (Kd.R_far (p := ⟨gb334, 0, none⟩) (Kd.R_far (p := ⟨gb333, 2, none⟩) (Kd.R_far (p := ⟨gb333, 1, none⟩) (Kd.R_far (p := ⟨gb333, 0, none⟩) (Kd.R_types (Kd.R_types HO327.out BK333.out (by decide)) BK334.out (by decide)) (fun _ hk => hk.1.2) (.int .i64 t323)) (fun _ hk => hk.1.2) (.int .i64 t324)) (fun _ hk => hk.1.2) (.slice Ao13 t325.length co13)) (fun _ hk => hk.2) (.int .i64 t328)) (fun _ hk => hk.2) (.int .i64 t329)) (fun _ hk => hk.2) (.slice Ao15 t330.length co15)) (fun _ h_ => h_.1)) (fun _ h_ => h_.1))) (Kd.R_base ho0) hb); have n1_ := am_ (Kd.R_elder' ((rm_ (Kd.R_mono (Kd.R_far (p := ⟨gb334, 2, none⟩) (Kd.R_far (p := ⟨gb334, 1, none⟩) (Kd.R_far (p := ⟨gb334, 0, none⟩) (Kd.R_far (p := ⟨gb333, 2, none⟩) (Kd.R_far (p := ⟨gb333, 1, none⟩) (Kd.R_far (p := ⟨gb333, 0, none⟩) (Kd.R_types (Kd.R_types HO332.out BK333.out (by decide)) BK334.out (by decide)) (fun _ hk => hk.1.2) (.int .i64 t323)) (fun _ hk => hk.1.2) (.int .i64 t324)) (fun _ hk => hk.1.2) (.slice Ao13 t325.length co13)) (fun _ hk => hk.2) (.int .i64 t328)) (fun _ hk => hk.2) (.int .i64 t329)) (fun _ hk => hk.2) (.slice Ao15 t330.length co15)) (fun _ h_ => h_.1)) (fun _ h_ => h_.1))) (Kd.R_base ho0) hb); have n2_ := am_ (Kd.R_lower (Kd.R_new' (Kd.R_new' ho0 (Kd.R_lt ((rm_ (Kd.R_mono (Kd.R_far (p := ⟨gb334, 2, none⟩) (Kd.R_far (p := ⟨gb334, 1, none⟩) (Kd.R_far (p := ⟨gb334, 0, none⟩) (Kd.R_far (p := ⟨gb333, 2, none⟩) (Kd.R_far (p := ⟨gb333, 1, none⟩) (Kd.R_far (p := ⟨gb333, 0, none⟩) (Kd.R_types (Kd.R_types HO327.out BK333.out (by decide)) BK334.out (by decide)) (fun _ hk => hk.1.2) (.int .i64 t323)) (fun _ hk => hk.1.2) (.int .i64 t324)) (fun _ hk => hk.1.2) (.slice Ao13 t325.length co13)) (fun _ hk => hk.2) (.int .i64 t328)) (fun _ hk => hk.2) (.int .i64 t329)) (fun _ hk => hk.2) (.slice Ao15 t330.length co15)) (fun _ h_ => h_.1)) (fun _ h_ => h_.1))))) (Kd.R_lt ((rm_ (Kd.R_mono (Kd.R_far (p := ⟨gb334, 2, none⟩) (Kd.R_far (p := ⟨gb334, 1, none⟩) (Kd.R_far (p := ⟨gb334, 0, none⟩) (Kd.R_far (p := ⟨gb333, 2, none⟩) (Kd.R_far (p := ⟨gb333, 1, none⟩) (Kd.R_far (p := ⟨gb333, 0, none⟩) (Kd.R_types (Kd.R_types HO332.out BK333.out (by decide)) BK334.out (by decide)) (fun _ hk => hk.1.2) (.int .i64 t323)) (fun _ hk => hk.1.2) (.int .i64 t324)) (fun _ hk => hk.1.2) (.slice Ao13 t325.length co13)) (fun _ hk => hk.2) (.int .i64 t328)) (fun _ hk => hk.2) (.int .i64 t329)) (fun _ hk => hk.2) (.slice Ao15 t330.length co15)) (fun _ h_ => h_.1)) (fun _ h_ => h_.1))))) (below_size (bb_ HB.out))); have n3_ := am_ (blk_below (g := gb333) (o := .cells #[.int .i64 t323, .int .i64 t324, .slice Ao13 t325.length co13] 28 (0, 0)) (by (with_reducible repeat (first | refine blk_drewN ?_ _ | refine blk_drew ?_ | refine blk_alloc ?_ _)); refine blk_far ?_ NB333_334.out _; (with_reducible repeat (first | refine blk_drewN ?_ _ | refine blk_drew ?_ | refine blk_alloc ?_ _)); refine blk_far ?_ NB333_334.out _; (with_reducible repeat (first | refine blk_drewN ?_ _ | refine blk_drew ?_ | refine blk_alloc ?_ _)); refine blk_far ?_ NB333_334.out _; (with_reducible repeat (first | refine blk_drewN ?_ _ | refine blk_drew ?_ | refine blk_alloc ?_ _)); refine blk_put (cs := #[.int .i64 t323, .int .i64 t324, .slice none 0 0]) ?_ 2 _ rfl; (with_reducible repeat (first | refine blk_drewN ?_ _ | refine blk_drew ?_ | refine blk_alloc ?_ _)); refine blk_put (cs := #[.int .i64 t323, .int .i64 0, .slice none 0 0]) ?_ 1 _ rfl; (with_reducible repeat (first | refine blk_drewN ?_ _ | refine blk_drew ?_ | refine blk_alloc ?_ _)); refine blk_put (cs := #[.int .i64 0, .int .i64 0, .slice none 0 0]) ?_ 0 _ rfl; (with_reducible repeat (first | refine blk_drewN ?_ _ | refine blk_drew ?_ | refine blk_alloc ?_ _)); exact BK333.out) hb); have n4_ := am_ (blk_below (g := gb334) (o := .cells #[.int .i64 t328, .int .i64 t329, .slice Ao15 t330.length co15] 28 (0, 0)) (by (with_reducible repeat (first | refine blk_drewN ?_ _ | refine blk_drew ?_ | refine blk_alloc ?_ _)); refine blk_put (cs := #[.int .i64 t328, .int .i64 t329, .slice none 0 0]) ?_ 2 _ rfl; (with_reducible repeat (first | refine blk_drewN ?_ _ | refine blk_drew ?_ | refine blk_alloc ?_ _)); refine blk_put (cs := #[.int .i64 t328, .int .i64 0, .slice none 0 0]) ?_ 1 _ rfl; (with_reducible repeat (first | refine blk_drewN ?_ _ | refine blk_drew ?_ | refine blk_alloc ?_ _)); refine blk_put (cs := #[.int .i64 0, .int .i64 0, .slice none 0 0]) ?_ 0 _ rfl; (with_reducible repeat (first | refine blk_drewN ?_ _ | refine blk_drew ?_ | refine blk_alloc ?_ _)); refine blk_far ?_ NB334_333.out _; (with_reducible repeat (first | refine blk_drewN ?_ _ | refine blk_drew ?_ | refine blk_alloc ?_ _)); refine blk_far ?_ NB334_333.out _; (with_reducible repeat (first | refine blk_drewN ?_ _ | refine blk_drew ?_ | refine blk_alloc ?_ _)); refine blk_far ?_ NB334_333.out _; (with_reducible repeat (first | refine blk_drewN ?_ _ | refine blk_drew ?_ | refine blk_alloc ?_ _)); exact BK334.out) hb); have n5_ := am_ (below_step (bb_ HB.out) hb); clear HO327 HO332 BK333 BK334 HB; revert n0_ n1_ n2_ n3_ n4_ n5_; intro HO327 HO332 HO339 BK333 BK334 HB; (try clear hb); (try clear hb2); (try clear hk); (try clear hi); (try clear ho0)) | ((with_reducible refine gate_dst (N := 5) rfl ?_); (try (refine gate_guard (by rfl) ?_; dsimp only)); refine box_event ?hg (N := 5) ?hd (cs := #[.int .i64 0, .int .i64 0, .slice none 0 0]) (t := 28) ?hr ?_; (case hd => rfl); (case hg => rfl); (case hr => first | (go_simp; done) | (go_simp; rfl)); intro gb341 hg w17 hbox hb; have n0_ := am_ (Kd.R_below (rk_ HO327.out) hb); have n1_ := am_ (Kd.R_below (rk_ HO332.out) hb); have n2_ := am_ (Kd.R_below (rk_ HO339.out) hb); have n3_ := am_ (bw_ BK333 hb); have n4_ := am_ (bw_ BK334 hb); have n5_ := am_ (below_step (bb_ HB.out) hb); have n6_ := am_ (hbox); have n7_ := am_ ((by rw [hg]; exact (below_size (bb_ HB.out)) : w.heap.size ≤ gb341)); have n8_ := am_ ((by rw [hg]; exact (below_size (bb_ HB.out)) : w.heap.size ≤ gb341)); have n9_ := am_ (nl_ BK333 hg); have n10_ := am_ (ng_ BK333 hg); have n11_ := am_ (nl_ BK334 hg); have n12_ := am_ (ng_ BK334 hg); clear HO327 HO332 HO339 BK333 BK334 HB; revert n0_ n1_ n2_ n3_ n4_ n5_ n6_ n7_ n8_ n9_ n10_ n11_ n12_; intro HO327 HO332 HO339 BK333 BK334 HB BK341 GW341 GE341 NB333_341 NB341_333 NB334_341 NB341_334; clear hb hbox hg; have hnb18 := NB341_333.out; have hnc18 := NB333_341.out; have hnb19 := NB341_334.out; have hnc19 := NB334_341.out; have hcz20_0 : w17.cell? ⟨gb341, 0, none⟩ = some (.int .i64 0) := bc_ BK341 0; have hcz20_1 : w17.cell? ⟨gb341, 1, none⟩ = some (.int .i64 0) := bc_ BK341 1; have hcz20_2 : w17.cell? ⟨gb341, 2, none⟩ = some (.slice none 0 0) := bc_ BK341 2; have hfz20_0 := blk_frozen BK341.out 0; have hfz20_1 := blk_frozen BK341.out 1; have hfz20_2 := blk_frozen BK341.out 2; obtain ⟨Ao21, co21, eo21⟩ := Kd.R_slice HO339.out; subst eo21; have hcz22_0 : w17.cell? ⟨gb333, 0, none⟩ = some (.int .i64 t323) := bc_ BK333 0; have hcz22_1 : w17.cell? ⟨gb333, 1, none⟩ = some (.int .i64 t324) := bc_ BK333 1; have hcz22_2 : w17.cell? ⟨gb333, 2, none⟩ = some (.slice Ao13 t325.length co13) := bc_ BK333 2; have hfz22_0 := blk_frozen BK333.out 0; have hfz22_1 := blk_frozen BK333.out 1; have hfz22_2 := blk_frozen BK333.out 2; have hcz23_0 : w17.cell? ⟨gb334, 0, none⟩ = some (.int .i64 t328) := bc_ BK334 0; have hcz23_1 : w17.cell? ⟨gb334, 1, none⟩ = some (.int .i64 t329) := bc_ BK334 1; have hcz23_2 : w17.cell? ⟨gb334, 2, none⟩ = some (.slice Ao15 t330.length co15) := bc_ BK334 2; have hfz23_0 := blk_frozen BK334.out 0; have hfz23_1 := blk_frozen BK334.out 1; have hfz23_2 := blk_frozen BK334.out 2) | ((with_reducible refine gate_callee (f := 14) rfl ?_); refine goesL_ (some 33) rfl rfl Try.func14 (by kernel_rfl) rfl #[.agg #[.int .i64 t323, .int .i64 t324, .slice Ao13 t325.length co13], .agg #[.int .i64 t328, .int .i64 t329, .slice Ao15 t330.length co15]] rfl lm_ ?_; (with_reducible refine (spec_MultiplyMatrices.calls k t323 t324 _ _ t325 t328 t329 _ _ t330 t342 t343 t344 t347 _ ?side1 ?side2 ?side3 ?side4 A6.out).mono ?_); (case side1 => refine (Kd.R_reads' (e := 2) (base := w.heap.size) (ok := fun k_ => (some k_ ≠ (.slice Ao15 t330.length co15 : Value).ownBlock ∧ some k_ ≠ (.slice Ao21 t337.length co21 : Value).ownBlock)) (n := t325.length) (c := co13) ?_).2.2; exact ((rm_ (Kd.R_far (p := ⟨gb341, 2, none⟩) (Kd.R_far (p := ⟨gb341, 1, none⟩) (Kd.R_far (p := ⟨gb341, 0, none⟩) (Kd.R_types HO327.out BK341.out (by decide)) (fun _ hk => hk.2) (.int .i64 t335)) (fun _ hk => hk.2) (.int .i64 t336)) (fun _ hk => hk.2) (.slice Ao21 t337.length co21)) (fun _ h_ => h_.1)))); (case side2 => exact (Kd.R_reads' HO327.out).2.1); (case side3 => refine (Kd.R_reads' (e := 2) (base := w.heap.size) (ok := fun k_ => (some k_ ≠ (.slice Ao13 t325.length co13 : Value).ownBlock ∧ some k_ ≠ (.slice Ao21 t337.length co21 : Value).ownBlock)) (n := t330.length) (c := co15) ?_).2.2; exact ((rm_ (Kd.R_far (p := ⟨gb341, 2, none⟩) (Kd.R_far (p := ⟨gb341, 1, none⟩) (Kd.R_far (p := ⟨gb341, 0, none⟩) (Kd.R_types HO332.out BK341.out (by decide)) (fun _ hk => hk.2) (.int .i64 t335)) (fun _ hk => hk.2) (.int .i64 t336)) (fun _ hk => hk.2) (.slice Ao21 t337.length co21)) (fun _ h_ => h_.1)))); (case side4 => exact (Kd.R_reads' HO332.out).2.1); rintro e w24 ⟨v345, rfl, ho0, hb⟩; refine ⟨_, rfl, ?_⟩; have n0_ := am_ (Kd.R_elder' ((rm_ (Kd.R_far (p := ⟨gb341, 2, none⟩) (Kd.R_far (p := ⟨gb341, 1, none⟩) (Kd.R_far (p := ⟨gb341, 0, none⟩) (Kd.R_types HO327.out BK341.out (by decide)) (fun _ hk => hk.2) (.int .i64 t335)) (fun _ hk => hk.2) (.int .i64 t336)) (fun _ hk => hk.2) (.slice Ao21 t337.length co21)) (fun _ h_ => h_.1))) (Kd.R_base ho0) hb); have n1_ := am_ (Kd.R_elder' ((rm_ (Kd.R_far (p := ⟨gb341, 2, none⟩) (Kd.R_far (p := ⟨gb341, 1, none⟩) (Kd.R_far (p := ⟨gb341, 0, none⟩) (Kd.R_types HO332.out BK341.out (by decide)) (fun _ hk => hk.2) (.int .i64 t335)) (fun _ hk => hk.2) (.int .i64 t336)) (fun _ hk => hk.2) (.slice Ao21 t337.length co21)) (fun _ h_ => h_.1))) (Kd.R_base ho0) hb); have n2_ := am_ (Kd.R_elder' ((rm_ (Kd.R_far (p := ⟨gb341, 2, none⟩) (Kd.R_far (p := ⟨gb341, 1, none⟩) (Kd.R_far (p := ⟨gb341, 0, none⟩) (Kd.R_types HO339.out BK341.out (by decide)) (fun _ hk => hk.2) (.int .i64 t335)) (fun _ hk => hk.2) (.int .i64 t336)) (fun _ hk => hk.2) (.slice Ao21 t337.length co21)) (fun _ h_ => h_.1))) (Kd.R_base ho0) hb); have n3_ := am_ (Kd.R_lower (Kd.R_new' (Kd.R_new' (Kd.R_new' ho0 (Kd.R_lt ((rm_ (Kd.R_far (p := ⟨gb341, 2, none⟩) (Kd.R_far (p := ⟨gb341, 1, none⟩) (Kd.R_far (p := ⟨gb341, 0, none⟩) (Kd.R_types HO327.out BK341.out (by decide)) (fun _ hk => hk.2) (.int .i64 t335)) (fun _ hk => hk.2) (.int .i64 t336)) (fun _ hk => hk.2) (.slice Ao21 t337.length co21)) (fun _ h_ => h_.1))))) (Kd.R_lt ((rm_ (Kd.R_far (p := ⟨gb341, 2, none⟩) (Kd.R_far (p := ⟨gb341, 1, none⟩) (Kd.R_far (p := ⟨gb341, 0, none⟩) (Kd.R_types HO332.out BK341.out (by decide)) (fun _ hk => hk.2) (.int .i64 t335)) (fun _ hk => hk.2) (.int .i64 t336)) (fun _ hk => hk.2) (.slice Ao21 t337.length co21)) (fun _ h_ => h_.1))))) (Kd.R_lt ((rm_ (Kd.R_far (p := ⟨gb341, 2, none⟩) (Kd.R_far (p := ⟨gb341, 1, none⟩) (Kd.R_far (p := ⟨gb341, 0, none⟩) (Kd.R_types HO339.out BK341.out (by decide)) (fun _ hk => hk.2) (.int .i64 t335)) (fun _ hk => hk.2) (.int .i64 t336)) (fun _ hk => hk.2) (.slice Ao21 t337.length co21)) (fun _ h_ => h_.1))))) (below_size (bb_ HB.out))); have n4_ := am_ (bw_ BK333 hb); have n5_ := am_ (bw_ BK334 hb); have n6_ := am_ (blk_below (g := gb341) (o := .cells #[.int .i64 t335, .int .i64 t336, .slice Ao21 t337.length co21] 28 (0, 0)) (by (with_reducible repeat (first | refine blk_drewN ?_ _ | refine blk_drew ?_ | refine blk_alloc ?_ _)); refine blk_put (cs := #[.int .i64 t335, .int .i64 t336, .slice none 0 0]) ?_ 2 _ rfl; (with_reducible repeat (first | refine blk_drewN ?_ _ | refine blk_drew ?_ | refine blk_alloc ?_ _)); refine blk_put (cs := #[.int .i64 t335, .int .i64 0, .slice none 0 0]) ?_ 1 _ rfl; (with_reducible repeat (first | refine blk_drewN ?_ _ | refine blk_drew ?_ | refine blk_alloc ?_ _)); refine blk_put (cs := #[.int .i64 0, .int .i64 0, .slice none 0 0]) ?_ 0 _ rfl; (with_reducible repeat (first | refine blk_drewN ?_ _ | refine blk_drew ?_ | refine blk_alloc ?_ _)); exact BK341.out) hb); have n7_ := am_ (below_step (bb_ HB.out) hb); clear HO327 HO332 HO339 BK333 BK334 BK341 HB; revert n0_ n1_ n2_ n3_ n4_ n5_ n6_ n7_; intro HO327 HO332 HO339 HO346 BK333 BK334 BK341 HB; (try clear hb); (try clear hb2); (try clear hk); (try clear hi); (try clear ho0)) | ((with_reducible refine gate_dst (N := 7) rfl ?_); (try (refine gate_guard (by rfl) ?_; dsimp only)); refine box_event ?hg (N := 7) ?hd (cs := #[.int .i64 0, .int .i64 0, .slice none 0 0]) (t := 28) ?hr ?_; (case hd => rfl); (case hg => rfl); (case hr => first | (go_simp; done) | (go_simp; rfl)); intro gb348 hg w25 hbox hb; have n0_ := am_ (Kd.R_below (rk_ HO327.out) hb); have n1_ := am_ (Kd.R_below (rk_ HO332.out) hb); have n2_ := am_ (Kd.R_below (rk_ HO339.out) hb); have n3_ := am_ (Kd.R_below (rk_ HO346.out) hb); have n4_ := am_ (bw_ BK333 hb); have n5_ := am_ (bw_ BK334 hb); have n6_ := am_ (bw_ BK341 hb); have n7_ := am_ (below_step (bb_ HB.out) hb); have n8_ := am_ (hbox); have n9_ := am_ ((by rw [hg]; exact (below_size (bb_ HB.out)) : w.heap.size ≤ gb348)); have n10_ := am_ ((by rw [hg]; exact (below_size (bb_ HB.out)) : w.heap.size ≤ gb348)); have n11_ := am_ (nl_ BK333 hg); have n12_ := am_ (ng_ BK333 hg); have n13_ := am_ (nl_ BK334 hg); have n14_ := am_ (ng_ BK334 hg); have n15_ := am_ (nl_ BK341 hg); have n16_ := am_ (ng_ BK341 hg); clear HO327 HO332 HO339 HO346 BK333 BK334 BK341 HB; revert n0_ n1_ n2_ n3_ n4_ n5_ n6_ n7_ n8_ n9_ n10_ n11_ n12_ n13_ n14_ n15_ n16_; intro HO327 HO332 HO339 HO346 BK333 BK334 BK341 HB BK348 GW348 GE348 NB333_348 NB348_333 NB334_348 NB348_334 NB341_348 NB348_341; clear hb hbox hg; have hnb26 := NB348_333.out; have hnc26 := NB333_348.out; have hnb27 := NB348_334.out; have hnc27 := NB334_348.out; have hnb28 := NB348_341.out; have hnc28 := NB341_348.out; have hcz29_0 : w25.cell? ⟨gb348, 0, none⟩ = some (.int .i64 0) := bc_ BK348 0; have hcz29_1 : w25.cell? ⟨gb348, 1, none⟩ = some (.int .i64 0) := bc_ BK348 1; have hcz29_2 : w25.cell? ⟨gb348, 2, none⟩ = some (.slice none 0 0) := bc_ BK348 2; have hfz29_0 := blk_frozen BK348.out 0; have hfz29_1 := blk_frozen BK348.out 1; have hfz29_2 := blk_frozen BK348.out 2; obtain ⟨Ao30, co30, eo30⟩ := Kd.R_slice HO346.out; subst eo30))
  (try simp only [Act.put, List.setIfInBounds_toArray, List.set_cons_zero, List.set_cons_succ])
  go_cut [52] (fun v52 wc => ∃ (kq : Nat) (x52_6 : Bool), v52 = .bool x52_6 ∧ Aside0 (laws_FnProducts.j0 kq t340 x52_6 t323 t324 t325 t328 t329 t330 t335 t336 t337 = some r) ∧ Aside0 (kq ≤ k) ∧ Aside0 (Kd.R (Kd.int .i64) 2 wc w.heap.size (fun k_ => some k_ ≠ ((.slice Ao15 t330.length co15) : Value).ownBlock ∧ some k_ ≠ ((.slice Ao21 t337.length co21) : Value).ownBlock ∧ some k_ ≠ ((.slice Ao30 t344.length co30) : Value).ownBlock) (.slice Ao13 t325.length co13) t325) ∧ Aside0 (Kd.R (Kd.int .i64) 2 wc w.heap.size (fun k_ => some k_ ≠ ((.slice Ao13 t325.length co13) : Value).ownBlock ∧ some k_ ≠ ((.slice Ao21 t337.length co21) : Value).ownBlock ∧ some k_ ≠ ((.slice Ao30 t344.length co30) : Value).ownBlock) (.slice Ao15 t330.length co15) t330) ∧ Aside0 (Kd.R (Kd.int .i64) 2 wc w.heap.size (fun k_ => some k_ ≠ ((.slice Ao13 t325.length co13) : Value).ownBlock ∧ some k_ ≠ ((.slice Ao15 t330.length co15) : Value).ownBlock ∧ some k_ ≠ ((.slice Ao30 t344.length co30) : Value).ownBlock) (.slice Ao21 t337.length co21) t337) ∧ Aside0 (Kd.R (Kd.int .i64) 2 wc w.heap.size (fun k_ => some k_ ≠ ((.slice Ao13 t325.length co13) : Value).ownBlock ∧ some k_ ≠ ((.slice Ao15 t330.length co15) : Value).ownBlock ∧ some k_ ≠ ((.slice Ao21 t337.length co21) : Value).ownBlock) (.slice Ao30 t344.length co30) t344) ∧ Aside0 (wc.heap[gb333]? = some (.cells #[.int .i64 t323, .int .i64 t324, (.slice Ao13 t325.length co13)] 28 (0, 0))) ∧ Aside0 (wc.heap[gb334]? = some (.cells #[.int .i64 t328, .int .i64 t329, (.slice Ao15 t330.length co15)] 28 (0, 0))) ∧ Aside0 (wc.heap[gb341]? = some (.cells #[.int .i64 t335, .int .i64 t336, (.slice Ao21 t337.length co21)] 28 (0, 0))) ∧ Aside0 (wc.heap[gb348]? = some (.cells #[.int .i64 t342, .int .i64 t343, (.slice Ao30 t344.length co30)] 28 (0, 0))) ∧ Aside0 (Below w.heap.size w wc))
  case first =>
   have H := HC7.out
   clear HC7
   by_cases c31 : t340 = t347
   ·rw [if_pos c31] at H
    have c31b0 : (t340 == t347) = true := beq_iff_eq.mpr c31
    have c31b1 : (t340 != t347) = false := bne_eq_false_iff_eq.mpr c31
    clear c31
    (first | rw [c31b0] | (simp only [i64_w, i32_w]; rw [c31b0]) | skip)
    by_cases c32 : t335 = t342
    ·rw [if_pos c32] at H
     have c32b0 : (t335 == t342) = true := beq_iff_eq.mpr c32
     have c32b1 : (t335 != t342) = false := bne_eq_false_iff_eq.mpr c32
     clear c32
     have H' := am_ H
     clear H
     have hnb33 := NB341_333.out
     have hnc33 := NB333_341.out
     have hnb34 := NB341_334.out
     have hnc34 := NB334_341.out
     have hnb35 := NB341_348.out
     have hnc35 := NB348_341.out
     have hcz36_0 : w25.cell? ⟨gb341, 0, none⟩ = some (.int .i64 t335) := bc_ BK341 0
     have hcz36_1 : w25.cell? ⟨gb341, 1, none⟩ = some (.int .i64 t336) := bc_ BK341 1
     have hcz36_2 : w25.cell? ⟨gb341, 2, none⟩ = some (.slice Ao21 t337.length co21) := bc_ BK341 2
     have hfz36_0 := blk_frozen BK341.out 0
     have hfz36_1 := blk_frozen BK341.out 1
     have hfz36_2 := blk_frozen BK341.out 2
     have hnb37 := NB348_333.out
     have hnc37 := NB333_348.out
     have hnb38 := NB348_334.out
     have hnc38 := NB334_348.out
     have hcz39_0 : w25.cell? ⟨gb348, 0, none⟩ = some (.int .i64 0) := bc_ BK348 0
     have hcz39_1 : w25.cell? ⟨gb348, 1, none⟩ = some (.int .i64 0) := bc_ BK348 1
     have hcz39_2 : w25.cell? ⟨gb348, 2, none⟩ = some (.slice none 0 0) := bc_ BK348 2
     have hfz39_0 := blk_frozen BK348.out 0
     have hfz39_1 := blk_frozen BK348.out 1
     have hfz39_2 := blk_frozen BK348.out 2
     go_wp2
     go_meet
     case rel => exact ⟨_, ((t336 != t343)), (by first | rfl | (simp; done) | (simp [*]; done)), H', ⟨by first | omega | exact Nat.le_refl _⟩, ⟨rm_ (Kd.R_far (p := ⟨gb348, 2, none⟩) (Kd.R_far (p := ⟨gb348, 1, none⟩) (Kd.R_far (p := ⟨gb348, 0, none⟩) (Kd.R_types HO327.out BK348.out (by decide)) (fun _ hk => hk.2) (.int .i64 t342)) (fun _ hk => hk.2) (.int .i64 t343)) (fun _ hk => hk.2) (.slice Ao30 t344.length co30)) (fun _ hk => ⟨hk.1.1.1, ⟨hk.1.1.2, hk.1.2⟩⟩)⟩, ⟨rm_ (Kd.R_far (p := ⟨gb348, 2, none⟩) (Kd.R_far (p := ⟨gb348, 1, none⟩) (Kd.R_far (p := ⟨gb348, 0, none⟩) (Kd.R_types HO332.out BK348.out (by decide)) (fun _ hk => hk.2) (.int .i64 t342)) (fun _ hk => hk.2) (.int .i64 t343)) (fun _ hk => hk.2) (.slice Ao30 t344.length co30)) (fun _ hk => ⟨hk.1.1.1, ⟨hk.1.1.2, hk.1.2⟩⟩)⟩, ⟨rm_ (Kd.R_far (p := ⟨gb348, 2, none⟩) (Kd.R_far (p := ⟨gb348, 1, none⟩) (Kd.R_far (p := ⟨gb348, 0, none⟩) (Kd.R_types HO339.out BK348.out (by decide)) (fun _ hk => hk.2) (.int .i64 t342)) (fun _ hk => hk.2) (.int .i64 t343)) (fun _ hk => hk.2) (.slice Ao30 t344.length co30)) (fun _ hk => ⟨hk.1.1.1.2, ⟨hk.1.1.2, hk.1.2⟩⟩)⟩, ⟨rm_ (Kd.R_far (p := ⟨gb348, 2, none⟩) (Kd.R_far (p := ⟨gb348, 1, none⟩) (Kd.R_far (p := ⟨gb348, 0, none⟩) (Kd.R_types HO346.out BK348.out (by decide)) (fun _ hk => hk.2) (.int .i64 t342)) (fun _ hk => hk.2) (.int .i64 t343)) (fun _ hk => hk.2) (.slice Ao30 t344.length co30)) (fun _ hk => ⟨hk.1.1.1.2, ⟨hk.1.1.2, hk.1.2⟩⟩)⟩, ⟨bk_ BK333.out⟩, ⟨bk_ BK334.out⟩, ⟨bk_ BK341.out⟩, ⟨by (with_reducible repeat (first | refine blk_drewN ?_ _ | refine blk_drew ?_ | refine blk_alloc ?_ _)); refine blk_put (cs := #[.int .i64 t342, .int .i64 t343, .slice none 0 0]) ?_ 2 _ rfl; (with_reducible repeat (first | refine blk_drewN ?_ _ | refine blk_drew ?_ | refine blk_alloc ?_ _)); refine blk_put (cs := #[.int .i64 t342, .int .i64 0, .slice none 0 0]) ?_ 1 _ rfl; (with_reducible repeat (first | refine blk_drewN ?_ _ | refine blk_drew ?_ | refine blk_alloc ?_ _)); refine blk_put (cs := #[.int .i64 0, .int .i64 0, .slice none 0 0]) ?_ 0 _ rfl; (with_reducible repeat (first | refine blk_drewN ?_ _ | refine blk_drew ?_ | refine blk_alloc ?_ _)); exact BK348.out⟩, ⟨bb_ HB.out⟩⟩
    ·rw [if_neg c32] at H
     have c32b0 : (t335 == t342) = false := beq_eq_false_iff_ne.mpr c32
     have c32b1 : (t335 != t342) = true := bne_iff_ne.mpr c32
     have H' := am_ H
     clear H
     have hnb40 := NB341_333.out
     have hnc40 := NB333_341.out
     have hnb41 := NB341_334.out
     have hnc41 := NB334_341.out
     have hnb42 := NB341_348.out
     have hnc42 := NB348_341.out
     have hcz43_0 : w25.cell? ⟨gb341, 0, none⟩ = some (.int .i64 t335) := bc_ BK341 0
     have hcz43_1 : w25.cell? ⟨gb341, 1, none⟩ = some (.int .i64 t336) := bc_ BK341 1
     have hcz43_2 : w25.cell? ⟨gb341, 2, none⟩ = some (.slice Ao21 t337.length co21) := bc_ BK341 2
     have hfz43_0 := blk_frozen BK341.out 0
     have hfz43_1 := blk_frozen BK341.out 1
     have hfz43_2 := blk_frozen BK341.out 2
     have hnb44 := NB348_333.out
     have hnc44 := NB333_348.out
     have hnb45 := NB348_334.out
     have hnc45 := NB334_348.out
     have hcz46_0 : w25.cell? ⟨gb348, 0, none⟩ = some (.int .i64 0) := bc_ BK348 0
     have hcz46_1 : w25.cell? ⟨gb348, 1, none⟩ = some (.int .i64 0) := bc_ BK348 1
     have hcz46_2 : w25.cell? ⟨gb348, 2, none⟩ = some (.slice none 0 0) := bc_ BK348 2
     have hfz46_0 := blk_frozen BK348.out 0
     have hfz46_1 := blk_frozen BK348.out 1
     have hfz46_2 := blk_frozen BK348.out 2
     go_wp2
     go_meet
     case rel => exact ⟨_, (true), (by first | rfl | (simp; done) | (simp [*]; done)), H', ⟨by first | omega | exact Nat.le_refl _⟩, ⟨rm_ (Kd.R_far (p := ⟨gb348, 2, none⟩) (Kd.R_far (p := ⟨gb348, 1, none⟩) (Kd.R_far (p := ⟨gb348, 0, none⟩) (Kd.R_types HO327.out BK348.out (by decide)) (fun _ hk => hk.2) (.int .i64 t342)) (fun _ hk => hk.2) (.int .i64 t343)) (fun _ hk => hk.2) (.slice Ao30 t344.length co30)) (fun _ hk => ⟨hk.1.1.1, ⟨hk.1.1.2, hk.1.2⟩⟩)⟩, ⟨rm_ (Kd.R_far (p := ⟨gb348, 2, none⟩) (Kd.R_far (p := ⟨gb348, 1, none⟩) (Kd.R_far (p := ⟨gb348, 0, none⟩) (Kd.R_types HO332.out BK348.out (by decide)) (fun _ hk => hk.2) (.int .i64 t342)) (fun _ hk => hk.2) (.int .i64 t343)) (fun _ hk => hk.2) (.slice Ao30 t344.length co30)) (fun _ hk => ⟨hk.1.1.1, ⟨hk.1.1.2, hk.1.2⟩⟩)⟩, ⟨rm_ (Kd.R_far (p := ⟨gb348, 2, none⟩) (Kd.R_far (p := ⟨gb348, 1, none⟩) (Kd.R_far (p := ⟨gb348, 0, none⟩) (Kd.R_types HO339.out BK348.out (by decide)) (fun _ hk => hk.2) (.int .i64 t342)) (fun _ hk => hk.2) (.int .i64 t343)) (fun _ hk => hk.2) (.slice Ao30 t344.length co30)) (fun _ hk => ⟨hk.1.1.1.2, ⟨hk.1.1.2, hk.1.2⟩⟩)⟩, ⟨rm_ (Kd.R_far (p := ⟨gb348, 2, none⟩) (Kd.R_far (p := ⟨gb348, 1, none⟩) (Kd.R_far (p := ⟨gb348, 0, none⟩) (Kd.R_types HO346.out BK348.out (by decide)) (fun _ hk => hk.2) (.int .i64 t342)) (fun _ hk => hk.2) (.int .i64 t343)) (fun _ hk => hk.2) (.slice Ao30 t344.length co30)) (fun _ hk => ⟨hk.1.1.1.2, ⟨hk.1.1.2, hk.1.2⟩⟩)⟩, ⟨bk_ BK333.out⟩, ⟨bk_ BK334.out⟩, ⟨bk_ BK341.out⟩, ⟨by (with_reducible repeat (first | refine blk_drewN ?_ _ | refine blk_drew ?_ | refine blk_alloc ?_ _)); refine blk_put (cs := #[.int .i64 t342, .int .i64 t343, .slice none 0 0]) ?_ 2 _ rfl; (with_reducible repeat (first | refine blk_drewN ?_ _ | refine blk_drew ?_ | refine blk_alloc ?_ _)); refine blk_put (cs := #[.int .i64 t342, .int .i64 0, .slice none 0 0]) ?_ 1 _ rfl; (with_reducible repeat (first | refine blk_drewN ?_ _ | refine blk_drew ?_ | refine blk_alloc ?_ _)); refine blk_put (cs := #[.int .i64 0, .int .i64 0, .slice none 0 0]) ?_ 0 _ rfl; (with_reducible repeat (first | refine blk_drewN ?_ _ | refine blk_drew ?_ | refine blk_alloc ?_ _)); exact BK348.out⟩, ⟨bb_ HB.out⟩⟩
   ·rw [if_neg c31] at H
    have c31b0 : (t340 == t347) = false := beq_eq_false_iff_ne.mpr c31
    have c31b1 : (t340 != t347) = true := bne_iff_ne.mpr c31
    (first | rw [c31b0] | (simp only [i64_w, i32_w]; rw [c31b0]) | skip)
    have H' := am_ H
    clear H
    go_wp2
    go_meet
    case rel => exact ⟨_, (true), (by first | rfl | (simp; done) | (simp [*]; done)), H', ⟨by first | omega | exact Nat.le_refl _⟩, ⟨rm_ (Kd.R_far (p := ⟨gb348, 2, none⟩) (Kd.R_far (p := ⟨gb348, 1, none⟩) (Kd.R_far (p := ⟨gb348, 0, none⟩) (Kd.R_types HO327.out BK348.out (by decide)) (fun _ hk => hk.2) (.int .i64 t342)) (fun _ hk => hk.2) (.int .i64 t343)) (fun _ hk => hk.2) (.slice Ao30 t344.length co30)) (fun _ hk => ⟨hk.1.1.1, ⟨hk.1.1.2, hk.1.2⟩⟩)⟩, ⟨rm_ (Kd.R_far (p := ⟨gb348, 2, none⟩) (Kd.R_far (p := ⟨gb348, 1, none⟩) (Kd.R_far (p := ⟨gb348, 0, none⟩) (Kd.R_types HO332.out BK348.out (by decide)) (fun _ hk => hk.2) (.int .i64 t342)) (fun _ hk => hk.2) (.int .i64 t343)) (fun _ hk => hk.2) (.slice Ao30 t344.length co30)) (fun _ hk => ⟨hk.1.1.1, ⟨hk.1.1.2, hk.1.2⟩⟩)⟩, ⟨rm_ (Kd.R_far (p := ⟨gb348, 2, none⟩) (Kd.R_far (p := ⟨gb348, 1, none⟩) (Kd.R_far (p := ⟨gb348, 0, none⟩) (Kd.R_types HO339.out BK348.out (by decide)) (fun _ hk => hk.2) (.int .i64 t342)) (fun _ hk => hk.2) (.int .i64 t343)) (fun _ hk => hk.2) (.slice Ao30 t344.length co30)) (fun _ hk => ⟨hk.1.1.1.2, ⟨hk.1.1.2, hk.1.2⟩⟩)⟩, ⟨rm_ (Kd.R_far (p := ⟨gb348, 2, none⟩) (Kd.R_far (p := ⟨gb348, 1, none⟩) (Kd.R_far (p := ⟨gb348, 0, none⟩) (Kd.R_types HO346.out BK348.out (by decide)) (fun _ hk => hk.2) (.int .i64 t342)) (fun _ hk => hk.2) (.int .i64 t343)) (fun _ hk => hk.2) (.slice Ao30 t344.length co30)) (fun _ hk => ⟨hk.1.1.1.2, ⟨hk.1.1.2, hk.1.2⟩⟩)⟩, ⟨bk_ BK333.out⟩, ⟨bk_ BK334.out⟩, ⟨bk_ BK341.out⟩, ⟨by (with_reducible repeat (first | refine blk_drewN ?_ _ | refine blk_drew ?_ | refine blk_alloc ?_ _)); refine blk_put (cs := #[.int .i64 t342, .int .i64 t343, .slice none 0 0]) ?_ 2 _ rfl; (with_reducible repeat (first | refine blk_drewN ?_ _ | refine blk_drew ?_ | refine blk_alloc ?_ _)); refine blk_put (cs := #[.int .i64 t342, .int .i64 0, .slice none 0 0]) ?_ 1 _ rfl; (with_reducible repeat (first | refine blk_drewN ?_ _ | refine blk_drew ?_ | refine blk_alloc ?_ _)); refine blk_put (cs := #[.int .i64 0, .int .i64 0, .slice none 0 0]) ?_ 0 _ rfl; (with_reducible repeat (first | refine blk_drewN ?_ _ | refine blk_drew ?_ | refine blk_alloc ?_ _)); exact BK348.out⟩, ⟨bb_ HB.out⟩⟩
  case rest =>
   clear HC7
   try clear c1
   try clear c2
   try clear p2
   try clear c3
   try clear c4
   try clear c11
   try clear c12
   try clear c13
   try clear c14
   try clear c18
   try clear c19
   try clear c26
   try clear c27
   try clear c28
   try clear c31
   try clear c31b0
   try clear c31b1
   try clear c32
   try clear c32b0
   try clear c32b1
   try clear c33
   try clear c34
   try clear c35
   try clear c37
   try clear c38
   try clear c40
   try clear c41
   try clear c42
   try clear c44
   try clear c45
   try clear hcz12_0
   try clear hcz12_1
   try clear hcz12_2
   try clear hcz14_0
   try clear hcz14_1
   try clear hcz14_2
   try clear hcz20_0
   try clear hcz20_1
   try clear hcz20_2
   try clear hcz22_0
   try clear hcz22_1
   try clear hcz22_2
   try clear hcz23_0
   try clear hcz23_1
   try clear hcz23_2
   try clear hcz29_0
   try clear hcz29_1
   try clear hcz29_2
   try clear hcz36_0
   try clear hcz36_1
   try clear hcz36_2
   try clear hcz39_0
   try clear hcz39_1
   try clear hcz39_2
   try clear hcz43_0
   try clear hcz43_1
   try clear hcz43_2
   try clear hcz46_0
   try clear hcz46_1
   try clear hcz46_2
   try clear hfz12_0
   try clear hfz12_1
   try clear hfz12_2
   try clear hfz14_0
   try clear hfz14_1
   try clear hfz14_2
   try clear hfz20_0
   try clear hfz20_1
   try clear hfz20_2
   try clear hfz22_0
   try clear hfz22_1
   try clear hfz22_2
   try clear hfz23_0
   try clear hfz23_1
   try clear hfz23_2
   try clear hfz29_0
   try clear hfz29_1
   try clear hfz29_2
   try clear hfz36_0
   try clear hfz36_1
   try clear hfz36_2
   try clear hfz39_0
   try clear hfz39_1
   try clear hfz39_2
   try clear hfz43_0
   try clear hfz43_1
   try clear hfz43_2
   try clear hfz46_0
   try clear hfz46_1
   try clear hfz46_2
   obtain ⟨kq, x52_6, rfl, HA, HJ6, HO_334002, HO_335002, HO_342002, HO_349002, BK333, BK334, BK341, BK348, HB⟩ := hcut
   cases kq with
   | zero => exact absurd HA.out (by simp [laws_FnProducts.j0])
   | succ kj6 =>
    have H := HA.out
    clear HA
    simp only [laws_FnProducts.j0] at H
    by_cases c47 : x52_6 = true
    ·subst c47
     have H1 : (some false) = some r := by rw [if_pos rfl] at H; exact H
     clear H
     have H := H1
     clear H1
     exact absurd ((Option.some.inj H).trans HTRUE_.out) (by simp)
    ·replace c47 := Bool.eq_false_iff.mpr c47
     subst c47
     have H1 : (if t340 = 0 then ((impl_Transpose.f kj6 t328 t329 t330).bind fun bt349 => ((impl_Transpose.f kj6 t323 t324 t325).bind fun bt354 => ((impl_MultiplyMatrices.f kj6 bt349.1 bt349.2.1 bt349.2.2 bt354.1 bt354.2.1 bt354.2.2).bind fun bt359 => (if bt359.2.2.2 = 0 then ((impl_Transpose.f kj6 t335 t336 t337).bind fun bt366 => ((laws_likeMatrix.f kj6 bt359.1 bt359.2.1 bt359.2.2.1 bt366.1 bt366.2.1 bt366.2.2).bind fun t371 => (laws_FnProducts.j1 kj6 (!t371) t323 t324 t325 t328 t329 t330 t335 t336 t337))) else (laws_FnProducts.j1 kj6 true t323 t324 t325 t328 t329 t330 t335 t336 t337))))) else (if t335 = 0 then (some ((t337.length : Int) == 0)) else (some false))) = some r := by rw [if_neg (show ¬ (false = true) by decide)] at H; exact H
     clear H
     have H := H1
     clear H1
     by_cases c48 : t340 = 0
     ·rw [if_pos c48] at H
      have c48b0 : (t340 == 0) = true := beq_iff_eq.mpr c48
      have c48b1 : (t340 != 0) = false := bne_eq_false_iff_eq.mpr c48
      clear c48
      replace H := Option.bind_eq_some_iff.mp H
      obtain ⟨⟨t349, t350, t351⟩, A490, H⟩ := H
      replace H : ((impl_Transpose.f kj6 t323 t324 t325).bind fun bt354 => ((impl_MultiplyMatrices.f kj6 t349 t350 t351 bt354.1 bt354.2.1 bt354.2.2).bind fun bt359 => (if bt359.2.2.2 = 0 then ((impl_Transpose.f kj6 t335 t336 t337).bind fun bt366 => ((laws_likeMatrix.f kj6 bt359.1 bt359.2.1 bt359.2.2.1 bt366.1 bt366.2.1 bt366.2.2).bind fun t371 => (laws_FnProducts.j1 kj6 (!t371) t323 t324 t325 t328 t329 t330 t335 t336 t337))) else (laws_FnProducts.j1 kj6 true t323 t324 t325 t328 t329 t330 t335 t336 t337)))) = some r := H
      have A49 := am_ A490
      clear A490
      replace H := Option.bind_eq_some_iff.mp H
      obtain ⟨⟨t354, t355, t356⟩, A500, H⟩ := H
      replace H : ((impl_MultiplyMatrices.f kj6 t349 t350 t351 t354 t355 t356).bind fun bt359 => (if bt359.2.2.2 = 0 then ((impl_Transpose.f kj6 t335 t336 t337).bind fun bt366 => ((laws_likeMatrix.f kj6 bt359.1 bt359.2.1 bt359.2.2.1 bt366.1 bt366.2.1 bt366.2.2).bind fun t371 => (laws_FnProducts.j1 kj6 (!t371) t323 t324 t325 t328 t329 t330 t335 t336 t337))) else (laws_FnProducts.j1 kj6 true t323 t324 t325 t328 t329 t330 t335 t336 t337))) = some r := H
      have A50 := am_ A500
      clear A500
      replace H := Option.bind_eq_some_iff.mp H
      obtain ⟨⟨t359, t360, t361, t364⟩, A510, H⟩ := H
      replace H : (if t364 = 0 then ((impl_Transpose.f kj6 t335 t336 t337).bind fun bt366 => ((laws_likeMatrix.f kj6 t359 t360 t361 bt366.1 bt366.2.1 bt366.2.2).bind fun t371 => (laws_FnProducts.j1 kj6 (!t371) t323 t324 t325 t328 t329 t330 t335 t336 t337))) else (laws_FnProducts.j1 kj6 true t323 t324 t325 t328 t329 t330 t335 t336 t337)) = some r := H
      have A51 := am_ A510
      clear A510
      have HC52 := am_ H
      clear H
      try go_wp2
      have n0_ := am_ (Kd.R_drew HO_334002.out)
      have n1_ := am_ (Kd.R_drew HO_335002.out)
      have n2_ := am_ (Kd.R_drew HO_342002.out)
      have n3_ := am_ (Kd.R_drew HO_349002.out)
      have n4_ := am_ (blk_drew BK333.out)
      have n5_ := am_ (blk_drew BK334.out)
      have n6_ := am_ (blk_drew BK341.out)
      have n7_ := am_ (blk_drew BK348.out)
      have n8_ := am_ (below_drew1 HB.out)
      clear HO_334002 HO_335002 HO_342002 HO_349002 BK333 BK334 BK341 BK348 HB; revert n0_ n1_ n2_ n3_ n4_ n5_ n6_ n7_ n8_; intro HO_334002 HO_335002 HO_342002 HO_349002 BK333 BK334 BK341 BK348 HB
      refine start_ (n := 11) (S := fun w' => w'.cell? ⟨gb334, 0, none⟩ = some (.int .i64 t328) ∧ w'.cell? ⟨gb334, 1, none⟩ = some (.int .i64 t329) ∧ w'.cell? ⟨gb334, 2, none⟩ = some (.slice Ao15 t330.length co15) ∧ w'.cell? ⟨gb333, 0, none⟩ = some (.int .i64 t323) ∧ w'.cell? ⟨gb333, 1, none⟩ = some (.int .i64 t324) ∧ w'.cell? ⟨gb333, 2, none⟩ = some (.slice Ao13 t325.length co13)) (ds := []) #[false, false, false, false, false, false, false, false, false, false, false] (by kernel_rfl) rfl rfl ⟨bc_ BK334 0, bc_ BK334 1, bc_ BK334 2, bc_ BK333 0, bc_ BK333 1, bc_ BK333 2⟩ (fun hHeld => ?_); refine with_tabW laws_FnProducts.tab10 laws_FnProducts.bits10 (fun HT_ HW_ => ?_)
      generalize wc.drew = w53 at HO_334002 HO_335002 HO_342002 HO_349002 BK333 BK334 BK341 BK348 HB hHeld ⊢
      refine take_ (i := 0) (N := some 65) (v := ?_) (a' := ?_) #[true, false, false, false, false, false, false, false, false, false, false] rfl rfl (take_ofW HT_.out HW_.out (by kernel_rfl)) (fun _ _ _ h => h) (Or.inl ⟨by rfl, ?_⟩) hHeld ?_ ?_
      rotate_left
      ·rintro w' ⟨s0, s1, s2, s3, s4, s5⟩
       go_simp
       with_reducible rfl
      rotate_left
      ·simp only [Act.put, List.setIfInBounds_toArray, List.set_cons_zero, List.set_cons_succ, i64_w, i32_w]
       rfl
      refine take_ (i := 2) (N := some 67) (v := ?_) (a' := ?_) #[true, false, true, false, false, false, false, false, false, false, false] rfl rfl (take_ofW HT_.out HW_.out (by kernel_rfl)) (fun _ _ _ h => h) (Or.inl ⟨by rfl, ?_⟩) hHeld ?_ ?_
      rotate_left
      ·rintro w' ⟨s0, s1, s2, s3, s4, s5⟩
       go_simp
       with_reducible rfl
      rotate_left
      ·simp only [Act.put, List.setIfInBounds_toArray, List.set_cons_zero, List.set_cons_succ, i64_w, i32_w]
       rfl
      refine join_ (σ := Value × Value × Value × Nat) 2 #[true, true, true, true, true, true, true, true, true, false, false] (fun s_ => [(66, .agg #[.int .i64 t349, .int .i64 t350, s_.1]), (68, .agg #[.int .i64 t354, .int .i64 t355, s_.2.1]), (69, .tuple #[.agg #[.int .i64 t359, .int .i64 t360, s_.2.2.1], .int .i64 t364]), (9, .pointer (some ⟨s_.2.2.2, 0, none⟩)), (64, .tuple #[.agg #[.int .i64 t359, .int .i64 t360, s_.2.2.1], .int .i64 t364]), (70, .agg #[.int .i64 t359, .int .i64 t360, s_.2.2.1]), (71, .int .i64 t364)]) (fun s_ w' => (w'.cell? ⟨gb334, 0, none⟩ = some (.int .i64 t328) ∧ w'.cell? ⟨gb334, 1, none⟩ = some (.int .i64 t329) ∧ w'.cell? ⟨gb334, 2, none⟩ = some (.slice Ao15 t330.length co15) ∧ w'.cell? ⟨gb333, 0, none⟩ = some (.int .i64 t323) ∧ w'.cell? ⟨gb333, 1, none⟩ = some (.int .i64 t324) ∧ w'.cell? ⟨gb333, 2, none⟩ = some (.slice Ao13 t325.length co13)) ∧ (Kd.R (Kd.int .i64) 2 w' w.heap.size (fun k_ => some k_ ≠ (s_.2.1 : Value).ownBlock ∧ some k_ ≠ (s_.2.2.1 : Value).ownBlock ∧ some k_ ≠ (.slice Ao13 t325.length co13 : Value).ownBlock ∧ some k_ ≠ (.slice Ao15 t330.length co15 : Value).ownBlock ∧ some k_ ≠ (.slice Ao21 t337.length co21 : Value).ownBlock ∧ some k_ ≠ (.slice Ao30 t344.length co30 : Value).ownBlock) s_.1 t351) ∧ (Kd.R (Kd.int .i64) 2 w' w.heap.size (fun k_ => some k_ ≠ (s_.1 : Value).ownBlock ∧ some k_ ≠ (s_.2.2.1 : Value).ownBlock ∧ some k_ ≠ (.slice Ao13 t325.length co13 : Value).ownBlock ∧ some k_ ≠ (.slice Ao15 t330.length co15 : Value).ownBlock ∧ some k_ ≠ (.slice Ao21 t337.length co21 : Value).ownBlock ∧ some k_ ≠ (.slice Ao30 t344.length co30 : Value).ownBlock) s_.2.1 t356) ∧ (Kd.R (Kd.int .i64) 2 w' w.heap.size (fun k_ => some k_ ≠ (s_.1 : Value).ownBlock ∧ some k_ ≠ (s_.2.1 : Value).ownBlock ∧ some k_ ≠ (.slice Ao13 t325.length co13 : Value).ownBlock ∧ some k_ ≠ (.slice Ao15 t330.length co15 : Value).ownBlock ∧ some k_ ≠ (.slice Ao21 t337.length co21 : Value).ownBlock ∧ some k_ ≠ (.slice Ao30 t344.length co30 : Value).ownBlock) s_.2.2.1 t361) ∧ (Kd.R (Kd.int .i64) 2 w' w.heap.size (fun k_ => some k_ ≠ (s_.1 : Value).ownBlock ∧ some k_ ≠ (s_.2.1 : Value).ownBlock ∧ some k_ ≠ (s_.2.2.1 : Value).ownBlock ∧ some k_ ≠ (.slice Ao15 t330.length co15 : Value).ownBlock ∧ some k_ ≠ (.slice Ao21 t337.length co21 : Value).ownBlock ∧ some k_ ≠ (.slice Ao30 t344.length co30 : Value).ownBlock) (.slice Ao13 t325.length co13) t325) ∧ (Kd.R (Kd.int .i64) 2 w' w.heap.size (fun k_ => some k_ ≠ (s_.1 : Value).ownBlock ∧ some k_ ≠ (s_.2.1 : Value).ownBlock ∧ some k_ ≠ (s_.2.2.1 : Value).ownBlock ∧ some k_ ≠ (.slice Ao13 t325.length co13 : Value).ownBlock ∧ some k_ ≠ (.slice Ao21 t337.length co21 : Value).ownBlock ∧ some k_ ≠ (.slice Ao30 t344.length co30 : Value).ownBlock) (.slice Ao15 t330.length co15) t330) ∧ (Kd.R (Kd.int .i64) 2 w' w.heap.size (fun k_ => some k_ ≠ (s_.1 : Value).ownBlock ∧ some k_ ≠ (s_.2.1 : Value).ownBlock ∧ some k_ ≠ (s_.2.2.1 : Value).ownBlock ∧ some k_ ≠ (.slice Ao13 t325.length co13 : Value).ownBlock ∧ some k_ ≠ (.slice Ao15 t330.length co15 : Value).ownBlock ∧ some k_ ≠ (.slice Ao30 t344.length co30 : Value).ownBlock) (.slice Ao21 t337.length co21) t337) ∧ (Kd.R (Kd.int .i64) 2 w' w.heap.size (fun k_ => some k_ ≠ (s_.1 : Value).ownBlock ∧ some k_ ≠ (s_.2.1 : Value).ownBlock ∧ some k_ ≠ (s_.2.2.1 : Value).ownBlock ∧ some k_ ≠ (.slice Ao13 t325.length co13 : Value).ownBlock ∧ some k_ ≠ (.slice Ao15 t330.length co15 : Value).ownBlock ∧ some k_ ≠ (.slice Ao21 t337.length co21 : Value).ownBlock) (.slice Ao30 t344.length co30) t344) ∧ (w'.heap[gb333]? = some (.cells #[.int .i64 t323, .int .i64 t324, .slice Ao13 t325.length co13] 28 (0, 0))) ∧ (w'.heap[gb334]? = some (.cells #[.int .i64 t328, .int .i64 t329, .slice Ao15 t330.length co15] 28 (0, 0))) ∧ (w'.heap[gb341]? = some (.cells #[.int .i64 t335, .int .i64 t336, .slice Ao21 t337.length co21] 28 (0, 0))) ∧ (w'.heap[gb348]? = some (.cells #[.int .i64 t342, .int .i64 t343, .slice Ao30 t344.length co30] 28 (0, 0))) ∧ (w'.heap[s_.2.2.2]? = some (.cells #[.int .i64 0, .int .i64 0, .slice none 0 0] 28 (0, 0))) ∧ (w.heap.size ≤ s_.2.2.2) ∧ (w.heap.size ≤ s_.2.2.2) ∧ (gb333 ≠ s_.2.2.2) ∧ (s_.2.2.2 ≠ gb333) ∧ (gb334 ≠ s_.2.2.2) ∧ (s_.2.2.2 ≠ gb334) ∧ (gb341 ≠ s_.2.2.2) ∧ (s_.2.2.2 ≠ gb341) ∧ (gb348 ≠ s_.2.2.2) ∧ (s_.2.2.2 ≠ gb348) ∧ (Below w.heap.size w w')) ?_ ?_
      rotate_left
      ·intro hCont
       refine two_ (i := 1) (j := 8) (Ni := some 66) (Nj := some 9) #[true, true, true, false, false, false, false, false, false, false, false] #[true, false, true, false, false, false, false, false, true, false, false] rfl rfl rfl rfl (two_of HT_.out (by kernel_rfl)) (by decide) (by decide) (fun K hK => ?_) (fun K hK => ?_)
       ·skip
        refine goes_ Try.func15 (by kernel_rfl) rfl #[.agg #[.int .i64 t328, .int .i64 t329, .slice Ao15 t330.length co15]] (by rfl) rfl rfl lm_ ?_
        with_reducible refine (impl_Transpose.calls kj6 t328 t329 _ _ t330 t349 t350 t351 _ ?side1 ?side2 A49.out).mono ?_
        (case side1 => repeat (first | exact (Kd.R_reads' HO_335002.out).2.2 | (with_reducible refine Kd.C_alloc ?_ _) | (with_reducible refine Kd.C_drewN ?_ _) | (with_reducible refine Kd.C_drew ?_)))
        (case side2 => exact (Kd.R_reads' HO_335002.out).2.1)
        rintro e w54 ⟨v352, rfl, ho0, hb⟩
        refine ⟨_, rfl, ?_⟩
        have n0_ := am_ (Kd.R_elder' (rk_ HO_334002.out) (Kd.R_base ho0) hb)
        have n1_ := am_ (Kd.R_elder' (rk_ HO_335002.out) (Kd.R_base ho0) hb)
        have n2_ := am_ (Kd.R_elder' (rk_ HO_342002.out) (Kd.R_base ho0) hb)
        have n3_ := am_ (Kd.R_elder' (rk_ HO_349002.out) (Kd.R_base ho0) hb)
        have n4_ := am_ (Kd.R_lower (Kd.R_new' (Kd.R_new' (Kd.R_new' (Kd.R_new' ho0 (Kd.R_lt (rk_ HO_334002.out))) (Kd.R_lt (rk_ HO_335002.out))) (Kd.R_lt (rk_ HO_342002.out))) (Kd.R_lt (rk_ HO_349002.out))) (below_size (bb_ HB.out)))
        have n5_ := am_ (bw_ BK333 hb)
        have n6_ := am_ (bw_ BK334 hb)
        have n7_ := am_ (bw_ BK341 hb)
        have n8_ := am_ (bw_ BK348 hb)
        have n9_ := am_ (below_step (bb_ HB.out) hb)
        clear HO_334002 HO_335002 HO_342002 HO_349002 BK333 BK334 BK341 BK348 HB; revert n0_ n1_ n2_ n3_ n4_ n5_ n6_ n7_ n8_ n9_; intro HO_334002 HO_335002 HO_342002 HO_349002 HO353 BK333 BK334 BK341 BK348 HB
        (try clear hb)
        (try clear hb2)
        (try clear hk)
        (try clear hi)
        (try clear ho0)
        refine hK.out _ _ ⟨bc_ BK334 0, bc_ BK334 1, bc_ BK334 2, bc_ BK333 0, bc_ BK333 1, bc_ BK333 2⟩ (fun hHeld => ?_)
        clear hK K
        refine norm_ (a' := ?_) ?_ ?_
        rotate_left
        ·show Act.put _ (some 66) _ = _
         simp only [Act.put, List.setIfInBounds_toArray, List.set_cons_zero, List.set_cons_succ, i64_w, i32_w]
         rfl
        refine two_ (i := 3) (j := 8) (Ni := some 68) (Nj := some 9) #[true, true, true, true, false, false, false, false, false, false, false] #[true, true, true, false, false, false, false, false, true, false, false] rfl rfl rfl rfl (two_of HT_.out (by kernel_rfl)) (by decide) (by decide) (fun K hK => ?_) (fun K hK => ?_)
        ·skip
         refine goes_ Try.func15 (by kernel_rfl) rfl #[.agg #[.int .i64 t323, .int .i64 t324, .slice Ao13 t325.length co13]] (by rfl) rfl rfl lm_ ?_
         with_reducible refine (impl_Transpose.calls kj6 t323 t324 _ _ t325 t354 t355 t356 _ ?side1 ?side2 A50.out).mono ?_
         (case side1 => repeat (first | exact (Kd.R_reads' HO_334002.out).2.2 | (with_reducible refine Kd.C_alloc ?_ _) | (with_reducible refine Kd.C_drewN ?_ _) | (with_reducible refine Kd.C_drew ?_)))
         (case side2 => exact (Kd.R_reads' HO_334002.out).2.1)
         rintro e w55 ⟨v357, rfl, ho0, hb⟩
         refine ⟨_, rfl, ?_⟩
         have n0_ := am_ (Kd.R_elder' (rk_ HO_334002.out) (Kd.R_base ho0) hb)
         have n1_ := am_ (Kd.R_elder' (rk_ HO_335002.out) (Kd.R_base ho0) hb)
         have n2_ := am_ (Kd.R_elder' (rk_ HO_342002.out) (Kd.R_base ho0) hb)
         have n3_ := am_ (Kd.R_elder' (rk_ HO_349002.out) (Kd.R_base ho0) hb)
         have n4_ := am_ (Kd.R_elder' (rk_ HO353.out) (Kd.R_base ho0) hb)
         have n5_ := am_ (Kd.R_lower (Kd.R_new' (Kd.R_new' (Kd.R_new' (Kd.R_new' (Kd.R_new' ho0 (Kd.R_lt (rk_ HO_334002.out))) (Kd.R_lt (rk_ HO_335002.out))) (Kd.R_lt (rk_ HO_342002.out))) (Kd.R_lt (rk_ HO_349002.out))) (Kd.R_lt (rk_ HO353.out))) (below_size (bb_ HB.out)))
         have n6_ := am_ (bw_ BK333 hb)
         have n7_ := am_ (bw_ BK334 hb)
         have n8_ := am_ (bw_ BK341 hb)
         have n9_ := am_ (bw_ BK348 hb)
         have n10_ := am_ (below_step (bb_ HB.out) hb)
         clear HO_334002 HO_335002 HO_342002 HO_349002 HO353 BK333 BK334 BK341 BK348 HB; revert n0_ n1_ n2_ n3_ n4_ n5_ n6_ n7_ n8_ n9_ n10_; intro HO_334002 HO_335002 HO_342002 HO_349002 HO353 HO358 BK333 BK334 BK341 BK348 HB
         (try clear hb)
         (try clear hb2)
         (try clear hk)
         (try clear hi)
         (try clear ho0)
         obtain ⟨Ao56, co56, eo56⟩ := Kd.R_slice HO353.out
         (first | subst eo56 | (injection eo56 with f1_ f2_ f3_; have f4_ := f1_.symm; have f5_ := f3_.symm; clear f1_ f2_ f3_; subst f4_; subst f5_))
         obtain ⟨Ao57, co57, eo57⟩ := Kd.R_slice HO358.out
         (first | subst eo57 | (injection eo57 with f1_ f2_ f3_; have f4_ := f1_.symm; have f5_ := f3_.symm; clear f1_ f2_ f3_; subst f4_; subst f5_))
         refine hK.out _ _ ⟨bc_ BK334 0, bc_ BK334 1, bc_ BK334 2, bc_ BK333 0, bc_ BK333 1, bc_ BK333 2⟩ (fun hHeld => ?_)
         clear hK K
         refine norm_ (a' := ?_) ?_ ?_
         rotate_left
         ·show Act.put _ (some 68) _ = _
          simp only [Act.put, List.setIfInBounds_toArray, List.set_cons_zero, List.set_cons_succ, i64_w, i32_w]
          rfl
         refine two_ (i := 4) (j := 8) (Ni := some 69) (Nj := some 9) #[true, true, true, true, true, false, false, false, false, false, false] #[true, true, true, true, false, false, false, false, true, false, false] rfl rfl rfl rfl (two_of HT_.out (by kernel_rfl)) (by decide) (by decide) (fun K hK => ?_) (fun K hK => ?_)
         ·skip
          refine goes_ Try.func13 (by kernel_rfl) rfl #[.agg #[.int .i64 t349, .int .i64 t350, .slice Ao56 t351.length co56], .agg #[.int .i64 t354, .int .i64 t355, .slice Ao57 t356.length co57]] (by rfl) rfl rfl lm_ ?_
          with_reducible refine (impl_MultiplyMatrices.calls kj6 t349 t350 _ _ t351 t354 t355 _ _ t356 t359 t360 t361 t364 _ ?side1 ?side2 ?side3 ?side4 A51.out).mono ?_
          (case side1 => repeat (first | exact (Kd.R_reads' HO353.out).2.2 | (with_reducible refine Kd.C_alloc ?_ _) | (with_reducible refine Kd.C_drewN ?_ _) | (with_reducible refine Kd.C_drew ?_)))
          (case side2 => exact (Kd.R_reads' HO353.out).2.1)
          (case side3 => repeat (first | exact (Kd.R_reads' HO358.out).2.2 | (with_reducible refine Kd.C_alloc ?_ _) | (with_reducible refine Kd.C_drewN ?_ _) | (with_reducible refine Kd.C_drew ?_)))
          (case side4 => exact (Kd.R_reads' HO358.out).2.1)
          rintro e w58 ⟨v362, rfl, ho0, hb⟩
          refine ⟨_, rfl, ?_⟩
          have n0_ := am_ (Kd.R_elder' (rk_ HO_334002.out) (Kd.R_base ho0) hb)
          have n1_ := am_ (Kd.R_elder' (rk_ HO_335002.out) (Kd.R_base ho0) hb)
          have n2_ := am_ (Kd.R_elder' (rk_ HO_342002.out) (Kd.R_base ho0) hb)
          have n3_ := am_ (Kd.R_elder' (rk_ HO_349002.out) (Kd.R_base ho0) hb)
          have n4_ := am_ (Kd.R_elder' (rk_ HO353.out) (Kd.R_base ho0) hb)
          have n5_ := am_ (Kd.R_elder' (rk_ HO358.out) (Kd.R_base ho0) hb)
          have n6_ := am_ (Kd.R_lower (Kd.R_new' (Kd.R_new' (Kd.R_new' (Kd.R_new' (Kd.R_new' (Kd.R_new' ho0 (Kd.R_lt (rk_ HO_334002.out))) (Kd.R_lt (rk_ HO_335002.out))) (Kd.R_lt (rk_ HO_342002.out))) (Kd.R_lt (rk_ HO_349002.out))) (Kd.R_lt (rk_ HO353.out))) (Kd.R_lt (rk_ HO358.out))) (below_size (bb_ HB.out)))
          have n7_ := am_ (bw_ BK333 hb)
          have n8_ := am_ (bw_ BK334 hb)
          have n9_ := am_ (bw_ BK341 hb)
          have n10_ := am_ (bw_ BK348 hb)
          have n11_ := am_ (below_step (bb_ HB.out) hb)
          clear HO_334002 HO_335002 HO_342002 HO_349002 HO353 HO358 BK333 BK334 BK341 BK348 HB; revert n0_ n1_ n2_ n3_ n4_ n5_ n6_ n7_ n8_ n9_ n10_ n11_; intro HO_334002 HO_335002 HO_342002 HO_349002 HO353 HO358 HO363 BK333 BK334 BK341 BK348 HB
          (try clear hb)
          (try clear hb2)
          (try clear hk)
          (try clear hi)
          (try clear ho0)
          refine hK.out _ _ ⟨bc_ BK334 0, bc_ BK334 1, bc_ BK334 2, bc_ BK333 0, bc_ BK333 1, bc_ BK333 2⟩ (fun hHeld => ?_)
          clear hK K
          refine norm_ (a' := ?_) ?_ ?_
          rotate_left
          ·show Act.put _ (some 69) _ = _
           simp only [Act.put, List.setIfInBounds_toArray, List.set_cons_zero, List.set_cons_succ, i64_w, i32_w]
           rfl
          refine pure_ (i := 5) (N := some 64) (v := ?_) (a' := ?_) #[true, true, true, true, true, true, false, false, false, false, false] rfl rfl (any_of HT_.out (by kernel_rfl)) (fun _ _ _ h => h) (Or.inl ⟨by rfl, ?_⟩) ?_ ?_
          rotate_left
          ·intro w'
           go_simp
           with_reducible rfl
          rotate_left
          ·simp only [Act.put, List.setIfInBounds_toArray, List.set_cons_zero, List.set_cons_succ, i64_w, i32_w]
           rfl
          refine pure_ (i := 6) (N := some 70) (v := ?_) (a' := ?_) #[true, true, true, true, true, true, true, false, false, false, false] rfl rfl (any_of HT_.out (by kernel_rfl)) (fun _ _ _ h => h) (Or.inl ⟨by rfl, ?_⟩) ?_ ?_
          rotate_left
          ·intro w'
           go_simp
           with_reducible rfl
          rotate_left
          ·simp only [Act.put, List.setIfInBounds_toArray, List.set_cons_zero, List.set_cons_succ, i64_w, i32_w]
           rfl
          refine pure_ (i := 7) (N := some 71) (v := ?_) (a' := ?_) #[true, true, true, true, true, true, true, true, false, false, false] rfl rfl (any_of HT_.out (by kernel_rfl)) (fun _ _ _ h => h) (Or.inl ⟨by rfl, ?_⟩) ?_ ?_
          rotate_left
          ·intro w'
           go_simp
           with_reducible rfl
          rotate_left
          ·simp only [Act.put, List.setIfInBounds_toArray, List.set_cons_zero, List.set_cons_succ, i64_w, i32_w]
           rfl
          refine one_ (i := 8) (N := some 9) #[true, true, true, true, true, true, true, true, true, false, false] rfl rfl (one_of HT_.out (by kernel_rfl)) (by decide) (fun K hK => ?_)
          refine box_step ?hg (N := 9) ?hd (cs := #[.int .i64 0, .int .i64 0, .slice none 0 0]) (t := 28) ?hr ?_; (case hd => rfl); (case hg => rfl); (case hr => first | (go_simp; done) | (go_simp; rfl))
          intro gb365 hg w59 hbox hb
          have n0_ := am_ (Kd.R_below (rk_ HO_334002.out) hb)
          have n1_ := am_ (Kd.R_below (rk_ HO_335002.out) hb)
          have n2_ := am_ (Kd.R_below (rk_ HO_342002.out) hb)
          have n3_ := am_ (Kd.R_below (rk_ HO_349002.out) hb)
          have n4_ := am_ (Kd.R_below (rk_ HO353.out) hb)
          have n5_ := am_ (Kd.R_below (rk_ HO358.out) hb)
          have n6_ := am_ (Kd.R_below (rk_ HO363.out) hb)
          have n7_ := am_ (bw_ BK333 hb)
          have n8_ := am_ (bw_ BK334 hb)
          have n9_ := am_ (bw_ BK341 hb)
          have n10_ := am_ (bw_ BK348 hb)
          have n11_ := am_ (below_step (bb_ HB.out) hb)
          have n12_ := am_ (hbox)
          have n13_ := am_ ((by rw [hg]; exact (below_size (bb_ HB.out)) : w.heap.size ≤ gb365))
          have n14_ := am_ ((by rw [hg]; exact (below_size (bb_ HB.out)) : w.heap.size ≤ gb365))
          have n15_ := am_ (nl_ BK333 hg)
          have n16_ := am_ (ng_ BK333 hg)
          have n17_ := am_ (nl_ BK334 hg)
          have n18_ := am_ (ng_ BK334 hg)
          have n19_ := am_ (nl_ BK341 hg)
          have n20_ := am_ (ng_ BK341 hg)
          have n21_ := am_ (nl_ BK348 hg)
          have n22_ := am_ (ng_ BK348 hg)
          clear HO_334002 HO_335002 HO_342002 HO_349002 HO353 HO358 HO363 BK333 BK334 BK341 BK348 HB; revert n0_ n1_ n2_ n3_ n4_ n5_ n6_ n7_ n8_ n9_ n10_ n11_ n12_ n13_ n14_ n15_ n16_ n17_ n18_ n19_ n20_ n21_ n22_; intro HO_334002 HO_335002 HO_342002 HO_349002 HO353 HO358 HO363 BK333 BK334 BK341 BK348 HB BK365 GW365 GE365 NB333_365 NB365_333 NB334_365 NB365_334 NB341_365 NB365_341 NB348_365 NB365_348
          clear hb hbox hg
          refine hK.out _ _ ⟨bc_ BK334 0, bc_ BK334 1, bc_ BK334 2, bc_ BK333 0, bc_ BK333 1, bc_ BK333 2⟩ (fun hHeld => ?_)
          clear hK K
          refine norm_ (a' := ?_) ?_ ?_
          rotate_left
          ·show Act.put _ (some 9) _ = _
           simp only [Act.put, List.setIfInBounds_toArray, List.set_cons_zero, List.set_cons_succ, i64_w, i32_w]
           rfl
          exact norm_ (by simp only [putAll, Act.put, List.setIfInBounds_toArray, List.set_cons_zero, List.set_cons_succ]) (hCont (.slice Ao56 t351.length co56, .slice Ao57 t356.length co57, v362, gb365) _ ⟨hHeld, (rm_ HO353.out (fun _ hk => ⟨hk.1.2, ⟨hk.2, ⟨hk.1.1.1.1.1.2, ⟨hk.1.1.1.1.2, ⟨hk.1.1.1.2, hk.1.1.2⟩⟩⟩⟩⟩)), (rm_ HO358.out (fun _ hk => ⟨hk.1.2, ⟨hk.2, ⟨hk.1.1.1.1.1.2, ⟨hk.1.1.1.1.2, ⟨hk.1.1.1.2, hk.1.1.2⟩⟩⟩⟩⟩)), (rm_ HO363.out (fun _ hk => ⟨hk.1.2, ⟨hk.2, ⟨hk.1.1.1.1.1.2, ⟨hk.1.1.1.1.2, ⟨hk.1.1.1.2, hk.1.1.2⟩⟩⟩⟩⟩)), (rm_ HO_334002.out (fun _ hk => ⟨hk.1.1.2, ⟨hk.1.2, ⟨hk.2, ⟨hk.1.1.1.1, ⟨hk.1.1.1.2.1, hk.1.1.1.2.2⟩⟩⟩⟩⟩)), (rm_ HO_335002.out (fun _ hk => ⟨hk.1.1.2, ⟨hk.1.2, ⟨hk.2, ⟨hk.1.1.1.1, ⟨hk.1.1.1.2.1, hk.1.1.1.2.2⟩⟩⟩⟩⟩)), (rm_ HO_342002.out (fun _ hk => ⟨hk.1.1.2, ⟨hk.1.2, ⟨hk.2, ⟨hk.1.1.1.1, ⟨hk.1.1.1.2.1, hk.1.1.1.2.2⟩⟩⟩⟩⟩)), (rm_ HO_349002.out (fun _ hk => ⟨hk.1.1.2, ⟨hk.1.2, ⟨hk.2, ⟨hk.1.1.1.1, ⟨hk.1.1.1.2.1, hk.1.1.1.2.2⟩⟩⟩⟩⟩)), (bk_ BK333.out), (bk_ BK334.out), (bk_ BK341.out), (bk_ BK348.out), (bk_ BK365.out), GW365.out, GE365.out, NB333_365.out, NB365_333.out, NB334_365.out, NB365_334.out, NB341_365.out, NB365_341.out, NB348_365.out, NB365_348.out, (bb_ HB.out)⟩)
         ·skip
          refine box_step ?hg (N := 9) ?hd (cs := #[.int .i64 0, .int .i64 0, .slice none 0 0]) (t := 28) ?hr ?_; (case hd => rfl); (case hg => rfl); (case hr => first | (go_simp; done) | (go_simp; rfl))
          intro gb365 hg w56 hbox hb
          have n0_ := am_ (Kd.R_below (rk_ HO_334002.out) hb)
          have n1_ := am_ (Kd.R_below (rk_ HO_335002.out) hb)
          have n2_ := am_ (Kd.R_below (rk_ HO_342002.out) hb)
          have n3_ := am_ (Kd.R_below (rk_ HO_349002.out) hb)
          have n4_ := am_ (Kd.R_below (rk_ HO353.out) hb)
          have n5_ := am_ (Kd.R_below (rk_ HO358.out) hb)
          have n6_ := am_ (bw_ BK333 hb)
          have n7_ := am_ (bw_ BK334 hb)
          have n8_ := am_ (bw_ BK341 hb)
          have n9_ := am_ (bw_ BK348 hb)
          have n10_ := am_ (below_step (bb_ HB.out) hb)
          have n11_ := am_ (hbox)
          have n12_ := am_ ((by rw [hg]; exact (below_size (bb_ HB.out)) : w.heap.size ≤ gb365))
          have n13_ := am_ ((by rw [hg]; exact (below_size (bb_ HB.out)) : w.heap.size ≤ gb365))
          have n14_ := am_ (nl_ BK333 hg)
          have n15_ := am_ (ng_ BK333 hg)
          have n16_ := am_ (nl_ BK334 hg)
          have n17_ := am_ (ng_ BK334 hg)
          have n18_ := am_ (nl_ BK341 hg)
          have n19_ := am_ (ng_ BK341 hg)
          have n20_ := am_ (nl_ BK348 hg)
          have n21_ := am_ (ng_ BK348 hg)
          clear HO_334002 HO_335002 HO_342002 HO_349002 HO353 HO358 BK333 BK334 BK341 BK348 HB; revert n0_ n1_ n2_ n3_ n4_ n5_ n6_ n7_ n8_ n9_ n10_ n11_ n12_ n13_ n14_ n15_ n16_ n17_ n18_ n19_ n20_ n21_; intro HO_334002 HO_335002 HO_342002 HO_349002 HO353 HO358 BK333 BK334 BK341 BK348 HB BK365 GW365 GE365 NB333_365 NB365_333 NB334_365 NB365_334 NB341_365 NB365_341 NB348_365 NB365_348
          clear hb hbox hg
          obtain ⟨Ao57, co57, eo57⟩ := Kd.R_slice HO353.out
          (first | subst eo57 | (injection eo57 with f1_ f2_ f3_; have f4_ := f1_.symm; have f5_ := f3_.symm; clear f1_ f2_ f3_; subst f4_; subst f5_))
          obtain ⟨Ao58, co58, eo58⟩ := Kd.R_slice HO358.out
          (first | subst eo58 | (injection eo58 with f1_ f2_ f3_; have f4_ := f1_.symm; have f5_ := f3_.symm; clear f1_ f2_ f3_; subst f4_; subst f5_))
          refine hK.out _ _ ⟨bc_ BK334 0, bc_ BK334 1, bc_ BK334 2, bc_ BK333 0, bc_ BK333 1, bc_ BK333 2⟩ (fun hHeld => ?_)
          clear hK K
          refine norm_ (a' := ?_) ?_ ?_
          rotate_left
          ·show Act.put _ (some 9) _ = _
           simp only [Act.put, List.setIfInBounds_toArray, List.set_cons_zero, List.set_cons_succ, i64_w, i32_w]
           rfl
          refine one_ (i := 4) (N := some 69) #[true, true, true, true, true, false, false, false, true, false, false] rfl rfl (one_of HT_.out (by kernel_rfl)) (by decide) (fun K hK => ?_)
          refine goes_ Try.func13 (by kernel_rfl) rfl #[.agg #[.int .i64 t349, .int .i64 t350, .slice Ao57 t351.length co57], .agg #[.int .i64 t354, .int .i64 t355, .slice Ao58 t356.length co58]] (by rfl) rfl rfl lm_ ?_
          with_reducible refine (impl_MultiplyMatrices.calls kj6 t349 t350 _ _ t351 t354 t355 _ _ t356 t359 t360 t361 t364 _ ?side1 ?side2 ?side3 ?side4 A51.out).mono ?_
          (case side1 => repeat (first | exact (Kd.R_reads' HO353.out).2.2 | (with_reducible refine Kd.C_alloc ?_ _) | (with_reducible refine Kd.C_drewN ?_ _) | (with_reducible refine Kd.C_drew ?_)))
          (case side2 => exact (Kd.R_reads' HO353.out).2.1)
          (case side3 => repeat (first | exact (Kd.R_reads' HO358.out).2.2 | (with_reducible refine Kd.C_alloc ?_ _) | (with_reducible refine Kd.C_drewN ?_ _) | (with_reducible refine Kd.C_drew ?_)))
          (case side4 => exact (Kd.R_reads' HO358.out).2.1)
          rintro e w59 ⟨v362, rfl, ho0, hb⟩
          refine ⟨_, rfl, ?_⟩
          have n0_ := am_ (Kd.R_elder' (rk_ HO_334002.out) (Kd.R_base ho0) hb)
          have n1_ := am_ (Kd.R_elder' (rk_ HO_335002.out) (Kd.R_base ho0) hb)
          have n2_ := am_ (Kd.R_elder' (rk_ HO_342002.out) (Kd.R_base ho0) hb)
          have n3_ := am_ (Kd.R_elder' (rk_ HO_349002.out) (Kd.R_base ho0) hb)
          have n4_ := am_ (Kd.R_elder' (rk_ HO353.out) (Kd.R_base ho0) hb)
          have n5_ := am_ (Kd.R_elder' (rk_ HO358.out) (Kd.R_base ho0) hb)
          have n6_ := am_ (Kd.R_lower (Kd.R_new' (Kd.R_new' (Kd.R_new' (Kd.R_new' (Kd.R_new' (Kd.R_new' ho0 (Kd.R_lt (rk_ HO_334002.out))) (Kd.R_lt (rk_ HO_335002.out))) (Kd.R_lt (rk_ HO_342002.out))) (Kd.R_lt (rk_ HO_349002.out))) (Kd.R_lt (rk_ HO353.out))) (Kd.R_lt (rk_ HO358.out))) (below_size (bb_ HB.out)))
          have n7_ := am_ (bw_ BK333 hb)
          have n8_ := am_ (bw_ BK334 hb)
          have n9_ := am_ (bw_ BK341 hb)
          have n10_ := am_ (bw_ BK348 hb)
          have n11_ := am_ (bw_ BK365 hb)
          have n12_ := am_ (below_step (bb_ HB.out) hb)
          clear HO_334002 HO_335002 HO_342002 HO_349002 HO353 HO358 BK333 BK334 BK341 BK348 BK365 HB; revert n0_ n1_ n2_ n3_ n4_ n5_ n6_ n7_ n8_ n9_ n10_ n11_ n12_; intro HO_334002 HO_335002 HO_342002 HO_349002 HO353 HO358 HO363 BK333 BK334 BK341 BK348 BK365 HB
          (try clear hb)
          (try clear hb2)
          (try clear hk)
          (try clear hi)
          (try clear ho0)
          refine hK.out _ _ ⟨bc_ BK334 0, bc_ BK334 1, bc_ BK334 2, bc_ BK333 0, bc_ BK333 1, bc_ BK333 2⟩ (fun hHeld => ?_)
          clear hK K
          refine norm_ (a' := ?_) ?_ ?_
          rotate_left
          ·show Act.put _ (some 69) _ = _
           simp only [Act.put, List.setIfInBounds_toArray, List.set_cons_zero, List.set_cons_succ, i64_w, i32_w]
           rfl
          refine pure_ (i := 5) (N := some 64) (v := ?_) (a' := ?_) #[true, true, true, true, true, true, false, false, true, false, false] rfl rfl (any_of HT_.out (by kernel_rfl)) (fun _ _ _ h => h) (Or.inl ⟨by rfl, ?_⟩) ?_ ?_
          rotate_left
          ·intro w'
           go_simp
           with_reducible rfl
          rotate_left
          ·simp only [Act.put, List.setIfInBounds_toArray, List.set_cons_zero, List.set_cons_succ, i64_w, i32_w]
           rfl
          refine pure_ (i := 6) (N := some 70) (v := ?_) (a' := ?_) #[true, true, true, true, true, true, true, false, true, false, false] rfl rfl (any_of HT_.out (by kernel_rfl)) (fun _ _ _ h => h) (Or.inl ⟨by rfl, ?_⟩) ?_ ?_
          rotate_left
          ·intro w'
           go_simp
           with_reducible rfl
          rotate_left
          ·simp only [Act.put, List.setIfInBounds_toArray, List.set_cons_zero, List.set_cons_succ, i64_w, i32_w]
           rfl
          refine pure_ (i := 7) (N := some 71) (v := ?_) (a' := ?_) #[true, true, true, true, true, true, true, true, true, false, false] rfl rfl (any_of HT_.out (by kernel_rfl)) (fun _ _ _ h => h) (Or.inl ⟨by rfl, ?_⟩) ?_ ?_
          rotate_left
          ·intro w'
           go_simp
           with_reducible rfl
          rotate_left
          ·simp only [Act.put, List.setIfInBounds_toArray, List.set_cons_zero, List.set_cons_succ, i64_w, i32_w]
           rfl
          exact norm_ (by simp only [putAll, Act.put, List.setIfInBounds_toArray, List.set_cons_zero, List.set_cons_succ]) (hCont (.slice Ao57 t351.length co57, .slice Ao58 t356.length co58, v362, gb365) _ ⟨hHeld, (rm_ HO353.out (fun _ hk => ⟨hk.1.2, ⟨hk.2, ⟨hk.1.1.1.1.1.2, ⟨hk.1.1.1.1.2, ⟨hk.1.1.1.2, hk.1.1.2⟩⟩⟩⟩⟩)), (rm_ HO358.out (fun _ hk => ⟨hk.1.2, ⟨hk.2, ⟨hk.1.1.1.1.1.2, ⟨hk.1.1.1.1.2, ⟨hk.1.1.1.2, hk.1.1.2⟩⟩⟩⟩⟩)), (rm_ HO363.out (fun _ hk => ⟨hk.1.2, ⟨hk.2, ⟨hk.1.1.1.1.1.2, ⟨hk.1.1.1.1.2, ⟨hk.1.1.1.2, hk.1.1.2⟩⟩⟩⟩⟩)), (rm_ HO_334002.out (fun _ hk => ⟨hk.1.1.2, ⟨hk.1.2, ⟨hk.2, ⟨hk.1.1.1.1, ⟨hk.1.1.1.2.1, hk.1.1.1.2.2⟩⟩⟩⟩⟩)), (rm_ HO_335002.out (fun _ hk => ⟨hk.1.1.2, ⟨hk.1.2, ⟨hk.2, ⟨hk.1.1.1.1, ⟨hk.1.1.1.2.1, hk.1.1.1.2.2⟩⟩⟩⟩⟩)), (rm_ HO_342002.out (fun _ hk => ⟨hk.1.1.2, ⟨hk.1.2, ⟨hk.2, ⟨hk.1.1.1.1, ⟨hk.1.1.1.2.1, hk.1.1.1.2.2⟩⟩⟩⟩⟩)), (rm_ HO_349002.out (fun _ hk => ⟨hk.1.1.2, ⟨hk.1.2, ⟨hk.2, ⟨hk.1.1.1.1, ⟨hk.1.1.1.2.1, hk.1.1.1.2.2⟩⟩⟩⟩⟩)), (bk_ BK333.out), (bk_ BK334.out), (bk_ BK341.out), (bk_ BK348.out), (bk_ BK365.out), GW365.out, GE365.out, NB333_365.out, NB365_333.out, NB334_365.out, NB365_334.out, NB341_365.out, NB365_341.out, NB348_365.out, NB365_348.out, (bb_ HB.out)⟩)
        ·skip
         refine box_step ?hg (N := 9) ?hd (cs := #[.int .i64 0, .int .i64 0, .slice none 0 0]) (t := 28) ?hr ?_; (case hd => rfl); (case hg => rfl); (case hr => first | (go_simp; done) | (go_simp; rfl))
         intro gb365 hg w55 hbox hb
         have n0_ := am_ (Kd.R_below (rk_ HO_334002.out) hb)
         have n1_ := am_ (Kd.R_below (rk_ HO_335002.out) hb)
         have n2_ := am_ (Kd.R_below (rk_ HO_342002.out) hb)
         have n3_ := am_ (Kd.R_below (rk_ HO_349002.out) hb)
         have n4_ := am_ (Kd.R_below (rk_ HO353.out) hb)
         have n5_ := am_ (bw_ BK333 hb)
         have n6_ := am_ (bw_ BK334 hb)
         have n7_ := am_ (bw_ BK341 hb)
         have n8_ := am_ (bw_ BK348 hb)
         have n9_ := am_ (below_step (bb_ HB.out) hb)
         have n10_ := am_ (hbox)
         have n11_ := am_ ((by rw [hg]; exact (below_size (bb_ HB.out)) : w.heap.size ≤ gb365))
         have n12_ := am_ ((by rw [hg]; exact (below_size (bb_ HB.out)) : w.heap.size ≤ gb365))
         have n13_ := am_ (nl_ BK333 hg)
         have n14_ := am_ (ng_ BK333 hg)
         have n15_ := am_ (nl_ BK334 hg)
         have n16_ := am_ (ng_ BK334 hg)
         have n17_ := am_ (nl_ BK341 hg)
         have n18_ := am_ (ng_ BK341 hg)
         have n19_ := am_ (nl_ BK348 hg)
         have n20_ := am_ (ng_ BK348 hg)
         clear HO_334002 HO_335002 HO_342002 HO_349002 HO353 BK333 BK334 BK341 BK348 HB; revert n0_ n1_ n2_ n3_ n4_ n5_ n6_ n7_ n8_ n9_ n10_ n11_ n12_ n13_ n14_ n15_ n16_ n17_ n18_ n19_ n20_; intro HO_334002 HO_335002 HO_342002 HO_349002 HO353 BK333 BK334 BK341 BK348 HB BK365 GW365 GE365 NB333_365 NB365_333 NB334_365 NB365_334 NB341_365 NB365_341 NB348_365 NB365_348
         clear hb hbox hg
         refine hK.out _ _ ⟨bc_ BK334 0, bc_ BK334 1, bc_ BK334 2, bc_ BK333 0, bc_ BK333 1, bc_ BK333 2⟩ (fun hHeld => ?_)
         clear hK K
         refine norm_ (a' := ?_) ?_ ?_
         rotate_left
         ·show Act.put _ (some 9) _ = _
          simp only [Act.put, List.setIfInBounds_toArray, List.set_cons_zero, List.set_cons_succ, i64_w, i32_w]
          rfl
         refine one_ (i := 3) (N := some 68) #[true, true, true, true, false, false, false, false, true, false, false] rfl rfl (one_of HT_.out (by kernel_rfl)) (by decide) (fun K hK => ?_)
         refine goes_ Try.func15 (by kernel_rfl) rfl #[.agg #[.int .i64 t323, .int .i64 t324, .slice Ao13 t325.length co13]] (by rfl) rfl rfl lm_ ?_
         with_reducible refine (impl_Transpose.calls kj6 t323 t324 _ _ t325 t354 t355 t356 _ ?side1 ?side2 A50.out).mono ?_
         (case side1 => repeat (first | exact (Kd.R_reads' HO_334002.out).2.2 | (with_reducible refine Kd.C_alloc ?_ _) | (with_reducible refine Kd.C_drewN ?_ _) | (with_reducible refine Kd.C_drew ?_)))
         (case side2 => exact (Kd.R_reads' HO_334002.out).2.1)
         rintro e w56 ⟨v357, rfl, ho0, hb⟩
         refine ⟨_, rfl, ?_⟩
         have n0_ := am_ (Kd.R_elder' (rk_ HO_334002.out) (Kd.R_base ho0) hb)
         have n1_ := am_ (Kd.R_elder' (rk_ HO_335002.out) (Kd.R_base ho0) hb)
         have n2_ := am_ (Kd.R_elder' (rk_ HO_342002.out) (Kd.R_base ho0) hb)
         have n3_ := am_ (Kd.R_elder' (rk_ HO_349002.out) (Kd.R_base ho0) hb)
         have n4_ := am_ (Kd.R_elder' (rk_ HO353.out) (Kd.R_base ho0) hb)
         have n5_ := am_ (Kd.R_lower (Kd.R_new' (Kd.R_new' (Kd.R_new' (Kd.R_new' (Kd.R_new' ho0 (Kd.R_lt (rk_ HO_334002.out))) (Kd.R_lt (rk_ HO_335002.out))) (Kd.R_lt (rk_ HO_342002.out))) (Kd.R_lt (rk_ HO_349002.out))) (Kd.R_lt (rk_ HO353.out))) (below_size (bb_ HB.out)))
         have n6_ := am_ (bw_ BK333 hb)
         have n7_ := am_ (bw_ BK334 hb)
         have n8_ := am_ (bw_ BK341 hb)
         have n9_ := am_ (bw_ BK348 hb)
         have n10_ := am_ (bw_ BK365 hb)
         have n11_ := am_ (below_step (bb_ HB.out) hb)
         clear HO_334002 HO_335002 HO_342002 HO_349002 HO353 BK333 BK334 BK341 BK348 BK365 HB; revert n0_ n1_ n2_ n3_ n4_ n5_ n6_ n7_ n8_ n9_ n10_ n11_; intro HO_334002 HO_335002 HO_342002 HO_349002 HO353 HO358 BK333 BK334 BK341 BK348 BK365 HB
         (try clear hb)
         (try clear hb2)
         (try clear hk)
         (try clear hi)
         (try clear ho0)
         obtain ⟨Ao57, co57, eo57⟩ := Kd.R_slice HO353.out
         (first | subst eo57 | (injection eo57 with f1_ f2_ f3_; have f4_ := f1_.symm; have f5_ := f3_.symm; clear f1_ f2_ f3_; subst f4_; subst f5_))
         obtain ⟨Ao58, co58, eo58⟩ := Kd.R_slice HO358.out
         (first | subst eo58 | (injection eo58 with f1_ f2_ f3_; have f4_ := f1_.symm; have f5_ := f3_.symm; clear f1_ f2_ f3_; subst f4_; subst f5_))
         refine hK.out _ _ ⟨bc_ BK334 0, bc_ BK334 1, bc_ BK334 2, bc_ BK333 0, bc_ BK333 1, bc_ BK333 2⟩ (fun hHeld => ?_)
         clear hK K
         refine norm_ (a' := ?_) ?_ ?_
         rotate_left
         ·show Act.put _ (some 68) _ = _
          simp only [Act.put, List.setIfInBounds_toArray, List.set_cons_zero, List.set_cons_succ, i64_w, i32_w]
          rfl
         refine one_ (i := 4) (N := some 69) #[true, true, true, true, true, false, false, false, true, false, false] rfl rfl (one_of HT_.out (by kernel_rfl)) (by decide) (fun K hK => ?_)
         refine goes_ Try.func13 (by kernel_rfl) rfl #[.agg #[.int .i64 t349, .int .i64 t350, .slice Ao57 t351.length co57], .agg #[.int .i64 t354, .int .i64 t355, .slice Ao58 t356.length co58]] (by rfl) rfl rfl lm_ ?_
         with_reducible refine (impl_MultiplyMatrices.calls kj6 t349 t350 _ _ t351 t354 t355 _ _ t356 t359 t360 t361 t364 _ ?side1 ?side2 ?side3 ?side4 A51.out).mono ?_
         (case side1 => repeat (first | exact (Kd.R_reads' HO353.out).2.2 | (with_reducible refine Kd.C_alloc ?_ _) | (with_reducible refine Kd.C_drewN ?_ _) | (with_reducible refine Kd.C_drew ?_)))
         (case side2 => exact (Kd.R_reads' HO353.out).2.1)
         (case side3 => repeat (first | exact (Kd.R_reads' HO358.out).2.2 | (with_reducible refine Kd.C_alloc ?_ _) | (with_reducible refine Kd.C_drewN ?_ _) | (with_reducible refine Kd.C_drew ?_)))
         (case side4 => exact (Kd.R_reads' HO358.out).2.1)
         rintro e w59 ⟨v362, rfl, ho0, hb⟩
         refine ⟨_, rfl, ?_⟩
         have n0_ := am_ (Kd.R_elder' (rk_ HO_334002.out) (Kd.R_base ho0) hb)
         have n1_ := am_ (Kd.R_elder' (rk_ HO_335002.out) (Kd.R_base ho0) hb)
         have n2_ := am_ (Kd.R_elder' (rk_ HO_342002.out) (Kd.R_base ho0) hb)
         have n3_ := am_ (Kd.R_elder' (rk_ HO_349002.out) (Kd.R_base ho0) hb)
         have n4_ := am_ (Kd.R_elder' (rk_ HO353.out) (Kd.R_base ho0) hb)
         have n5_ := am_ (Kd.R_elder' (rk_ HO358.out) (Kd.R_base ho0) hb)
         have n6_ := am_ (Kd.R_lower (Kd.R_new' (Kd.R_new' (Kd.R_new' (Kd.R_new' (Kd.R_new' (Kd.R_new' ho0 (Kd.R_lt (rk_ HO_334002.out))) (Kd.R_lt (rk_ HO_335002.out))) (Kd.R_lt (rk_ HO_342002.out))) (Kd.R_lt (rk_ HO_349002.out))) (Kd.R_lt (rk_ HO353.out))) (Kd.R_lt (rk_ HO358.out))) (below_size (bb_ HB.out)))
         have n7_ := am_ (bw_ BK333 hb)
         have n8_ := am_ (bw_ BK334 hb)
         have n9_ := am_ (bw_ BK341 hb)
         have n10_ := am_ (bw_ BK348 hb)
         have n11_ := am_ (bw_ BK365 hb)
         have n12_ := am_ (below_step (bb_ HB.out) hb)
         clear HO_334002 HO_335002 HO_342002 HO_349002 HO353 HO358 BK333 BK334 BK341 BK348 BK365 HB; revert n0_ n1_ n2_ n3_ n4_ n5_ n6_ n7_ n8_ n9_ n10_ n11_ n12_; intro HO_334002 HO_335002 HO_342002 HO_349002 HO353 HO358 HO363 BK333 BK334 BK341 BK348 BK365 HB
         (try clear hb)
         (try clear hb2)
         (try clear hk)
         (try clear hi)
         (try clear ho0)
         refine hK.out _ _ ⟨bc_ BK334 0, bc_ BK334 1, bc_ BK334 2, bc_ BK333 0, bc_ BK333 1, bc_ BK333 2⟩ (fun hHeld => ?_)
         clear hK K
         refine norm_ (a' := ?_) ?_ ?_
         rotate_left
         ·show Act.put _ (some 69) _ = _
          simp only [Act.put, List.setIfInBounds_toArray, List.set_cons_zero, List.set_cons_succ, i64_w, i32_w]
          rfl
         refine pure_ (i := 5) (N := some 64) (v := ?_) (a' := ?_) #[true, true, true, true, true, true, false, false, true, false, false] rfl rfl (any_of HT_.out (by kernel_rfl)) (fun _ _ _ h => h) (Or.inl ⟨by rfl, ?_⟩) ?_ ?_
         rotate_left
         ·intro w'
          go_simp
          with_reducible rfl
         rotate_left
         ·simp only [Act.put, List.setIfInBounds_toArray, List.set_cons_zero, List.set_cons_succ, i64_w, i32_w]
          rfl
         refine pure_ (i := 6) (N := some 70) (v := ?_) (a' := ?_) #[true, true, true, true, true, true, true, false, true, false, false] rfl rfl (any_of HT_.out (by kernel_rfl)) (fun _ _ _ h => h) (Or.inl ⟨by rfl, ?_⟩) ?_ ?_
         rotate_left
         ·intro w'
          go_simp
          with_reducible rfl
         rotate_left
         ·simp only [Act.put, List.setIfInBounds_toArray, List.set_cons_zero, List.set_cons_succ, i64_w, i32_w]
          rfl
         refine pure_ (i := 7) (N := some 71) (v := ?_) (a' := ?_) #[true, true, true, true, true, true, true, true, true, false, false] rfl rfl (any_of HT_.out (by kernel_rfl)) (fun _ _ _ h => h) (Or.inl ⟨by rfl, ?_⟩) ?_ ?_
         rotate_left
         ·intro w'
          go_simp
          with_reducible rfl
         rotate_left
         ·simp only [Act.put, List.setIfInBounds_toArray, List.set_cons_zero, List.set_cons_succ, i64_w, i32_w]
          rfl
         exact norm_ (by simp only [putAll, Act.put, List.setIfInBounds_toArray, List.set_cons_zero, List.set_cons_succ]) (hCont (.slice Ao57 t351.length co57, .slice Ao58 t356.length co58, v362, gb365) _ ⟨hHeld, (rm_ HO353.out (fun _ hk => ⟨hk.1.2, ⟨hk.2, ⟨hk.1.1.1.1.1.2, ⟨hk.1.1.1.1.2, ⟨hk.1.1.1.2, hk.1.1.2⟩⟩⟩⟩⟩)), (rm_ HO358.out (fun _ hk => ⟨hk.1.2, ⟨hk.2, ⟨hk.1.1.1.1.1.2, ⟨hk.1.1.1.1.2, ⟨hk.1.1.1.2, hk.1.1.2⟩⟩⟩⟩⟩)), (rm_ HO363.out (fun _ hk => ⟨hk.1.2, ⟨hk.2, ⟨hk.1.1.1.1.1.2, ⟨hk.1.1.1.1.2, ⟨hk.1.1.1.2, hk.1.1.2⟩⟩⟩⟩⟩)), (rm_ HO_334002.out (fun _ hk => ⟨hk.1.1.2, ⟨hk.1.2, ⟨hk.2, ⟨hk.1.1.1.1, ⟨hk.1.1.1.2.1, hk.1.1.1.2.2⟩⟩⟩⟩⟩)), (rm_ HO_335002.out (fun _ hk => ⟨hk.1.1.2, ⟨hk.1.2, ⟨hk.2, ⟨hk.1.1.1.1, ⟨hk.1.1.1.2.1, hk.1.1.1.2.2⟩⟩⟩⟩⟩)), (rm_ HO_342002.out (fun _ hk => ⟨hk.1.1.2, ⟨hk.1.2, ⟨hk.2, ⟨hk.1.1.1.1, ⟨hk.1.1.1.2.1, hk.1.1.1.2.2⟩⟩⟩⟩⟩)), (rm_ HO_349002.out (fun _ hk => ⟨hk.1.1.2, ⟨hk.1.2, ⟨hk.2, ⟨hk.1.1.1.1, ⟨hk.1.1.1.2.1, hk.1.1.1.2.2⟩⟩⟩⟩⟩)), (bk_ BK333.out), (bk_ BK334.out), (bk_ BK341.out), (bk_ BK348.out), (bk_ BK365.out), GW365.out, GE365.out, NB333_365.out, NB365_333.out, NB334_365.out, NB365_334.out, NB341_365.out, NB365_341.out, NB348_365.out, NB365_348.out, (bb_ HB.out)⟩)
       ·skip
        refine box_step ?hg (N := 9) ?hd (cs := #[.int .i64 0, .int .i64 0, .slice none 0 0]) (t := 28) ?hr ?_; (case hd => rfl); (case hg => rfl); (case hr => first | (go_simp; done) | (go_simp; rfl))
        intro gb365 hg w54 hbox hb
        have n0_ := am_ (Kd.R_below (rk_ HO_334002.out) hb)
        have n1_ := am_ (Kd.R_below (rk_ HO_335002.out) hb)
        have n2_ := am_ (Kd.R_below (rk_ HO_342002.out) hb)
        have n3_ := am_ (Kd.R_below (rk_ HO_349002.out) hb)
        have n4_ := am_ (bw_ BK333 hb)
        have n5_ := am_ (bw_ BK334 hb)
        have n6_ := am_ (bw_ BK341 hb)
        have n7_ := am_ (bw_ BK348 hb)
        have n8_ := am_ (below_step (bb_ HB.out) hb)
        have n9_ := am_ (hbox)
        have n10_ := am_ ((by rw [hg]; exact (below_size (bb_ HB.out)) : w.heap.size ≤ gb365))
        have n11_ := am_ ((by rw [hg]; exact (below_size (bb_ HB.out)) : w.heap.size ≤ gb365))
        have n12_ := am_ (nl_ BK333 hg)
        have n13_ := am_ (ng_ BK333 hg)
        have n14_ := am_ (nl_ BK334 hg)
        have n15_ := am_ (ng_ BK334 hg)
        have n16_ := am_ (nl_ BK341 hg)
        have n17_ := am_ (ng_ BK341 hg)
        have n18_ := am_ (nl_ BK348 hg)
        have n19_ := am_ (ng_ BK348 hg)
        clear HO_334002 HO_335002 HO_342002 HO_349002 BK333 BK334 BK341 BK348 HB; revert n0_ n1_ n2_ n3_ n4_ n5_ n6_ n7_ n8_ n9_ n10_ n11_ n12_ n13_ n14_ n15_ n16_ n17_ n18_ n19_; intro HO_334002 HO_335002 HO_342002 HO_349002 BK333 BK334 BK341 BK348 HB BK365 GW365 GE365 NB333_365 NB365_333 NB334_365 NB365_334 NB341_365 NB365_341 NB348_365 NB365_348
        clear hb hbox hg
        refine hK.out _ _ ⟨bc_ BK334 0, bc_ BK334 1, bc_ BK334 2, bc_ BK333 0, bc_ BK333 1, bc_ BK333 2⟩ (fun hHeld => ?_)
        clear hK K
        refine norm_ (a' := ?_) ?_ ?_
        rotate_left
        ·show Act.put _ (some 9) _ = _
         simp only [Act.put, List.setIfInBounds_toArray, List.set_cons_zero, List.set_cons_succ, i64_w, i32_w]
         rfl
        refine one_ (i := 1) (N := some 66) #[true, true, true, false, false, false, false, false, true, false, false] rfl rfl (one_of HT_.out (by kernel_rfl)) (by decide) (fun K hK => ?_)
        refine goes_ Try.func15 (by kernel_rfl) rfl #[.agg #[.int .i64 t328, .int .i64 t329, .slice Ao15 t330.length co15]] (by rfl) rfl rfl lm_ ?_
        with_reducible refine (impl_Transpose.calls kj6 t328 t329 _ _ t330 t349 t350 t351 _ ?side1 ?side2 A49.out).mono ?_
        (case side1 => repeat (first | exact (Kd.R_reads' HO_335002.out).2.2 | (with_reducible refine Kd.C_alloc ?_ _) | (with_reducible refine Kd.C_drewN ?_ _) | (with_reducible refine Kd.C_drew ?_)))
        (case side2 => exact (Kd.R_reads' HO_335002.out).2.1)
        rintro e w55 ⟨v352, rfl, ho0, hb⟩
        refine ⟨_, rfl, ?_⟩
        have n0_ := am_ (Kd.R_elder' (rk_ HO_334002.out) (Kd.R_base ho0) hb)
        have n1_ := am_ (Kd.R_elder' (rk_ HO_335002.out) (Kd.R_base ho0) hb)
        have n2_ := am_ (Kd.R_elder' (rk_ HO_342002.out) (Kd.R_base ho0) hb)
        have n3_ := am_ (Kd.R_elder' (rk_ HO_349002.out) (Kd.R_base ho0) hb)
        have n4_ := am_ (Kd.R_lower (Kd.R_new' (Kd.R_new' (Kd.R_new' (Kd.R_new' ho0 (Kd.R_lt (rk_ HO_334002.out))) (Kd.R_lt (rk_ HO_335002.out))) (Kd.R_lt (rk_ HO_342002.out))) (Kd.R_lt (rk_ HO_349002.out))) (below_size (bb_ HB.out)))
        have n5_ := am_ (bw_ BK333 hb)
        have n6_ := am_ (bw_ BK334 hb)
        have n7_ := am_ (bw_ BK341 hb)
        have n8_ := am_ (bw_ BK348 hb)
        have n9_ := am_ (bw_ BK365 hb)
        have n10_ := am_ (below_step (bb_ HB.out) hb)
        clear HO_334002 HO_335002 HO_342002 HO_349002 BK333 BK334 BK341 BK348 BK365 HB; revert n0_ n1_ n2_ n3_ n4_ n5_ n6_ n7_ n8_ n9_ n10_; intro HO_334002 HO_335002 HO_342002 HO_349002 HO353 BK333 BK334 BK341 BK348 BK365 HB
        (try clear hb)
        (try clear hb2)
        (try clear hk)
        (try clear hi)
        (try clear ho0)
        refine hK.out _ _ ⟨bc_ BK334 0, bc_ BK334 1, bc_ BK334 2, bc_ BK333 0, bc_ BK333 1, bc_ BK333 2⟩ (fun hHeld => ?_)
        clear hK K
        refine norm_ (a' := ?_) ?_ ?_
        rotate_left
        ·show Act.put _ (some 66) _ = _
         simp only [Act.put, List.setIfInBounds_toArray, List.set_cons_zero, List.set_cons_succ, i64_w, i32_w]
         rfl
        refine one_ (i := 3) (N := some 68) #[true, true, true, true, false, false, false, false, true, false, false] rfl rfl (one_of HT_.out (by kernel_rfl)) (by decide) (fun K hK => ?_)
        refine goes_ Try.func15 (by kernel_rfl) rfl #[.agg #[.int .i64 t323, .int .i64 t324, .slice Ao13 t325.length co13]] (by rfl) rfl rfl lm_ ?_
        with_reducible refine (impl_Transpose.calls kj6 t323 t324 _ _ t325 t354 t355 t356 _ ?side1 ?side2 A50.out).mono ?_
        (case side1 => repeat (first | exact (Kd.R_reads' HO_334002.out).2.2 | (with_reducible refine Kd.C_alloc ?_ _) | (with_reducible refine Kd.C_drewN ?_ _) | (with_reducible refine Kd.C_drew ?_)))
        (case side2 => exact (Kd.R_reads' HO_334002.out).2.1)
        rintro e w56 ⟨v357, rfl, ho0, hb⟩
        refine ⟨_, rfl, ?_⟩
        have n0_ := am_ (Kd.R_elder' (rk_ HO_334002.out) (Kd.R_base ho0) hb)
        have n1_ := am_ (Kd.R_elder' (rk_ HO_335002.out) (Kd.R_base ho0) hb)
        have n2_ := am_ (Kd.R_elder' (rk_ HO_342002.out) (Kd.R_base ho0) hb)
        have n3_ := am_ (Kd.R_elder' (rk_ HO_349002.out) (Kd.R_base ho0) hb)
        have n4_ := am_ (Kd.R_elder' (rk_ HO353.out) (Kd.R_base ho0) hb)
        have n5_ := am_ (Kd.R_lower (Kd.R_new' (Kd.R_new' (Kd.R_new' (Kd.R_new' (Kd.R_new' ho0 (Kd.R_lt (rk_ HO_334002.out))) (Kd.R_lt (rk_ HO_335002.out))) (Kd.R_lt (rk_ HO_342002.out))) (Kd.R_lt (rk_ HO_349002.out))) (Kd.R_lt (rk_ HO353.out))) (below_size (bb_ HB.out)))
        have n6_ := am_ (bw_ BK333 hb)
        have n7_ := am_ (bw_ BK334 hb)
        have n8_ := am_ (bw_ BK341 hb)
        have n9_ := am_ (bw_ BK348 hb)
        have n10_ := am_ (bw_ BK365 hb)
        have n11_ := am_ (below_step (bb_ HB.out) hb)
        clear HO_334002 HO_335002 HO_342002 HO_349002 HO353 BK333 BK334 BK341 BK348 BK365 HB; revert n0_ n1_ n2_ n3_ n4_ n5_ n6_ n7_ n8_ n9_ n10_ n11_; intro HO_334002 HO_335002 HO_342002 HO_349002 HO353 HO358 BK333 BK334 BK341 BK348 BK365 HB
        (try clear hb)
        (try clear hb2)
        (try clear hk)
        (try clear hi)
        (try clear ho0)
        obtain ⟨Ao57, co57, eo57⟩ := Kd.R_slice HO353.out
        (first | subst eo57 | (injection eo57 with f1_ f2_ f3_; have f4_ := f1_.symm; have f5_ := f3_.symm; clear f1_ f2_ f3_; subst f4_; subst f5_))
        obtain ⟨Ao58, co58, eo58⟩ := Kd.R_slice HO358.out
        (first | subst eo58 | (injection eo58 with f1_ f2_ f3_; have f4_ := f1_.symm; have f5_ := f3_.symm; clear f1_ f2_ f3_; subst f4_; subst f5_))
        refine hK.out _ _ ⟨bc_ BK334 0, bc_ BK334 1, bc_ BK334 2, bc_ BK333 0, bc_ BK333 1, bc_ BK333 2⟩ (fun hHeld => ?_)
        clear hK K
        refine norm_ (a' := ?_) ?_ ?_
        rotate_left
        ·show Act.put _ (some 68) _ = _
         simp only [Act.put, List.setIfInBounds_toArray, List.set_cons_zero, List.set_cons_succ, i64_w, i32_w]
         rfl
        refine one_ (i := 4) (N := some 69) #[true, true, true, true, true, false, false, false, true, false, false] rfl rfl (one_of HT_.out (by kernel_rfl)) (by decide) (fun K hK => ?_)
        refine goes_ Try.func13 (by kernel_rfl) rfl #[.agg #[.int .i64 t349, .int .i64 t350, .slice Ao57 t351.length co57], .agg #[.int .i64 t354, .int .i64 t355, .slice Ao58 t356.length co58]] (by rfl) rfl rfl lm_ ?_
        with_reducible refine (impl_MultiplyMatrices.calls kj6 t349 t350 _ _ t351 t354 t355 _ _ t356 t359 t360 t361 t364 _ ?side1 ?side2 ?side3 ?side4 A51.out).mono ?_
        (case side1 => repeat (first | exact (Kd.R_reads' HO353.out).2.2 | (with_reducible refine Kd.C_alloc ?_ _) | (with_reducible refine Kd.C_drewN ?_ _) | (with_reducible refine Kd.C_drew ?_)))
        (case side2 => exact (Kd.R_reads' HO353.out).2.1)
        (case side3 => repeat (first | exact (Kd.R_reads' HO358.out).2.2 | (with_reducible refine Kd.C_alloc ?_ _) | (with_reducible refine Kd.C_drewN ?_ _) | (with_reducible refine Kd.C_drew ?_)))
        (case side4 => exact (Kd.R_reads' HO358.out).2.1)
        rintro e w59 ⟨v362, rfl, ho0, hb⟩
        refine ⟨_, rfl, ?_⟩
        have n0_ := am_ (Kd.R_elder' (rk_ HO_334002.out) (Kd.R_base ho0) hb)
        have n1_ := am_ (Kd.R_elder' (rk_ HO_335002.out) (Kd.R_base ho0) hb)
        have n2_ := am_ (Kd.R_elder' (rk_ HO_342002.out) (Kd.R_base ho0) hb)
        have n3_ := am_ (Kd.R_elder' (rk_ HO_349002.out) (Kd.R_base ho0) hb)
        have n4_ := am_ (Kd.R_elder' (rk_ HO353.out) (Kd.R_base ho0) hb)
        have n5_ := am_ (Kd.R_elder' (rk_ HO358.out) (Kd.R_base ho0) hb)
        have n6_ := am_ (Kd.R_lower (Kd.R_new' (Kd.R_new' (Kd.R_new' (Kd.R_new' (Kd.R_new' (Kd.R_new' ho0 (Kd.R_lt (rk_ HO_334002.out))) (Kd.R_lt (rk_ HO_335002.out))) (Kd.R_lt (rk_ HO_342002.out))) (Kd.R_lt (rk_ HO_349002.out))) (Kd.R_lt (rk_ HO353.out))) (Kd.R_lt (rk_ HO358.out))) (below_size (bb_ HB.out)))
        have n7_ := am_ (bw_ BK333 hb)
        have n8_ := am_ (bw_ BK334 hb)
        have n9_ := am_ (bw_ BK341 hb)
        have n10_ := am_ (bw_ BK348 hb)
        have n11_ := am_ (bw_ BK365 hb)
        have n12_ := am_ (below_step (bb_ HB.out) hb)
        clear HO_334002 HO_335002 HO_342002 HO_349002 HO353 HO358 BK333 BK334 BK341 BK348 BK365 HB; revert n0_ n1_ n2_ n3_ n4_ n5_ n6_ n7_ n8_ n9_ n10_ n11_ n12_; intro HO_334002 HO_335002 HO_342002 HO_349002 HO353 HO358 HO363 BK333 BK334 BK341 BK348 BK365 HB
        (try clear hb)
        (try clear hb2)
        (try clear hk)
        (try clear hi)
        (try clear ho0)
        refine hK.out _ _ ⟨bc_ BK334 0, bc_ BK334 1, bc_ BK334 2, bc_ BK333 0, bc_ BK333 1, bc_ BK333 2⟩ (fun hHeld => ?_)
        clear hK K
        refine norm_ (a' := ?_) ?_ ?_
        rotate_left
        ·show Act.put _ (some 69) _ = _
         simp only [Act.put, List.setIfInBounds_toArray, List.set_cons_zero, List.set_cons_succ, i64_w, i32_w]
         rfl
        refine pure_ (i := 5) (N := some 64) (v := ?_) (a' := ?_) #[true, true, true, true, true, true, false, false, true, false, false] rfl rfl (any_of HT_.out (by kernel_rfl)) (fun _ _ _ h => h) (Or.inl ⟨by rfl, ?_⟩) ?_ ?_
        rotate_left
        ·intro w'
         go_simp
         with_reducible rfl
        rotate_left
        ·simp only [Act.put, List.setIfInBounds_toArray, List.set_cons_zero, List.set_cons_succ, i64_w, i32_w]
         rfl
        refine pure_ (i := 6) (N := some 70) (v := ?_) (a' := ?_) #[true, true, true, true, true, true, true, false, true, false, false] rfl rfl (any_of HT_.out (by kernel_rfl)) (fun _ _ _ h => h) (Or.inl ⟨by rfl, ?_⟩) ?_ ?_
        rotate_left
        ·intro w'
         go_simp
         with_reducible rfl
        rotate_left
        ·simp only [Act.put, List.setIfInBounds_toArray, List.set_cons_zero, List.set_cons_succ, i64_w, i32_w]
         rfl
        refine pure_ (i := 7) (N := some 71) (v := ?_) (a' := ?_) #[true, true, true, true, true, true, true, true, true, false, false] rfl rfl (any_of HT_.out (by kernel_rfl)) (fun _ _ _ h => h) (Or.inl ⟨by rfl, ?_⟩) ?_ ?_
        rotate_left
        ·intro w'
         go_simp
         with_reducible rfl
        rotate_left
        ·simp only [Act.put, List.setIfInBounds_toArray, List.set_cons_zero, List.set_cons_succ, i64_w, i32_w]
         rfl
        exact norm_ (by simp only [putAll, Act.put, List.setIfInBounds_toArray, List.set_cons_zero, List.set_cons_succ]) (hCont (.slice Ao57 t351.length co57, .slice Ao58 t356.length co58, v362, gb365) _ ⟨hHeld, (rm_ HO353.out (fun _ hk => ⟨hk.1.2, ⟨hk.2, ⟨hk.1.1.1.1.1.2, ⟨hk.1.1.1.1.2, ⟨hk.1.1.1.2, hk.1.1.2⟩⟩⟩⟩⟩)), (rm_ HO358.out (fun _ hk => ⟨hk.1.2, ⟨hk.2, ⟨hk.1.1.1.1.1.2, ⟨hk.1.1.1.1.2, ⟨hk.1.1.1.2, hk.1.1.2⟩⟩⟩⟩⟩)), (rm_ HO363.out (fun _ hk => ⟨hk.1.2, ⟨hk.2, ⟨hk.1.1.1.1.1.2, ⟨hk.1.1.1.1.2, ⟨hk.1.1.1.2, hk.1.1.2⟩⟩⟩⟩⟩)), (rm_ HO_334002.out (fun _ hk => ⟨hk.1.1.2, ⟨hk.1.2, ⟨hk.2, ⟨hk.1.1.1.1, ⟨hk.1.1.1.2.1, hk.1.1.1.2.2⟩⟩⟩⟩⟩)), (rm_ HO_335002.out (fun _ hk => ⟨hk.1.1.2, ⟨hk.1.2, ⟨hk.2, ⟨hk.1.1.1.1, ⟨hk.1.1.1.2.1, hk.1.1.1.2.2⟩⟩⟩⟩⟩)), (rm_ HO_342002.out (fun _ hk => ⟨hk.1.1.2, ⟨hk.1.2, ⟨hk.2, ⟨hk.1.1.1.1, ⟨hk.1.1.1.2.1, hk.1.1.1.2.2⟩⟩⟩⟩⟩)), (rm_ HO_349002.out (fun _ hk => ⟨hk.1.1.2, ⟨hk.1.2, ⟨hk.2, ⟨hk.1.1.1.1, ⟨hk.1.1.1.2.1, hk.1.1.1.2.2⟩⟩⟩⟩⟩)), (bk_ BK333.out), (bk_ BK334.out), (bk_ BK341.out), (bk_ BK348.out), (bk_ BK365.out), GW365.out, GE365.out, NB333_365.out, NB365_333.out, NB334_365.out, NB365_334.out, NB341_365.out, NB365_341.out, NB348_365.out, NB365_348.out, (bb_ HB.out)⟩)
      rintro ⟨v352, v357, v362, gb365⟩ w60 ⟨hS_, h0_, h1_, h2_, h3_, h4_, h5_, h6_, h7_, h8_, h9_, h10_, h11_, h12_, h13_, h14_, h15_, h16_, h17_, h18_, h19_, h20_, h21_, h22_⟩
      have n0_ : Aside0 (Kd.R (Kd.int .i64) 2 w60 w.heap.size (fun k_ => some k_ ≠ (v357 : Value).ownBlock ∧ some k_ ≠ (v362 : Value).ownBlock ∧ some k_ ≠ (.slice Ao13 t325.length co13 : Value).ownBlock ∧ some k_ ≠ (.slice Ao15 t330.length co15 : Value).ownBlock ∧ some k_ ≠ (.slice Ao21 t337.length co21 : Value).ownBlock ∧ some k_ ≠ (.slice Ao30 t344.length co30 : Value).ownBlock) v352 t351) := ⟨h0_⟩
      have n1_ : Aside0 (Kd.R (Kd.int .i64) 2 w60 w.heap.size (fun k_ => some k_ ≠ (v352 : Value).ownBlock ∧ some k_ ≠ (v362 : Value).ownBlock ∧ some k_ ≠ (.slice Ao13 t325.length co13 : Value).ownBlock ∧ some k_ ≠ (.slice Ao15 t330.length co15 : Value).ownBlock ∧ some k_ ≠ (.slice Ao21 t337.length co21 : Value).ownBlock ∧ some k_ ≠ (.slice Ao30 t344.length co30 : Value).ownBlock) v357 t356) := ⟨h1_⟩
      have n2_ : Aside0 (Kd.R (Kd.int .i64) 2 w60 w.heap.size (fun k_ => some k_ ≠ (v352 : Value).ownBlock ∧ some k_ ≠ (v357 : Value).ownBlock ∧ some k_ ≠ (.slice Ao13 t325.length co13 : Value).ownBlock ∧ some k_ ≠ (.slice Ao15 t330.length co15 : Value).ownBlock ∧ some k_ ≠ (.slice Ao21 t337.length co21 : Value).ownBlock ∧ some k_ ≠ (.slice Ao30 t344.length co30 : Value).ownBlock) v362 t361) := ⟨h2_⟩
      have n3_ : Aside0 (Kd.R (Kd.int .i64) 2 w60 w.heap.size (fun k_ => some k_ ≠ (v352 : Value).ownBlock ∧ some k_ ≠ (v357 : Value).ownBlock ∧ some k_ ≠ (v362 : Value).ownBlock ∧ some k_ ≠ (.slice Ao15 t330.length co15 : Value).ownBlock ∧ some k_ ≠ (.slice Ao21 t337.length co21 : Value).ownBlock ∧ some k_ ≠ (.slice Ao30 t344.length co30 : Value).ownBlock) (.slice Ao13 t325.length co13) t325) := ⟨h3_⟩
      have n4_ : Aside0 (Kd.R (Kd.int .i64) 2 w60 w.heap.size (fun k_ => some k_ ≠ (v352 : Value).ownBlock ∧ some k_ ≠ (v357 : Value).ownBlock ∧ some k_ ≠ (v362 : Value).ownBlock ∧ some k_ ≠ (.slice Ao13 t325.length co13 : Value).ownBlock ∧ some k_ ≠ (.slice Ao21 t337.length co21 : Value).ownBlock ∧ some k_ ≠ (.slice Ao30 t344.length co30 : Value).ownBlock) (.slice Ao15 t330.length co15) t330) := ⟨h4_⟩
      have n5_ : Aside0 (Kd.R (Kd.int .i64) 2 w60 w.heap.size (fun k_ => some k_ ≠ (v352 : Value).ownBlock ∧ some k_ ≠ (v357 : Value).ownBlock ∧ some k_ ≠ (v362 : Value).ownBlock ∧ some k_ ≠ (.slice Ao13 t325.length co13 : Value).ownBlock ∧ some k_ ≠ (.slice Ao15 t330.length co15 : Value).ownBlock ∧ some k_ ≠ (.slice Ao30 t344.length co30 : Value).ownBlock) (.slice Ao21 t337.length co21) t337) := ⟨h5_⟩
      have n6_ : Aside0 (Kd.R (Kd.int .i64) 2 w60 w.heap.size (fun k_ => some k_ ≠ (v352 : Value).ownBlock ∧ some k_ ≠ (v357 : Value).ownBlock ∧ some k_ ≠ (v362 : Value).ownBlock ∧ some k_ ≠ (.slice Ao13 t325.length co13 : Value).ownBlock ∧ some k_ ≠ (.slice Ao15 t330.length co15 : Value).ownBlock ∧ some k_ ≠ (.slice Ao21 t337.length co21 : Value).ownBlock) (.slice Ao30 t344.length co30) t344) := ⟨h6_⟩
      have n7_ : Aside0 (w60.heap[gb333]? = some (.cells #[.int .i64 t323, .int .i64 t324, .slice Ao13 t325.length co13] 28 (0, 0))) := ⟨h7_⟩
      have n8_ : Aside0 (w60.heap[gb334]? = some (.cells #[.int .i64 t328, .int .i64 t329, .slice Ao15 t330.length co15] 28 (0, 0))) := ⟨h8_⟩
      have n9_ : Aside0 (w60.heap[gb341]? = some (.cells #[.int .i64 t335, .int .i64 t336, .slice Ao21 t337.length co21] 28 (0, 0))) := ⟨h9_⟩
      have n10_ : Aside0 (w60.heap[gb348]? = some (.cells #[.int .i64 t342, .int .i64 t343, .slice Ao30 t344.length co30] 28 (0, 0))) := ⟨h10_⟩
      have n11_ : Aside0 (w60.heap[gb365]? = some (.cells #[.int .i64 0, .int .i64 0, .slice none 0 0] 28 (0, 0))) := ⟨h11_⟩
      have n12_ : Aside0 (w.heap.size ≤ gb365) := ⟨h12_⟩
      have n13_ : Aside0 (w.heap.size ≤ gb365) := ⟨h13_⟩
      have n14_ : Aside0 (gb333 ≠ gb365) := ⟨h14_⟩
      have n15_ : Aside0 (gb365 ≠ gb333) := ⟨h15_⟩
      have n16_ : Aside0 (gb334 ≠ gb365) := ⟨h16_⟩
      have n17_ : Aside0 (gb365 ≠ gb334) := ⟨h17_⟩
      have n18_ : Aside0 (gb341 ≠ gb365) := ⟨h18_⟩
      have n19_ : Aside0 (gb365 ≠ gb341) := ⟨h19_⟩
      have n20_ : Aside0 (gb348 ≠ gb365) := ⟨h20_⟩
      have n21_ : Aside0 (gb365 ≠ gb348) := ⟨h21_⟩
      have n22_ : Aside0 (Below w.heap.size w w60) := ⟨h22_⟩
      clear HO_334002
      clear HO_335002
      clear HO_342002
      clear HO_349002
      clear BK333
      clear BK334
      clear BK341
      clear BK348
      clear HB
      clear h0_ h1_ h2_ h3_ h4_ h5_ h6_ h7_ h8_ h9_ h10_ h11_ h12_ h13_ h14_ h15_ h16_ h17_ h18_ h19_ h20_ h21_ h22_
      have HO353 := n0_
      have HO358 := n1_
      have HO363 := n2_
      have HO_334002 := n3_
      have HO_335002 := n4_
      have HO_342002 := n5_
      have HO_349002 := n6_
      have BK333 := n7_
      have BK334 := n8_
      have BK341 := n9_
      have BK348 := n10_
      have BK365 := n11_
      have GW365 := n12_
      have GE365 := n13_
      have NB333_365 := n14_
      have NB365_333 := n15_
      have NB334_365 := n16_
      have NB365_334 := n17_
      have NB341_365 := n18_
      have NB365_341 := n19_
      have NB348_365 := n20_
      have NB365_348 := n21_
      have HB := n22_
      clear n0_ n1_ n2_ n3_ n4_ n5_ n6_ n7_ n8_ n9_ n10_ n11_ n12_ n13_ n14_ n15_ n16_ n17_ n18_ n19_ n20_ n21_ n22_
      have hHeld : w60.cell? ⟨gb334, 0, none⟩ = some (.int .i64 t328) ∧ w60.cell? ⟨gb334, 1, none⟩ = some (.int .i64 t329) ∧ w60.cell? ⟨gb334, 2, none⟩ = some (.slice Ao15 t330.length co15) ∧ w60.cell? ⟨gb333, 0, none⟩ = some (.int .i64 t323) ∧ w60.cell? ⟨gb333, 1, none⟩ = some (.int .i64 t324) ∧ w60.cell? ⟨gb333, 2, none⟩ = some (.slice Ao13 t325.length co13) := hS_
      obtain ⟨Ao63, co63, eo63⟩ := Kd.R_slice HO363.out
      (first | subst eo63 | (injection eo63 with f1_ f2_ f3_; have f4_ := f1_.symm; have f5_ := f3_.symm; clear f1_ f2_ f3_; subst f4_; subst f5_))
      refine norm_ (a' := ?_) ?_ ?_
      rotate_left
      ·simp only [putAll, Act.put, List.setIfInBounds_toArray, List.set_cons_zero, List.set_cons_succ]
       rfl
      refine one_ (i := 9) (N := none) #[true, true, true, true, true, true, true, true, true, true, false] rfl rfl (one_of HT_.out (by kernel_rfl)) (by decide) (fun K hK => ?_)
      have hs61 : w60.cell? ⟨gb365, 0, none⟩ = some (.int .i64 0) := bc_ BK365 0
      have hfs61 := blk_frozen BK365.out 0
      have hns61_0 := NB333_365.out
      have hns61_1 := NB334_365.out
      have hns61_2 := NB341_365.out
      have hns61_3 := NB348_365.out
      have hms61_0 := NB365_333.out
      have hms61_1 := NB365_334.out
      have hms61_2 := NB365_341.out
      have hms61_3 := NB365_348.out
      have hs62 : w60.cell? ⟨gb365, 1, none⟩ = some (.int .i64 0) := bc_ BK365 1
      have hfs62 := blk_frozen BK365.out 1
      have hns62_0 := NB333_365.out
      have hns62_1 := NB334_365.out
      have hns62_2 := NB341_365.out
      have hns62_3 := NB348_365.out
      have hms62_0 := NB365_333.out
      have hms62_1 := NB365_334.out
      have hms62_2 := NB365_341.out
      have hms62_3 := NB365_348.out
      have hs64 : w60.cell? ⟨gb365, 2, none⟩ = some (.slice none 0 0) := bc_ BK365 2
      have hfs64 := blk_frozen BK365.out 2
      have hns64_0 := NB333_365.out
      have hns64_1 := NB334_365.out
      have hns64_2 := NB341_365.out
      have hns64_3 := NB348_365.out
      have hms64_0 := NB365_333.out
      have hms64_1 := NB365_334.out
      have hms64_2 := NB365_341.out
      have hms64_3 := NB365_348.out
      refine skip_ (w1 := ?_) (by rfl) rfl ?_ ?_
      rotate_left
      ·go_simp
       rfl
      refine hK.out _ _ ⟨((cell_far (p := ⟨gb365, _, none⟩) NB334_365.out _).trans (((cell_far (p := ⟨gb365, _, none⟩) NB334_365.out _).trans (((cell_far (p := ⟨gb365, _, none⟩) NB334_365.out _).trans (hHeld.1)))))), ((cell_far (p := ⟨gb365, _, none⟩) NB334_365.out _).trans (((cell_far (p := ⟨gb365, _, none⟩) NB334_365.out _).trans (((cell_far (p := ⟨gb365, _, none⟩) NB334_365.out _).trans (hHeld.2.1)))))), ((cell_far (p := ⟨gb365, _, none⟩) NB334_365.out _).trans (((cell_far (p := ⟨gb365, _, none⟩) NB334_365.out _).trans (((cell_far (p := ⟨gb365, _, none⟩) NB334_365.out _).trans (hHeld.2.2.1)))))), ((cell_far (p := ⟨gb365, _, none⟩) NB333_365.out _).trans (((cell_far (p := ⟨gb365, _, none⟩) NB333_365.out _).trans (((cell_far (p := ⟨gb365, _, none⟩) NB333_365.out _).trans (hHeld.2.2.2.1)))))), ((cell_far (p := ⟨gb365, _, none⟩) NB333_365.out _).trans (((cell_far (p := ⟨gb365, _, none⟩) NB333_365.out _).trans (((cell_far (p := ⟨gb365, _, none⟩) NB333_365.out _).trans (hHeld.2.2.2.2.1)))))), ((cell_far (p := ⟨gb365, _, none⟩) NB333_365.out _).trans (((cell_far (p := ⟨gb365, _, none⟩) NB333_365.out _).trans (((cell_far (p := ⟨gb365, _, none⟩) NB333_365.out _).trans (hHeld.2.2.2.2.2))))))⟩ (fun hHeld => ?_)
      clear hK K
      refine pure_ (i := 10) (N := some 10) (v := ?_) (a' := ?_) #[true, true, true, true, true, true, true, true, true, true, true] rfl rfl (any_of HT_.out (by kernel_rfl)) (fun _ _ _ h => h) (Or.inl ⟨by rfl, ?_⟩) ?_ ?_
      rotate_left
      ·intro w'
       go_simp
       with_reducible rfl
      rotate_left
      ·simp only [Act.put, List.setIfInBounds_toArray, List.set_cons_zero, List.set_cons_succ, i64_w, i32_w]
       rfl
      refine done_ (done_of HT_.out (by kernel_rfl)) ?_
      go_upto_region 11 with (fail)
      go_cut [80] (fun v80 wc => ∃ (kq : Nat) (x80_51 : Bool), v80 = .bool x80_51 ∧ Aside0 (laws_FnProducts.j1 kq x80_51 t323 t324 t325 t328 t329 t330 t335 t336 t337 = some r) ∧ Aside0 (kq ≤ kj6) ∧ Aside0 (Kd.R (Kd.int .i64) 2 wc w.heap.size (fun k_ => some k_ ≠ ((.slice Ao15 t330.length co15) : Value).ownBlock ∧ some k_ ≠ ((.slice Ao21 t337.length co21) : Value).ownBlock ∧ some k_ ≠ ((.slice Ao30 t344.length co30) : Value).ownBlock ∧ some k_ ≠ ((.slice Ao63 t361.length co63) : Value).ownBlock) (.slice Ao13 t325.length co13) t325) ∧ Aside0 (Kd.R (Kd.int .i64) 2 wc w.heap.size (fun k_ => some k_ ≠ ((.slice Ao13 t325.length co13) : Value).ownBlock ∧ some k_ ≠ ((.slice Ao21 t337.length co21) : Value).ownBlock ∧ some k_ ≠ ((.slice Ao30 t344.length co30) : Value).ownBlock ∧ some k_ ≠ ((.slice Ao63 t361.length co63) : Value).ownBlock) (.slice Ao15 t330.length co15) t330) ∧ Aside0 (Kd.R (Kd.int .i64) 2 wc w.heap.size (fun k_ => some k_ ≠ ((.slice Ao13 t325.length co13) : Value).ownBlock ∧ some k_ ≠ ((.slice Ao15 t330.length co15) : Value).ownBlock ∧ some k_ ≠ ((.slice Ao30 t344.length co30) : Value).ownBlock ∧ some k_ ≠ ((.slice Ao63 t361.length co63) : Value).ownBlock) (.slice Ao21 t337.length co21) t337) ∧ Aside0 (Kd.R (Kd.int .i64) 2 wc w.heap.size (fun k_ => some k_ ≠ ((.slice Ao13 t325.length co13) : Value).ownBlock ∧ some k_ ≠ ((.slice Ao15 t330.length co15) : Value).ownBlock ∧ some k_ ≠ ((.slice Ao21 t337.length co21) : Value).ownBlock ∧ some k_ ≠ ((.slice Ao63 t361.length co63) : Value).ownBlock) (.slice Ao30 t344.length co30) t344) ∧ Aside0 (Kd.R (Kd.int .i64) 2 wc w.heap.size (fun k_ => some k_ ≠ ((.slice Ao13 t325.length co13) : Value).ownBlock ∧ some k_ ≠ ((.slice Ao15 t330.length co15) : Value).ownBlock ∧ some k_ ≠ ((.slice Ao21 t337.length co21) : Value).ownBlock ∧ some k_ ≠ ((.slice Ao30 t344.length co30) : Value).ownBlock) (.slice Ao63 t361.length co63) t361) ∧ Aside0 (wc.heap[gb333]? = some (.cells #[.int .i64 t323, .int .i64 t324, (.slice Ao13 t325.length co13)] 28 (0, 0))) ∧ Aside0 (wc.heap[gb334]? = some (.cells #[.int .i64 t328, .int .i64 t329, (.slice Ao15 t330.length co15)] 28 (0, 0))) ∧ Aside0 (wc.heap[gb341]? = some (.cells #[.int .i64 t335, .int .i64 t336, (.slice Ao21 t337.length co21)] 28 (0, 0))) ∧ Aside0 (wc.heap[gb348]? = some (.cells #[.int .i64 t342, .int .i64 t343, (.slice Ao30 t344.length co30)] 28 (0, 0))) ∧ Aside0 (wc.heap[gb365]? = some (.cells #[.int .i64 t359, .int .i64 t360, (.slice Ao63 t361.length co63)] 28 (0, 0))) ∧ Aside0 (Below w.heap.size w wc))
      case first =>
       have H := HC52.out
       clear HC52
       by_cases c65 : t364 = 0
       ·rw [if_pos c65] at H
        have c65b0 : (t364 == 0) = true := beq_iff_eq.mpr c65
        have c65b1 : (t364 != 0) = false := bne_eq_false_iff_eq.mpr c65
        clear c65
        (first | rw [c65b0] | (simp only [i64_w, i32_w]; rw [c65b0]) | skip)
        replace H := Option.bind_eq_some_iff.mp H
        obtain ⟨⟨t366, t367, t368⟩, A660, H⟩ := H
        replace H : ((laws_likeMatrix.f kj6 t359 t360 t361 t366 t367 t368).bind fun t371 => (laws_FnProducts.j1 kj6 (!t371) t323 t324 t325 t328 t329 t330 t335 t336 t337)) = some r := H
        have A66 := am_ A660
        clear A660
        replace H := Option.bind_eq_some_iff.mp H
        obtain ⟨t371, A670, H⟩ := H
        replace H : (laws_FnProducts.j1 kj6 (!t371) t323 t324 t325 t328 t329 t330 t335 t336 t337) = some r := H
        have A67 := am_ A670
        clear A670
        have H' := am_ H
        clear H
        try go_wp2
        have n0_ : Aside0 (Kd.R (Kd.int .i64) 2 (((w60.setCell ⟨gb365, 0, none⟩ (.int .i64 t359)).setCell ⟨gb365, 1, none⟩ (.int .i64 t360)).setCell ⟨gb365, 2, none⟩ (.slice Ao63 t361.length co63)) w.heap.size (fun k_ => some k_ ≠ (.slice Ao15 t330.length co15 : Value).ownBlock ∧ some k_ ≠ (.slice Ao21 t337.length co21 : Value).ownBlock ∧ some k_ ≠ (.slice Ao30 t344.length co30 : Value).ownBlock ∧ some k_ ≠ (v352 : Value).ownBlock ∧ some k_ ≠ (v357 : Value).ownBlock ∧ some k_ ≠ (.slice Ao63 t361.length co63 : Value).ownBlock) (.slice Ao13 t325.length co13) t325) := ⟨rm_ (Kd.R_far (p := ⟨gb365, 2, none⟩) (Kd.R_far (p := ⟨gb365, 1, none⟩) (Kd.R_far (p := ⟨gb365, 0, none⟩) (Kd.R_types HO_334002.out BK365.out (by decide)) (fun _ hk => hk.2) (.int .i64 t359)) (fun _ hk => hk.2) (.int .i64 t360)) (fun _ hk => hk.2) (.slice Ao63 t361.length co63)) (fun _ hk => ⟨hk.1.2.2.2.1, ⟨hk.1.2.2.2.2.1, ⟨hk.1.2.2.2.2.2, ⟨hk.1.1, ⟨hk.1.2.1, hk.1.2.2.1⟩⟩⟩⟩⟩)⟩
        have n1_ : Aside0 (Kd.R (Kd.int .i64) 2 (((w60.setCell ⟨gb365, 0, none⟩ (.int .i64 t359)).setCell ⟨gb365, 1, none⟩ (.int .i64 t360)).setCell ⟨gb365, 2, none⟩ (.slice Ao63 t361.length co63)) w.heap.size (fun k_ => some k_ ≠ (.slice Ao13 t325.length co13 : Value).ownBlock ∧ some k_ ≠ (.slice Ao21 t337.length co21 : Value).ownBlock ∧ some k_ ≠ (.slice Ao30 t344.length co30 : Value).ownBlock ∧ some k_ ≠ (v352 : Value).ownBlock ∧ some k_ ≠ (v357 : Value).ownBlock ∧ some k_ ≠ (.slice Ao63 t361.length co63 : Value).ownBlock) (.slice Ao15 t330.length co15) t330) := ⟨rm_ (Kd.R_far (p := ⟨gb365, 2, none⟩) (Kd.R_far (p := ⟨gb365, 1, none⟩) (Kd.R_far (p := ⟨gb365, 0, none⟩) (Kd.R_types HO_335002.out BK365.out (by decide)) (fun _ hk => hk.2) (.int .i64 t359)) (fun _ hk => hk.2) (.int .i64 t360)) (fun _ hk => hk.2) (.slice Ao63 t361.length co63)) (fun _ hk => ⟨hk.1.2.2.2.1, ⟨hk.1.2.2.2.2.1, ⟨hk.1.2.2.2.2.2, ⟨hk.1.1, ⟨hk.1.2.1, hk.1.2.2.1⟩⟩⟩⟩⟩)⟩
        have n2_ : Aside0 (Kd.R (Kd.int .i64) 2 (((w60.setCell ⟨gb365, 0, none⟩ (.int .i64 t359)).setCell ⟨gb365, 1, none⟩ (.int .i64 t360)).setCell ⟨gb365, 2, none⟩ (.slice Ao63 t361.length co63)) w.heap.size (fun k_ => some k_ ≠ (.slice Ao13 t325.length co13 : Value).ownBlock ∧ some k_ ≠ (.slice Ao15 t330.length co15 : Value).ownBlock ∧ some k_ ≠ (.slice Ao30 t344.length co30 : Value).ownBlock ∧ some k_ ≠ (v352 : Value).ownBlock ∧ some k_ ≠ (v357 : Value).ownBlock ∧ some k_ ≠ (.slice Ao63 t361.length co63 : Value).ownBlock) (.slice Ao21 t337.length co21) t337) := ⟨rm_ (Kd.R_far (p := ⟨gb365, 2, none⟩) (Kd.R_far (p := ⟨gb365, 1, none⟩) (Kd.R_far (p := ⟨gb365, 0, none⟩) (Kd.R_types HO_342002.out BK365.out (by decide)) (fun _ hk => hk.2) (.int .i64 t359)) (fun _ hk => hk.2) (.int .i64 t360)) (fun _ hk => hk.2) (.slice Ao63 t361.length co63)) (fun _ hk => ⟨hk.1.2.2.2.1, ⟨hk.1.2.2.2.2.1, ⟨hk.1.2.2.2.2.2, ⟨hk.1.1, ⟨hk.1.2.1, hk.1.2.2.1⟩⟩⟩⟩⟩)⟩
        have n3_ : Aside0 (Kd.R (Kd.int .i64) 2 (((w60.setCell ⟨gb365, 0, none⟩ (.int .i64 t359)).setCell ⟨gb365, 1, none⟩ (.int .i64 t360)).setCell ⟨gb365, 2, none⟩ (.slice Ao63 t361.length co63)) w.heap.size (fun k_ => some k_ ≠ (.slice Ao13 t325.length co13 : Value).ownBlock ∧ some k_ ≠ (.slice Ao15 t330.length co15 : Value).ownBlock ∧ some k_ ≠ (.slice Ao21 t337.length co21 : Value).ownBlock ∧ some k_ ≠ (v352 : Value).ownBlock ∧ some k_ ≠ (v357 : Value).ownBlock ∧ some k_ ≠ (.slice Ao63 t361.length co63 : Value).ownBlock) (.slice Ao30 t344.length co30) t344) := ⟨rm_ (Kd.R_far (p := ⟨gb365, 2, none⟩) (Kd.R_far (p := ⟨gb365, 1, none⟩) (Kd.R_far (p := ⟨gb365, 0, none⟩) (Kd.R_types HO_349002.out BK365.out (by decide)) (fun _ hk => hk.2) (.int .i64 t359)) (fun _ hk => hk.2) (.int .i64 t360)) (fun _ hk => hk.2) (.slice Ao63 t361.length co63)) (fun _ hk => ⟨hk.1.2.2.2.1, ⟨hk.1.2.2.2.2.1, ⟨hk.1.2.2.2.2.2, ⟨hk.1.1, ⟨hk.1.2.1, hk.1.2.2.1⟩⟩⟩⟩⟩)⟩
        have n4_ : Aside0 (Kd.R (Kd.int .i64) 2 (((w60.setCell ⟨gb365, 0, none⟩ (.int .i64 t359)).setCell ⟨gb365, 1, none⟩ (.int .i64 t360)).setCell ⟨gb365, 2, none⟩ (.slice Ao63 t361.length co63)) w.heap.size (fun k_ => some k_ ≠ (.slice Ao13 t325.length co13 : Value).ownBlock ∧ some k_ ≠ (.slice Ao15 t330.length co15 : Value).ownBlock ∧ some k_ ≠ (.slice Ao21 t337.length co21 : Value).ownBlock ∧ some k_ ≠ (.slice Ao30 t344.length co30 : Value).ownBlock ∧ some k_ ≠ (v357 : Value).ownBlock ∧ some k_ ≠ (.slice Ao63 t361.length co63 : Value).ownBlock) v352 t351) := ⟨rm_ (Kd.R_far (p := ⟨gb365, 2, none⟩) (Kd.R_far (p := ⟨gb365, 1, none⟩) (Kd.R_far (p := ⟨gb365, 0, none⟩) (Kd.R_types HO353.out BK365.out (by decide)) (fun _ hk => hk.2) (.int .i64 t359)) (fun _ hk => hk.2) (.int .i64 t360)) (fun _ hk => hk.2) (.slice Ao63 t361.length co63)) (fun _ hk => ⟨hk.1.2.2.1, ⟨hk.1.2.2.2.1, ⟨hk.1.2.2.2.2.1, ⟨hk.1.2.2.2.2.2, ⟨hk.1.1, hk.1.2.1⟩⟩⟩⟩⟩)⟩
        have n5_ : Aside0 (Kd.R (Kd.int .i64) 2 (((w60.setCell ⟨gb365, 0, none⟩ (.int .i64 t359)).setCell ⟨gb365, 1, none⟩ (.int .i64 t360)).setCell ⟨gb365, 2, none⟩ (.slice Ao63 t361.length co63)) w.heap.size (fun k_ => some k_ ≠ (.slice Ao13 t325.length co13 : Value).ownBlock ∧ some k_ ≠ (.slice Ao15 t330.length co15 : Value).ownBlock ∧ some k_ ≠ (.slice Ao21 t337.length co21 : Value).ownBlock ∧ some k_ ≠ (.slice Ao30 t344.length co30 : Value).ownBlock ∧ some k_ ≠ (v352 : Value).ownBlock ∧ some k_ ≠ (.slice Ao63 t361.length co63 : Value).ownBlock) v357 t356) := ⟨rm_ (Kd.R_far (p := ⟨gb365, 2, none⟩) (Kd.R_far (p := ⟨gb365, 1, none⟩) (Kd.R_far (p := ⟨gb365, 0, none⟩) (Kd.R_types HO358.out BK365.out (by decide)) (fun _ hk => hk.2) (.int .i64 t359)) (fun _ hk => hk.2) (.int .i64 t360)) (fun _ hk => hk.2) (.slice Ao63 t361.length co63)) (fun _ hk => ⟨hk.1.2.2.1, ⟨hk.1.2.2.2.1, ⟨hk.1.2.2.2.2.1, ⟨hk.1.2.2.2.2.2, ⟨hk.1.1, hk.1.2.1⟩⟩⟩⟩⟩)⟩
        have n6_ : Aside0 (Kd.R (Kd.int .i64) 2 (((w60.setCell ⟨gb365, 0, none⟩ (.int .i64 t359)).setCell ⟨gb365, 1, none⟩ (.int .i64 t360)).setCell ⟨gb365, 2, none⟩ (.slice Ao63 t361.length co63)) w.heap.size (fun k_ => some k_ ≠ (.slice Ao13 t325.length co13 : Value).ownBlock ∧ some k_ ≠ (.slice Ao15 t330.length co15 : Value).ownBlock ∧ some k_ ≠ (.slice Ao21 t337.length co21 : Value).ownBlock ∧ some k_ ≠ (.slice Ao30 t344.length co30 : Value).ownBlock ∧ some k_ ≠ (v352 : Value).ownBlock ∧ some k_ ≠ (v357 : Value).ownBlock) (.slice Ao63 t361.length co63) t361) := ⟨rm_ (Kd.R_far (p := ⟨gb365, 2, none⟩) (Kd.R_far (p := ⟨gb365, 1, none⟩) (Kd.R_far (p := ⟨gb365, 0, none⟩) (Kd.R_types HO363.out BK365.out (by decide)) (fun _ hk => hk.2) (.int .i64 t359)) (fun _ hk => hk.2) (.int .i64 t360)) (fun _ hk => hk.2) (.slice Ao63 t361.length co63)) (fun _ hk => ⟨hk.1.2.2.1, ⟨hk.1.2.2.2.1, ⟨hk.1.2.2.2.2.1, ⟨hk.1.2.2.2.2.2, ⟨hk.1.1, hk.1.2.1⟩⟩⟩⟩⟩)⟩
        have n7_ : Aside0 ((((w60.setCell ⟨gb365, 0, none⟩ (.int .i64 t359)).setCell ⟨gb365, 1, none⟩ (.int .i64 t360)).setCell ⟨gb365, 2, none⟩ (.slice Ao63 t361.length co63)).heap[gb333]? = some (.cells #[.int .i64 t323, .int .i64 t324, .slice Ao13 t325.length co13] 28 (0, 0))) := ⟨bk_ BK333.out⟩
        have n8_ : Aside0 ((((w60.setCell ⟨gb365, 0, none⟩ (.int .i64 t359)).setCell ⟨gb365, 1, none⟩ (.int .i64 t360)).setCell ⟨gb365, 2, none⟩ (.slice Ao63 t361.length co63)).heap[gb334]? = some (.cells #[.int .i64 t328, .int .i64 t329, .slice Ao15 t330.length co15] 28 (0, 0))) := ⟨bk_ BK334.out⟩
        have n9_ : Aside0 ((((w60.setCell ⟨gb365, 0, none⟩ (.int .i64 t359)).setCell ⟨gb365, 1, none⟩ (.int .i64 t360)).setCell ⟨gb365, 2, none⟩ (.slice Ao63 t361.length co63)).heap[gb341]? = some (.cells #[.int .i64 t335, .int .i64 t336, .slice Ao21 t337.length co21] 28 (0, 0))) := ⟨bk_ BK341.out⟩
        have n10_ : Aside0 ((((w60.setCell ⟨gb365, 0, none⟩ (.int .i64 t359)).setCell ⟨gb365, 1, none⟩ (.int .i64 t360)).setCell ⟨gb365, 2, none⟩ (.slice Ao63 t361.length co63)).heap[gb348]? = some (.cells #[.int .i64 t342, .int .i64 t343, .slice Ao30 t344.length co30] 28 (0, 0))) := ⟨bk_ BK348.out⟩
        have n11_ : Aside0 ((((w60.setCell ⟨gb365, 0, none⟩ (.int .i64 t359)).setCell ⟨gb365, 1, none⟩ (.int .i64 t360)).setCell ⟨gb365, 2, none⟩ (.slice Ao63 t361.length co63)).heap[gb365]? = some (.cells #[.int .i64 t359, .int .i64 t360, .slice Ao63 t361.length co63] 28 (0, 0))) := ⟨by (with_reducible repeat (first | refine blk_drewN ?_ _ | refine blk_drew ?_ | refine blk_alloc ?_ _)); refine blk_put (cs := #[.int .i64 t359, .int .i64 t360, .slice none 0 0]) ?_ 2 _ rfl; (with_reducible repeat (first | refine blk_drewN ?_ _ | refine blk_drew ?_ | refine blk_alloc ?_ _)); refine blk_put (cs := #[.int .i64 t359, .int .i64 0, .slice none 0 0]) ?_ 1 _ rfl; (with_reducible repeat (first | refine blk_drewN ?_ _ | refine blk_drew ?_ | refine blk_alloc ?_ _)); refine blk_put (cs := #[.int .i64 0, .int .i64 0, .slice none 0 0]) ?_ 0 _ rfl; (with_reducible repeat (first | refine blk_drewN ?_ _ | refine blk_drew ?_ | refine blk_alloc ?_ _)); exact BK365.out⟩
        have n12_ : Aside0 (Below w.heap.size w (((w60.setCell ⟨gb365, 0, none⟩ (.int .i64 t359)).setCell ⟨gb365, 1, none⟩ (.int .i64 t360)).setCell ⟨gb365, 2, none⟩ (.slice Ao63 t361.length co63))) := ⟨bb_ HB.out⟩
        (try clear HO_334002)
        (try clear HO_335002)
        (try clear HO_342002)
        (try clear HO_349002)
        (try clear HO353)
        (try clear HO358)
        (try clear HO363)
        (try clear BK333)
        (try clear BK334)
        (try clear BK341)
        (try clear BK348)
        (try clear BK365)
        (try clear HB)
        generalize (((w60.setCell ⟨gb365, 0, none⟩ (.int .i64 t359)).setCell ⟨gb365, 1, none⟩ (.int .i64 t360)).setCell ⟨gb365, 2, none⟩ (.slice Ao63 t361.length co63)) = w68 at n0_ n1_ n2_ n3_ n4_ n5_ n6_ n7_ n8_ n9_ n10_ n11_ n12_ ⊢
        have HO_334002 := n0_
        have HO_335002 := n1_
        have HO_342002 := n2_
        have HO_349002 := n3_
        have HO353 := n4_
        have HO358 := n5_
        have HO363 := n6_
        have BK333 := n7_
        have BK334 := n8_
        have BK341 := n9_
        have BK348 := n10_
        have BK365 := n11_
        have HB := n12_
        clear n0_ n1_ n2_ n3_ n4_ n5_ n6_ n7_ n8_ n9_ n10_ n11_ n12_
        have n0_ := am_ (Kd.R_drew HO_334002.out)
        have n1_ := am_ (Kd.R_drew HO_335002.out)
        have n2_ := am_ (Kd.R_drew HO_342002.out)
        have n3_ := am_ (Kd.R_drew HO_349002.out)
        have n4_ := am_ (Kd.R_drew HO353.out)
        have n5_ := am_ (Kd.R_drew HO358.out)
        have n6_ := am_ (Kd.R_drew HO363.out)
        have n7_ := am_ (blk_drew BK333.out)
        have n8_ := am_ (blk_drew BK334.out)
        have n9_ := am_ (blk_drew BK341.out)
        have n10_ := am_ (blk_drew BK348.out)
        have n11_ := am_ (blk_drew BK365.out)
        have n12_ := am_ (below_drew1 HB.out)
        clear HO_334002 HO_335002 HO_342002 HO_349002 HO353 HO358 HO363 BK333 BK334 BK341 BK348 BK365 HB; revert n0_ n1_ n2_ n3_ n4_ n5_ n6_ n7_ n8_ n9_ n10_ n11_ n12_; intro HO_334002 HO_335002 HO_342002 HO_349002 HO353 HO358 HO363 BK333 BK334 BK341 BK348 BK365 HB
        refine start_ (n := 9) (S := fun w' => w'.cell? ⟨gb365, 0, none⟩ = some (.int .i64 t359) ∧ w'.cell? ⟨gb365, 1, none⟩ = some (.int .i64 t360) ∧ w'.cell? ⟨gb365, 2, none⟩ = some (.slice Ao63 t361.length co63) ∧ w'.cell? ⟨gb341, 0, none⟩ = some (.int .i64 t335) ∧ w'.cell? ⟨gb341, 1, none⟩ = some (.int .i64 t336) ∧ w'.cell? ⟨gb341, 2, none⟩ = some (.slice Ao21 t337.length co21)) (ds := []) #[false, false, false, false, false, false, false, false, false] (by kernel_rfl) rfl rfl ⟨bc_ BK365 0, bc_ BK365 1, bc_ BK365 2, bc_ BK341 0, bc_ BK341 1, bc_ BK341 2⟩ (fun hHeld => ?_); refine with_tabW laws_FnProducts.tab11 laws_FnProducts.bits11 (fun HT_ HW_ => ?_)
        generalize w68.drew = w69 at HO_334002 HO_335002 HO_342002 HO_349002 HO353 HO358 HO363 BK333 BK334 BK341 BK348 BK365 HB hHeld ⊢
        refine pure_ (i := 0) (N := some 72) (v := ?_) (a' := ?_) #[true, false, false, false, false, false, false, false, false] rfl rfl (any_of HT_.out (by kernel_rfl)) (fun _ _ _ h => h) (Or.inl ⟨by rfl, ?_⟩) ?_ ?_
        rotate_left
        ·intro w'
         go_simp
         with_reducible rfl
        rotate_left
        ·simp only [Act.put, List.setIfInBounds_toArray, List.set_cons_zero, List.set_cons_succ, i64_w, i32_w]
         rfl
        refine pure_ (i := 1) (N := some 73) (v := ?_) (a' := ?_) #[true, true, false, false, false, false, false, false, false] rfl rfl (any_of HT_.out (by kernel_rfl)) (fun _ _ _ h => h) (Or.inl ⟨by rfl, ?_⟩) ?_ ?_
        rotate_left
        ·intro w'
         go_simp
         with_reducible rfl
        rotate_left
        ·simp only [Act.put, List.setIfInBounds_toArray, List.set_cons_zero, List.set_cons_succ, i64_w, i32_w]
         rfl
        refine pure_ (i := 2) (N := some 74) (v := ?_) (a' := ?_) #[true, true, true, false, false, false, false, false, false] rfl rfl (any_of HT_.out (by kernel_rfl)) (fun _ _ _ h => h) (Or.inl ⟨by rfl, ?_⟩) ?_ ?_
        rotate_left
        ·intro w'
         go_simp
         with_reducible rfl
        rotate_left
        ·simp only [Act.put, List.setIfInBounds_toArray, List.set_cons_zero, List.set_cons_succ, i64_w, i32_w]
         rfl
        refine take_ (i := 3) (N := some 75) (v := ?_) (a' := ?_) #[true, true, true, true, false, false, false, false, false] rfl rfl (take_ofW HT_.out HW_.out (by kernel_rfl)) (fun _ _ _ h => h) (Or.inl ⟨by rfl, ?_⟩) hHeld ?_ ?_
        rotate_left
        ·rintro w' ⟨s0, s1, s2, s3, s4, s5⟩
         go_simp
         with_reducible rfl
        rotate_left
        ·simp only [Act.put, List.setIfInBounds_toArray, List.set_cons_zero, List.set_cons_succ, i64_w, i32_w]
         rfl
        refine take_ (i := 4) (N := some 76) (v := ?_) (a' := ?_) #[true, true, true, true, true, false, false, false, false] rfl rfl (take_ofW HT_.out HW_.out (by kernel_rfl)) (fun _ _ _ h => h) (Or.inl ⟨by rfl, ?_⟩) hHeld ?_ ?_
        rotate_left
        ·rintro w' ⟨s0, s1, s2, s3, s4, s5⟩
         go_simp
         with_reducible rfl
        rotate_left
        ·simp only [Act.put, List.setIfInBounds_toArray, List.set_cons_zero, List.set_cons_succ, i64_w, i32_w]
         rfl
        refine one_ (i := 5) (N := some 77) #[true, true, true, true, true, true, false, false, false] rfl rfl (one_of HT_.out (by kernel_rfl)) (by decide) (fun K hK => ?_)
        refine goes_ Try.func15 (by kernel_rfl) rfl #[.agg #[.int .i64 t335, .int .i64 t336, .slice Ao21 t337.length co21]] (by rfl) rfl rfl lm_ ?_
        with_reducible refine (impl_Transpose.calls kj6 t335 t336 _ _ t337 t366 t367 t368 _ ?side1 ?side2 A66.out).mono ?_
        (case side1 => repeat (first | exact (Kd.R_reads' HO_342002.out).2.2 | (with_reducible refine Kd.C_alloc ?_ _) | (with_reducible refine Kd.C_drewN ?_ _) | (with_reducible refine Kd.C_drew ?_)))
        (case side2 => exact (Kd.R_reads' HO_342002.out).2.1)
        rintro e w70 ⟨v369, rfl, ho0, hb⟩
        refine ⟨_, rfl, ?_⟩
        have n0_ := am_ (Kd.R_elder' (rk_ HO_334002.out) (Kd.R_base ho0) hb)
        have n1_ := am_ (Kd.R_elder' (rk_ HO_335002.out) (Kd.R_base ho0) hb)
        have n2_ := am_ (Kd.R_elder' (rk_ HO_342002.out) (Kd.R_base ho0) hb)
        have n3_ := am_ (Kd.R_elder' (rk_ HO_349002.out) (Kd.R_base ho0) hb)
        have n4_ := am_ (Kd.R_elder' (rk_ HO353.out) (Kd.R_base ho0) hb)
        have n5_ := am_ (Kd.R_elder' (rk_ HO358.out) (Kd.R_base ho0) hb)
        have n6_ := am_ (Kd.R_elder' (rk_ HO363.out) (Kd.R_base ho0) hb)
        have n7_ := am_ (Kd.R_lower (Kd.R_new' (Kd.R_new' (Kd.R_new' (Kd.R_new' (Kd.R_new' (Kd.R_new' (Kd.R_new' ho0 (Kd.R_lt (rk_ HO_334002.out))) (Kd.R_lt (rk_ HO_335002.out))) (Kd.R_lt (rk_ HO_342002.out))) (Kd.R_lt (rk_ HO_349002.out))) (Kd.R_lt (rk_ HO353.out))) (Kd.R_lt (rk_ HO358.out))) (Kd.R_lt (rk_ HO363.out))) (below_size (bb_ HB.out)))
        have n8_ := am_ (bw_ BK333 hb)
        have n9_ := am_ (bw_ BK334 hb)
        have n10_ := am_ (bw_ BK341 hb)
        have n11_ := am_ (bw_ BK348 hb)
        have n12_ := am_ (bw_ BK365 hb)
        have n13_ := am_ (below_step (bb_ HB.out) hb)
        clear HO_334002 HO_335002 HO_342002 HO_349002 HO353 HO358 HO363 BK333 BK334 BK341 BK348 BK365 HB; revert n0_ n1_ n2_ n3_ n4_ n5_ n6_ n7_ n8_ n9_ n10_ n11_ n12_ n13_; intro HO_334002 HO_335002 HO_342002 HO_349002 HO353 HO358 HO363 HO370 BK333 BK334 BK341 BK348 BK365 HB
        (try clear hb)
        (try clear hb2)
        (try clear hk)
        (try clear hi)
        (try clear ho0)
        obtain ⟨Ao71, co71, eo71⟩ := Kd.R_slice HO370.out
        (first | subst eo71 | (injection eo71 with f1_ f2_ f3_; have f4_ := f1_.symm; have f5_ := f3_.symm; clear f1_ f2_ f3_; subst f4_; subst f5_))
        refine hK.out _ _ ⟨bc_ BK365 0, bc_ BK365 1, bc_ BK365 2, bc_ BK341 0, bc_ BK341 1, bc_ BK341 2⟩ (fun hHeld => ?_)
        clear hK K
        refine norm_ (a' := ?_) ?_ ?_
        rotate_left
        ·show Act.put _ (some 77) _ = _
         simp only [Act.put, List.setIfInBounds_toArray, List.set_cons_zero, List.set_cons_succ, i64_w, i32_w]
         rfl
        refine one_ (i := 6) (N := some 78) #[true, true, true, true, true, true, true, false, false] rfl rfl (one_of HT_.out (by kernel_rfl)) (by decide) (fun K hK => ?_)
        refine goes_ Try.func16 (by kernel_rfl) rfl #[.agg #[.int .i64 t359, .int .i64 t360, .slice Ao63 t361.length co63], .agg #[.int .i64 t366, .int .i64 t367, .slice Ao71 t368.length co71]] (by rfl) rfl rfl lm_ ?_
        with_reducible refine (laws_likeMatrix.calls kj6 t359 t360 _ _ t361 t366 t367 _ _ t368 t371 _ ?side1 ?side2 ?side3 ?side4 A67.out).mono ?_
        (case side1 => repeat (first | exact (Kd.R_reads' HO363.out).2.2 | (with_reducible refine Kd.C_alloc ?_ _) | (with_reducible refine Kd.C_drewN ?_ _) | (with_reducible refine Kd.C_drew ?_)))
        (case side2 => exact (Kd.R_reads' HO363.out).2.1)
        (case side3 => repeat (first | exact (Kd.R_reads' HO370.out).2.2 | (with_reducible refine Kd.C_alloc ?_ _) | (with_reducible refine Kd.C_drewN ?_ _) | (with_reducible refine Kd.C_drew ?_)))
        (case side4 => exact (Kd.R_reads' HO370.out).2.1)
        rintro e w72 ⟨rfl, hb⟩
        refine ⟨_, rfl, ?_⟩
        have n0_ := am_ (Kd.R_below (rk_ HO_334002.out) hb)
        have n1_ := am_ (Kd.R_below (rk_ HO_335002.out) hb)
        have n2_ := am_ (Kd.R_below (rk_ HO_342002.out) hb)
        have n3_ := am_ (Kd.R_below (rk_ HO_349002.out) hb)
        have n4_ := am_ (Kd.R_below (rk_ HO353.out) hb)
        have n5_ := am_ (Kd.R_below (rk_ HO358.out) hb)
        have n6_ := am_ (Kd.R_below (rk_ HO363.out) hb)
        have n7_ := am_ (Kd.R_below (rk_ HO370.out) hb)
        have n8_ := am_ (bw_ BK333 hb)
        have n9_ := am_ (bw_ BK334 hb)
        have n10_ := am_ (bw_ BK341 hb)
        have n11_ := am_ (bw_ BK348 hb)
        have n12_ := am_ (bw_ BK365 hb)
        have n13_ := am_ (below_step (bb_ HB.out) hb)
        clear HO_334002 HO_335002 HO_342002 HO_349002 HO353 HO358 HO363 HO370 BK333 BK334 BK341 BK348 BK365 HB; revert n0_ n1_ n2_ n3_ n4_ n5_ n6_ n7_ n8_ n9_ n10_ n11_ n12_ n13_; intro HO_334002 HO_335002 HO_342002 HO_349002 HO353 HO358 HO363 HO370 BK333 BK334 BK341 BK348 BK365 HB
        (try clear hb)
        (try clear hb2)
        (try clear hk)
        (try clear hi)
        refine hK.out _ _ ⟨bc_ BK365 0, bc_ BK365 1, bc_ BK365 2, bc_ BK341 0, bc_ BK341 1, bc_ BK341 2⟩ (fun hHeld => ?_)
        clear hK K
        refine norm_ (a' := ?_) ?_ ?_
        rotate_left
        ·show Act.put _ (some 78) _ = _
         simp only [Act.put, List.setIfInBounds_toArray, List.set_cons_zero, List.set_cons_succ, i64_w, i32_w]
         rfl
        refine pure_ (i := 7) (N := some 79) (v := ?_) (a' := ?_) #[true, true, true, true, true, true, true, true, false] rfl rfl (any_of HT_.out (by kernel_rfl)) (fun _ _ _ h => h) (Or.inl ⟨by rfl, ?_⟩) ?_ ?_
        rotate_left
        ·intro w'
         go_simp
         with_reducible rfl
        rotate_left
        ·simp only [Act.put, List.setIfInBounds_toArray, List.set_cons_zero, List.set_cons_succ, i64_w, i32_w]
         rfl
        refine pure_ (i := 8) (N := some 80) (v := ?_) (a' := ?_) #[true, true, true, true, true, true, true, true, true] rfl rfl (any_of HT_.out (by kernel_rfl)) (fun _ _ _ h => h) (Or.inl ⟨by rfl, ?_⟩) ?_ ?_
        rotate_left
        ·intro w'
         go_simp
         with_reducible rfl
        rotate_left
        ·simp only [Act.put, List.setIfInBounds_toArray, List.set_cons_zero, List.set_cons_succ, i64_w, i32_w]
         rfl
        refine done_ (done_of HT_.out (by kernel_rfl)) ?_
        try go_wp2
        go_meet
        case rel => exact ⟨_, (!t371), (by first | rfl | (simp; done) | (simp [*]; done)), H', ⟨by have := HJ6.out; first | omega | exact Nat.le_refl _⟩, ⟨rm_ HO_334002.out (fun _ hk => ⟨hk.1.1, ⟨hk.1.2.1, ⟨hk.1.2.2.1, hk.1.2.2.2.2.2⟩⟩⟩)⟩, ⟨rm_ HO_335002.out (fun _ hk => ⟨hk.1.1, ⟨hk.1.2.1, ⟨hk.1.2.2.1, hk.1.2.2.2.2.2⟩⟩⟩)⟩, ⟨rm_ HO_342002.out (fun _ hk => ⟨hk.1.1, ⟨hk.1.2.1, ⟨hk.1.2.2.1, hk.1.2.2.2.2.2⟩⟩⟩)⟩, ⟨rm_ HO_349002.out (fun _ hk => ⟨hk.1.1, ⟨hk.1.2.1, ⟨hk.1.2.2.1, hk.1.2.2.2.2.2⟩⟩⟩)⟩, ⟨rm_ HO363.out (fun _ hk => ⟨hk.1.1, ⟨hk.1.2.1, ⟨hk.1.2.2.1, hk.1.2.2.2.1⟩⟩⟩)⟩, ⟨bk_ BK333.out⟩, ⟨bk_ BK334.out⟩, ⟨bk_ BK341.out⟩, ⟨bk_ BK348.out⟩, ⟨bk_ BK365.out⟩, ⟨bb_ HB.out⟩⟩
       ·rw [if_neg c65] at H
        have c65b0 : (t364 == 0) = false := beq_eq_false_iff_ne.mpr c65
        have c65b1 : (t364 != 0) = true := bne_iff_ne.mpr c65
        (first | rw [c65b0] | (simp only [i64_w, i32_w]; rw [c65b0]) | skip)
        have H' := am_ H
        clear H
        try go_wp2
        have n0_ : Aside0 (Kd.R (Kd.int .i64) 2 (((w60.setCell ⟨gb365, 0, none⟩ (.int .i64 t359)).setCell ⟨gb365, 1, none⟩ (.int .i64 t360)).setCell ⟨gb365, 2, none⟩ (.slice Ao63 t361.length co63)) w.heap.size (fun k_ => some k_ ≠ (.slice Ao15 t330.length co15 : Value).ownBlock ∧ some k_ ≠ (.slice Ao21 t337.length co21 : Value).ownBlock ∧ some k_ ≠ (.slice Ao30 t344.length co30 : Value).ownBlock ∧ some k_ ≠ (v352 : Value).ownBlock ∧ some k_ ≠ (v357 : Value).ownBlock ∧ some k_ ≠ (.slice Ao63 t361.length co63 : Value).ownBlock) (.slice Ao13 t325.length co13) t325) := ⟨rm_ (Kd.R_far (p := ⟨gb365, 2, none⟩) (Kd.R_far (p := ⟨gb365, 1, none⟩) (Kd.R_far (p := ⟨gb365, 0, none⟩) (Kd.R_types HO_334002.out BK365.out (by decide)) (fun _ hk => hk.2) (.int .i64 t359)) (fun _ hk => hk.2) (.int .i64 t360)) (fun _ hk => hk.2) (.slice Ao63 t361.length co63)) (fun _ hk => ⟨hk.1.2.2.2.1, ⟨hk.1.2.2.2.2.1, ⟨hk.1.2.2.2.2.2, ⟨hk.1.1, ⟨hk.1.2.1, hk.1.2.2.1⟩⟩⟩⟩⟩)⟩
        have n1_ : Aside0 (Kd.R (Kd.int .i64) 2 (((w60.setCell ⟨gb365, 0, none⟩ (.int .i64 t359)).setCell ⟨gb365, 1, none⟩ (.int .i64 t360)).setCell ⟨gb365, 2, none⟩ (.slice Ao63 t361.length co63)) w.heap.size (fun k_ => some k_ ≠ (.slice Ao13 t325.length co13 : Value).ownBlock ∧ some k_ ≠ (.slice Ao21 t337.length co21 : Value).ownBlock ∧ some k_ ≠ (.slice Ao30 t344.length co30 : Value).ownBlock ∧ some k_ ≠ (v352 : Value).ownBlock ∧ some k_ ≠ (v357 : Value).ownBlock ∧ some k_ ≠ (.slice Ao63 t361.length co63 : Value).ownBlock) (.slice Ao15 t330.length co15) t330) := ⟨rm_ (Kd.R_far (p := ⟨gb365, 2, none⟩) (Kd.R_far (p := ⟨gb365, 1, none⟩) (Kd.R_far (p := ⟨gb365, 0, none⟩) (Kd.R_types HO_335002.out BK365.out (by decide)) (fun _ hk => hk.2) (.int .i64 t359)) (fun _ hk => hk.2) (.int .i64 t360)) (fun _ hk => hk.2) (.slice Ao63 t361.length co63)) (fun _ hk => ⟨hk.1.2.2.2.1, ⟨hk.1.2.2.2.2.1, ⟨hk.1.2.2.2.2.2, ⟨hk.1.1, ⟨hk.1.2.1, hk.1.2.2.1⟩⟩⟩⟩⟩)⟩
        have n2_ : Aside0 (Kd.R (Kd.int .i64) 2 (((w60.setCell ⟨gb365, 0, none⟩ (.int .i64 t359)).setCell ⟨gb365, 1, none⟩ (.int .i64 t360)).setCell ⟨gb365, 2, none⟩ (.slice Ao63 t361.length co63)) w.heap.size (fun k_ => some k_ ≠ (.slice Ao13 t325.length co13 : Value).ownBlock ∧ some k_ ≠ (.slice Ao15 t330.length co15 : Value).ownBlock ∧ some k_ ≠ (.slice Ao30 t344.length co30 : Value).ownBlock ∧ some k_ ≠ (v352 : Value).ownBlock ∧ some k_ ≠ (v357 : Value).ownBlock ∧ some k_ ≠ (.slice Ao63 t361.length co63 : Value).ownBlock) (.slice Ao21 t337.length co21) t337) := ⟨rm_ (Kd.R_far (p := ⟨gb365, 2, none⟩) (Kd.R_far (p := ⟨gb365, 1, none⟩) (Kd.R_far (p := ⟨gb365, 0, none⟩) (Kd.R_types HO_342002.out BK365.out (by decide)) (fun _ hk => hk.2) (.int .i64 t359)) (fun _ hk => hk.2) (.int .i64 t360)) (fun _ hk => hk.2) (.slice Ao63 t361.length co63)) (fun _ hk => ⟨hk.1.2.2.2.1, ⟨hk.1.2.2.2.2.1, ⟨hk.1.2.2.2.2.2, ⟨hk.1.1, ⟨hk.1.2.1, hk.1.2.2.1⟩⟩⟩⟩⟩)⟩
        have n3_ : Aside0 (Kd.R (Kd.int .i64) 2 (((w60.setCell ⟨gb365, 0, none⟩ (.int .i64 t359)).setCell ⟨gb365, 1, none⟩ (.int .i64 t360)).setCell ⟨gb365, 2, none⟩ (.slice Ao63 t361.length co63)) w.heap.size (fun k_ => some k_ ≠ (.slice Ao13 t325.length co13 : Value).ownBlock ∧ some k_ ≠ (.slice Ao15 t330.length co15 : Value).ownBlock ∧ some k_ ≠ (.slice Ao21 t337.length co21 : Value).ownBlock ∧ some k_ ≠ (v352 : Value).ownBlock ∧ some k_ ≠ (v357 : Value).ownBlock ∧ some k_ ≠ (.slice Ao63 t361.length co63 : Value).ownBlock) (.slice Ao30 t344.length co30) t344) := ⟨rm_ (Kd.R_far (p := ⟨gb365, 2, none⟩) (Kd.R_far (p := ⟨gb365, 1, none⟩) (Kd.R_far (p := ⟨gb365, 0, none⟩) (Kd.R_types HO_349002.out BK365.out (by decide)) (fun _ hk => hk.2) (.int .i64 t359)) (fun _ hk => hk.2) (.int .i64 t360)) (fun _ hk => hk.2) (.slice Ao63 t361.length co63)) (fun _ hk => ⟨hk.1.2.2.2.1, ⟨hk.1.2.2.2.2.1, ⟨hk.1.2.2.2.2.2, ⟨hk.1.1, ⟨hk.1.2.1, hk.1.2.2.1⟩⟩⟩⟩⟩)⟩
        have n4_ : Aside0 (Kd.R (Kd.int .i64) 2 (((w60.setCell ⟨gb365, 0, none⟩ (.int .i64 t359)).setCell ⟨gb365, 1, none⟩ (.int .i64 t360)).setCell ⟨gb365, 2, none⟩ (.slice Ao63 t361.length co63)) w.heap.size (fun k_ => some k_ ≠ (.slice Ao13 t325.length co13 : Value).ownBlock ∧ some k_ ≠ (.slice Ao15 t330.length co15 : Value).ownBlock ∧ some k_ ≠ (.slice Ao21 t337.length co21 : Value).ownBlock ∧ some k_ ≠ (.slice Ao30 t344.length co30 : Value).ownBlock ∧ some k_ ≠ (v357 : Value).ownBlock ∧ some k_ ≠ (.slice Ao63 t361.length co63 : Value).ownBlock) v352 t351) := ⟨rm_ (Kd.R_far (p := ⟨gb365, 2, none⟩) (Kd.R_far (p := ⟨gb365, 1, none⟩) (Kd.R_far (p := ⟨gb365, 0, none⟩) (Kd.R_types HO353.out BK365.out (by decide)) (fun _ hk => hk.2) (.int .i64 t359)) (fun _ hk => hk.2) (.int .i64 t360)) (fun _ hk => hk.2) (.slice Ao63 t361.length co63)) (fun _ hk => ⟨hk.1.2.2.1, ⟨hk.1.2.2.2.1, ⟨hk.1.2.2.2.2.1, ⟨hk.1.2.2.2.2.2, ⟨hk.1.1, hk.1.2.1⟩⟩⟩⟩⟩)⟩
        have n5_ : Aside0 (Kd.R (Kd.int .i64) 2 (((w60.setCell ⟨gb365, 0, none⟩ (.int .i64 t359)).setCell ⟨gb365, 1, none⟩ (.int .i64 t360)).setCell ⟨gb365, 2, none⟩ (.slice Ao63 t361.length co63)) w.heap.size (fun k_ => some k_ ≠ (.slice Ao13 t325.length co13 : Value).ownBlock ∧ some k_ ≠ (.slice Ao15 t330.length co15 : Value).ownBlock ∧ some k_ ≠ (.slice Ao21 t337.length co21 : Value).ownBlock ∧ some k_ ≠ (.slice Ao30 t344.length co30 : Value).ownBlock ∧ some k_ ≠ (v352 : Value).ownBlock ∧ some k_ ≠ (.slice Ao63 t361.length co63 : Value).ownBlock) v357 t356) := ⟨rm_ (Kd.R_far (p := ⟨gb365, 2, none⟩) (Kd.R_far (p := ⟨gb365, 1, none⟩) (Kd.R_far (p := ⟨gb365, 0, none⟩) (Kd.R_types HO358.out BK365.out (by decide)) (fun _ hk => hk.2) (.int .i64 t359)) (fun _ hk => hk.2) (.int .i64 t360)) (fun _ hk => hk.2) (.slice Ao63 t361.length co63)) (fun _ hk => ⟨hk.1.2.2.1, ⟨hk.1.2.2.2.1, ⟨hk.1.2.2.2.2.1, ⟨hk.1.2.2.2.2.2, ⟨hk.1.1, hk.1.2.1⟩⟩⟩⟩⟩)⟩
        have n6_ : Aside0 (Kd.R (Kd.int .i64) 2 (((w60.setCell ⟨gb365, 0, none⟩ (.int .i64 t359)).setCell ⟨gb365, 1, none⟩ (.int .i64 t360)).setCell ⟨gb365, 2, none⟩ (.slice Ao63 t361.length co63)) w.heap.size (fun k_ => some k_ ≠ (.slice Ao13 t325.length co13 : Value).ownBlock ∧ some k_ ≠ (.slice Ao15 t330.length co15 : Value).ownBlock ∧ some k_ ≠ (.slice Ao21 t337.length co21 : Value).ownBlock ∧ some k_ ≠ (.slice Ao30 t344.length co30 : Value).ownBlock ∧ some k_ ≠ (v352 : Value).ownBlock ∧ some k_ ≠ (v357 : Value).ownBlock) (.slice Ao63 t361.length co63) t361) := ⟨rm_ (Kd.R_far (p := ⟨gb365, 2, none⟩) (Kd.R_far (p := ⟨gb365, 1, none⟩) (Kd.R_far (p := ⟨gb365, 0, none⟩) (Kd.R_types HO363.out BK365.out (by decide)) (fun _ hk => hk.2) (.int .i64 t359)) (fun _ hk => hk.2) (.int .i64 t360)) (fun _ hk => hk.2) (.slice Ao63 t361.length co63)) (fun _ hk => ⟨hk.1.2.2.1, ⟨hk.1.2.2.2.1, ⟨hk.1.2.2.2.2.1, ⟨hk.1.2.2.2.2.2, ⟨hk.1.1, hk.1.2.1⟩⟩⟩⟩⟩)⟩
        have n7_ : Aside0 ((((w60.setCell ⟨gb365, 0, none⟩ (.int .i64 t359)).setCell ⟨gb365, 1, none⟩ (.int .i64 t360)).setCell ⟨gb365, 2, none⟩ (.slice Ao63 t361.length co63)).heap[gb333]? = some (.cells #[.int .i64 t323, .int .i64 t324, .slice Ao13 t325.length co13] 28 (0, 0))) := ⟨bk_ BK333.out⟩
        have n8_ : Aside0 ((((w60.setCell ⟨gb365, 0, none⟩ (.int .i64 t359)).setCell ⟨gb365, 1, none⟩ (.int .i64 t360)).setCell ⟨gb365, 2, none⟩ (.slice Ao63 t361.length co63)).heap[gb334]? = some (.cells #[.int .i64 t328, .int .i64 t329, .slice Ao15 t330.length co15] 28 (0, 0))) := ⟨bk_ BK334.out⟩
        have n9_ : Aside0 ((((w60.setCell ⟨gb365, 0, none⟩ (.int .i64 t359)).setCell ⟨gb365, 1, none⟩ (.int .i64 t360)).setCell ⟨gb365, 2, none⟩ (.slice Ao63 t361.length co63)).heap[gb341]? = some (.cells #[.int .i64 t335, .int .i64 t336, .slice Ao21 t337.length co21] 28 (0, 0))) := ⟨bk_ BK341.out⟩
        have n10_ : Aside0 ((((w60.setCell ⟨gb365, 0, none⟩ (.int .i64 t359)).setCell ⟨gb365, 1, none⟩ (.int .i64 t360)).setCell ⟨gb365, 2, none⟩ (.slice Ao63 t361.length co63)).heap[gb348]? = some (.cells #[.int .i64 t342, .int .i64 t343, .slice Ao30 t344.length co30] 28 (0, 0))) := ⟨bk_ BK348.out⟩
        have n11_ : Aside0 ((((w60.setCell ⟨gb365, 0, none⟩ (.int .i64 t359)).setCell ⟨gb365, 1, none⟩ (.int .i64 t360)).setCell ⟨gb365, 2, none⟩ (.slice Ao63 t361.length co63)).heap[gb365]? = some (.cells #[.int .i64 t359, .int .i64 t360, .slice Ao63 t361.length co63] 28 (0, 0))) := ⟨by (with_reducible repeat (first | refine blk_drewN ?_ _ | refine blk_drew ?_ | refine blk_alloc ?_ _)); refine blk_put (cs := #[.int .i64 t359, .int .i64 t360, .slice none 0 0]) ?_ 2 _ rfl; (with_reducible repeat (first | refine blk_drewN ?_ _ | refine blk_drew ?_ | refine blk_alloc ?_ _)); refine blk_put (cs := #[.int .i64 t359, .int .i64 0, .slice none 0 0]) ?_ 1 _ rfl; (with_reducible repeat (first | refine blk_drewN ?_ _ | refine blk_drew ?_ | refine blk_alloc ?_ _)); refine blk_put (cs := #[.int .i64 0, .int .i64 0, .slice none 0 0]) ?_ 0 _ rfl; (with_reducible repeat (first | refine blk_drewN ?_ _ | refine blk_drew ?_ | refine blk_alloc ?_ _)); exact BK365.out⟩
        have n12_ : Aside0 (Below w.heap.size w (((w60.setCell ⟨gb365, 0, none⟩ (.int .i64 t359)).setCell ⟨gb365, 1, none⟩ (.int .i64 t360)).setCell ⟨gb365, 2, none⟩ (.slice Ao63 t361.length co63))) := ⟨bb_ HB.out⟩
        (try clear HO_334002)
        (try clear HO_335002)
        (try clear HO_342002)
        (try clear HO_349002)
        (try clear HO353)
        (try clear HO358)
        (try clear HO363)
        (try clear BK333)
        (try clear BK334)
        (try clear BK341)
        (try clear BK348)
        (try clear BK365)
        (try clear HB)
        generalize (((w60.setCell ⟨gb365, 0, none⟩ (.int .i64 t359)).setCell ⟨gb365, 1, none⟩ (.int .i64 t360)).setCell ⟨gb365, 2, none⟩ (.slice Ao63 t361.length co63)) = w73 at n0_ n1_ n2_ n3_ n4_ n5_ n6_ n7_ n8_ n9_ n10_ n11_ n12_ ⊢
        have HO_334002 := n0_
        have HO_335002 := n1_
        have HO_342002 := n2_
        have HO_349002 := n3_
        have HO353 := n4_
        have HO358 := n5_
        have HO363 := n6_
        have BK333 := n7_
        have BK334 := n8_
        have BK341 := n9_
        have BK348 := n10_
        have BK365 := n11_
        have HB := n12_
        clear n0_ n1_ n2_ n3_ n4_ n5_ n6_ n7_ n8_ n9_ n10_ n11_ n12_
        have n0_ := am_ (Kd.R_drew HO_334002.out)
        have n1_ := am_ (Kd.R_drew HO_335002.out)
        have n2_ := am_ (Kd.R_drew HO_342002.out)
        have n3_ := am_ (Kd.R_drew HO_349002.out)
        have n4_ := am_ (Kd.R_drew HO353.out)
        have n5_ := am_ (Kd.R_drew HO358.out)
        have n6_ := am_ (Kd.R_drew HO363.out)
        have n7_ := am_ (blk_drew BK333.out)
        have n8_ := am_ (blk_drew BK334.out)
        have n9_ := am_ (blk_drew BK341.out)
        have n10_ := am_ (blk_drew BK348.out)
        have n11_ := am_ (blk_drew BK365.out)
        have n12_ := am_ (below_drew1 HB.out)
        clear HO_334002 HO_335002 HO_342002 HO_349002 HO353 HO358 HO363 BK333 BK334 BK341 BK348 BK365 HB; revert n0_ n1_ n2_ n3_ n4_ n5_ n6_ n7_ n8_ n9_ n10_ n11_ n12_; intro HO_334002 HO_335002 HO_342002 HO_349002 HO353 HO358 HO363 BK333 BK334 BK341 BK348 BK365 HB
        refine start_ (n := 9) (S := fun w' => True) (ds := []) #[false, false, false, false, false, false, false, false, false] (by kernel_rfl) rfl rfl trivial (fun hHeld => ?_); refine with_tabW laws_FnProducts.tab11 laws_FnProducts.bits11 (fun HT_ HW_ => ?_)
        generalize w73.drew = w74 at HO_334002 HO_335002 HO_342002 HO_349002 HO353 HO358 HO363 BK333 BK334 BK341 BK348 BK365 HB hHeld ⊢
        refine pure_ (i := 0) (N := some 72) (v := ?_) (a' := ?_) #[true, false, false, false, false, false, false, false, false] rfl rfl (any_of HT_.out (by kernel_rfl)) (fun _ _ _ h => h) (Or.inl ⟨by rfl, ?_⟩) ?_ ?_
        rotate_left
        ·intro w'
         go_simp
         with_reducible rfl
        rotate_left
        ·simp only [Act.put, List.setIfInBounds_toArray, List.set_cons_zero, List.set_cons_succ, i64_w, i32_w]
         rfl
        refine pure_ (i := 1) (N := some 73) (v := ?_) (a' := ?_) #[true, true, false, false, false, false, false, false, false] rfl rfl (any_of HT_.out (by kernel_rfl)) (fun _ _ _ h => h) (Or.inl ⟨by rfl, ?_⟩) ?_ ?_
        rotate_left
        ·intro w'
         go_simp
         with_reducible rfl
        rotate_left
        ·simp only [Act.put, List.setIfInBounds_toArray, List.set_cons_zero, List.set_cons_succ, i64_w, i32_w]
         rfl
        refine pure_ (i := 2) (N := some 74) (v := ?_) (a' := ?_) #[true, true, true, false, false, false, false, false, false] rfl rfl (any_of HT_.out (by kernel_rfl)) (fun _ _ _ h => h) (Or.inl ⟨by rfl, ?_⟩) ?_ ?_
        rotate_left
        ·intro w'
         go_simp
         with_reducible rfl
        rotate_left
        ·simp only [Act.put, List.setIfInBounds_toArray, List.set_cons_zero, List.set_cons_succ, i64_w, i32_w]
         rfl
        refine pure_ (i := 3) (N := some 75) (v := undef) (a' := ?_) #[true, true, true, true, false, false, false, false, false] rfl rfl (any_of HT_.out (by kernel_rfl)) (fun _ _ _ h => h) (Or.inr ⟨by rfl, rfl⟩) ?_ ?_
        rotate_left
        ·simp only [Act.put, List.setIfInBounds_toArray, List.set_cons_zero, List.set_cons_succ, i64_w, i32_w]
         rfl
        refine pure_ (i := 4) (N := some 76) (v := undef) (a' := ?_) #[true, true, true, true, true, false, false, false, false] rfl rfl (any_of HT_.out (by kernel_rfl)) (fun _ _ _ h => h) (Or.inr ⟨by rfl, rfl⟩) ?_ ?_
        rotate_left
        ·simp only [Act.put, List.setIfInBounds_toArray, List.set_cons_zero, List.set_cons_succ, i64_w, i32_w]
         rfl
        refine pure_ (i := 5) (N := some 77) (v := undef) (a' := ?_) #[true, true, true, true, true, true, false, false, false] rfl rfl (any_of HT_.out (by kernel_rfl)) (fun _ _ _ h => h) (Or.inr ⟨by rfl, rfl⟩) ?_ ?_
        rotate_left
        ·simp only [Act.put, List.setIfInBounds_toArray, List.set_cons_zero, List.set_cons_succ, i64_w, i32_w]
         rfl
        refine pure_ (i := 6) (N := some 78) (v := undef) (a' := ?_) #[true, true, true, true, true, true, true, false, false] rfl rfl (any_of HT_.out (by kernel_rfl)) (fun _ _ _ h => h) (Or.inr ⟨by rfl, rfl⟩) ?_ ?_
        rotate_left
        ·simp only [Act.put, List.setIfInBounds_toArray, List.set_cons_zero, List.set_cons_succ, i64_w, i32_w]
         rfl
        refine pure_ (i := 7) (N := some 79) (v := undef) (a' := ?_) #[true, true, true, true, true, true, true, true, false] rfl rfl (any_of HT_.out (by kernel_rfl)) (fun _ _ _ h => h) (Or.inr ⟨by rfl, rfl⟩) ?_ ?_
        rotate_left
        ·simp only [Act.put, List.setIfInBounds_toArray, List.set_cons_zero, List.set_cons_succ, i64_w, i32_w]
         rfl
        refine pure_ (i := 8) (N := some 80) (v := ?_) (a' := ?_) #[true, true, true, true, true, true, true, true, true] rfl rfl (any_of HT_.out (by kernel_rfl)) (fun _ _ _ h => h) (Or.inl ⟨by rfl, ?_⟩) ?_ ?_
        rotate_left
        ·intro w'
         go_simp
         with_reducible rfl
        rotate_left
        ·simp only [Act.put, List.setIfInBounds_toArray, List.set_cons_zero, List.set_cons_succ, i64_w, i32_w]
         rfl
        refine done_ (done_of HT_.out (by kernel_rfl)) ?_
        try go_wp2
        go_meet
        case rel => exact ⟨_, (true), (by first | rfl | (simp; done) | (simp [*]; done)), H', ⟨by have := HJ6.out; first | omega | exact Nat.le_refl _⟩, ⟨rm_ HO_334002.out (fun _ hk => ⟨hk.1, ⟨hk.2.1, ⟨hk.2.2.1, hk.2.2.2.2.2⟩⟩⟩)⟩, ⟨rm_ HO_335002.out (fun _ hk => ⟨hk.1, ⟨hk.2.1, ⟨hk.2.2.1, hk.2.2.2.2.2⟩⟩⟩)⟩, ⟨rm_ HO_342002.out (fun _ hk => ⟨hk.1, ⟨hk.2.1, ⟨hk.2.2.1, hk.2.2.2.2.2⟩⟩⟩)⟩, ⟨rm_ HO_349002.out (fun _ hk => ⟨hk.1, ⟨hk.2.1, ⟨hk.2.2.1, hk.2.2.2.2.2⟩⟩⟩)⟩, ⟨rm_ HO363.out (fun _ hk => ⟨hk.1, ⟨hk.2.1, ⟨hk.2.2.1, hk.2.2.2.1⟩⟩⟩)⟩, ⟨bk_ BK333.out⟩, ⟨bk_ BK334.out⟩, ⟨bk_ BK341.out⟩, ⟨bk_ BK348.out⟩, ⟨bk_ BK365.out⟩, ⟨bb_ HB.out⟩⟩
      case rest =>
       clear HC52
       try clear c1
       try clear p2
       try clear c6
       try clear c15
       try clear c16
       try clear c65
       try clear c65b0
       try clear c65b1
       obtain ⟨kq, x80_51, rfl, HA, HJ51, HO_334002, HO_335002, HO_342002, HO_349002, HO_366002, BK333, BK334, BK341, BK348, BK365, HB⟩ := hcut
       cases kq with
       | zero => exact absurd HA.out (by simp [laws_FnProducts.j1])
       | succ kj51 =>
        have H := HA.out
        clear HA
        simp only [laws_FnProducts.j1] at H
        by_cases c75 : x80_51 = true
        ·subst c75
         have H1 : (some false) = some r := by rw [if_pos rfl] at H; exact H
         clear H
         have H := H1
         clear H1
         exact absurd ((Option.some.inj H).trans HTRUE_.out) (by simp)
        ·replace c75 := Bool.eq_false_iff.mpr c75
         subst c75
         have H1 : ((impl_Determinant.f kj51 t323 t324 t325).bind fun bt372 => ((impl_Determinant.f kj51 t328 t329 t330).bind fun bt374 => ((impl_Determinant.f kj51 t335 t336 t337).bind fun bt376 => (if (wrap64 ((wrap64 (bt372.2 + bt374.2)) + bt376.2)) = 0 then (some (bt376.1 == (wrap64 (bt372.1 * bt374.1)))) else (some true))))) = some r := by rw [if_neg (show ¬ (false = true) by decide)] at H; exact H
         clear H
         have H := H1
         clear H1
         replace H := Option.bind_eq_some_iff.mp H
         obtain ⟨⟨t372, t373⟩, A760, H⟩ := H
         replace H : ((impl_Determinant.f kj51 t328 t329 t330).bind fun bt374 => ((impl_Determinant.f kj51 t335 t336 t337).bind fun bt376 => (if (wrap64 ((wrap64 (t373 + bt374.2)) + bt376.2)) = 0 then (some (bt376.1 == (wrap64 (t372 * bt374.1)))) else (some true)))) = some r := H
         have A76 := am_ A760
         clear A760
         replace H := Option.bind_eq_some_iff.mp H
         obtain ⟨⟨t374, t375⟩, A770, H⟩ := H
         replace H : ((impl_Determinant.f kj51 t335 t336 t337).bind fun bt376 => (if (wrap64 ((wrap64 (t373 + t375)) + bt376.2)) = 0 then (some (bt376.1 == (wrap64 (t372 * t374)))) else (some true))) = some r := H
         have A77 := am_ A770
         clear A770
         replace H := Option.bind_eq_some_iff.mp H
         obtain ⟨⟨t376, t377⟩, A780, H⟩ := H
         replace H : (if (wrap64 ((wrap64 (t373 + t375)) + t377)) = 0 then (some (t376 == (wrap64 (t372 * t374)))) else (some true)) = some r := H
         have A78 := am_ A780
         clear A780
         by_cases c79 : (wrap64 ((wrap64 (t373 + t375)) + t377)) = 0
         ·rw [if_pos c79] at H
          have c79b0 : ((wrap64 ((wrap64 (t373 + t375)) + t377)) == 0) = true := beq_iff_eq.mpr c79
          have c79b1 : ((wrap64 ((wrap64 (t373 + t375)) + t377)) != 0) = false := bne_eq_false_iff_eq.mpr c79
          clear c79
          obtain rfl := Option.some.inj H
          have hnb80 := NB333_334.out
          have hnc80 := NB334_333.out
          have hnb81 := NB333_341.out
          have hnc81 := NB341_333.out
          have hnb82 := NB333_348.out
          have hnc82 := NB348_333.out
          have hnb83 := NB333_365.out
          have hnc83 := NB365_333.out
          have hcz84_0 : wc.cell? ⟨gb333, 0, none⟩ = some (.int .i64 t323) := bc_ BK333 0
          have hcz84_1 : wc.cell? ⟨gb333, 1, none⟩ = some (.int .i64 t324) := bc_ BK333 1
          have hcz84_2 : wc.cell? ⟨gb333, 2, none⟩ = some (.slice Ao13 t325.length co13) := bc_ BK333 2
          have hfz84_0 := blk_frozen BK333.out 0
          have hfz84_1 := blk_frozen BK333.out 1
          have hfz84_2 := blk_frozen BK333.out 2
          go_wp2_with (first | ((with_reducible refine gate_callee (f := 9) rfl ?_); refine goesL_ (some 83) rfl rfl Try.func9 (by kernel_rfl) rfl #[.agg #[.int .i64 t323, .int .i64 t324, .slice Ao13 t325.length co13]] rfl lm_ ?_; (with_reducible refine (impl_Determinant.calls kj51 t323 t324 _ _ t325 t372 t373 _ ?side1 ?side2 A76.out).mono ?_); (case side1 => repeat (first | exact (Kd.R_reads' HO_334002.out).2.2 | (with_reducible refine Kd.C_alloc ?_ _) | (with_reducible refine Kd.C_drewN ?_ _) | (with_reducible refine Kd.C_drew ?_))); (case side2 => exact (Kd.R_reads' HO_334002.out).2.1); rintro e w85 ⟨rfl, hb⟩; refine ⟨_, rfl, ?_⟩; have n0_ := am_ (Kd.R_below (rk_ HO_334002.out) hb); have n1_ := am_ (Kd.R_below (rk_ HO_335002.out) hb); have n2_ := am_ (Kd.R_below (rk_ HO_342002.out) hb); have n3_ := am_ (Kd.R_below (rk_ HO_349002.out) hb); have n4_ := am_ (Kd.R_below (rk_ HO_366002.out) hb); have n5_ := am_ (bw_ BK333 hb); have n6_ := am_ (bw_ BK334 hb); have n7_ := am_ (bw_ BK341 hb); have n8_ := am_ (bw_ BK348 hb); have n9_ := am_ (bw_ BK365 hb); have n10_ := am_ (below_step (bb_ HB.out) hb); clear HO_334002 HO_335002 HO_342002 HO_349002 HO_366002 BK333 BK334 BK341 BK348 BK365 HB; revert n0_ n1_ n2_ n3_ n4_ n5_ n6_ n7_ n8_ n9_ n10_; intro HO_334002 HO_335002 HO_342002 HO_349002 HO_366002 BK333 BK334 BK341 BK348 BK365 HB; (try clear hb); (try clear hb2); (try clear hk); (try clear hi); have hnb86 := NB334_341.out; have hnc86 := NB341_334.out; have hnb87 := NB334_348.out; have hnc87 := NB348_334.out; have hnb88 := NB334_365.out; have hnc88 := NB365_334.out; have hcz89_0 : w85.cell? ⟨gb334, 0, none⟩ = some (.int .i64 t328) := bc_ BK334 0; have hcz89_1 : w85.cell? ⟨gb334, 1, none⟩ = some (.int .i64 t329) := bc_ BK334 1; have hcz89_2 : w85.cell? ⟨gb334, 2, none⟩ = some (.slice Ao15 t330.length co15) := bc_ BK334 2; have hfz89_0 := blk_frozen BK334.out 0; have hfz89_1 := blk_frozen BK334.out 1; have hfz89_2 := blk_frozen BK334.out 2) | ((with_reducible refine gate_callee (f := 9) rfl ?_); refine goesL_ (some 88) rfl rfl Try.func9 (by kernel_rfl) rfl #[.agg #[.int .i64 t328, .int .i64 t329, .slice Ao15 t330.length co15]] rfl lm_ ?_; (with_reducible refine (impl_Determinant.calls kj51 t328 t329 _ _ t330 t374 t375 _ ?side1 ?side2 A77.out).mono ?_); (case side1 => repeat (first | exact (Kd.R_reads' HO_335002.out).2.2 | (with_reducible refine Kd.C_alloc ?_ _) | (with_reducible refine Kd.C_drewN ?_ _) | (with_reducible refine Kd.C_drew ?_))); (case side2 => exact (Kd.R_reads' HO_335002.out).2.1); rintro e w90 ⟨rfl, hb⟩; refine ⟨_, rfl, ?_⟩; have n0_ := am_ (Kd.R_below (rk_ HO_334002.out) hb); have n1_ := am_ (Kd.R_below (rk_ HO_335002.out) hb); have n2_ := am_ (Kd.R_below (rk_ HO_342002.out) hb); have n3_ := am_ (Kd.R_below (rk_ HO_349002.out) hb); have n4_ := am_ (Kd.R_below (rk_ HO_366002.out) hb); have n5_ := am_ (bw_ BK333 hb); have n6_ := am_ (bw_ BK334 hb); have n7_ := am_ (bw_ BK341 hb); have n8_ := am_ (bw_ BK348 hb); have n9_ := am_ (bw_ BK365 hb); have n10_ := am_ (below_step (bb_ HB.out) hb); clear HO_334002 HO_335002 HO_342002 HO_349002 HO_366002 BK333 BK334 BK341 BK348 BK365 HB; revert n0_ n1_ n2_ n3_ n4_ n5_ n6_ n7_ n8_ n9_ n10_; intro HO_334002 HO_335002 HO_342002 HO_349002 HO_366002 BK333 BK334 BK341 BK348 BK365 HB; (try clear hb); (try clear hb2); (try clear hk); (try clear hi); have hnb91 := NB341_348.out; have hnc91 := NB348_341.out; have hnb92 := NB341_365.out; have hnc92 := NB365_341.out; have hcz93_0 : w90.cell? ⟨gb341, 0, none⟩ = some (.int .i64 t335) := bc_ BK341 0; have hcz93_1 : w90.cell? ⟨gb341, 1, none⟩ = some (.int .i64 t336) := bc_ BK341 1; have hcz93_2 : w90.cell? ⟨gb341, 2, none⟩ = some (.slice Ao21 t337.length co21) := bc_ BK341 2; have hfz93_0 := blk_frozen BK341.out 0; have hfz93_1 := blk_frozen BK341.out 1; have hfz93_2 := blk_frozen BK341.out 2) | ((with_reducible refine gate_callee (f := 9) rfl ?_); refine goesL_ (some 93) rfl rfl Try.func9 (by kernel_rfl) rfl #[.agg #[.int .i64 t335, .int .i64 t336, .slice Ao21 t337.length co21]] rfl lm_ ?_; (with_reducible refine (impl_Determinant.calls kj51 t335 t336 _ _ t337 t376 t377 _ ?side1 ?side2 A78.out).mono ?_); (case side1 => repeat (first | exact (Kd.R_reads' HO_342002.out).2.2 | (with_reducible refine Kd.C_alloc ?_ _) | (with_reducible refine Kd.C_drewN ?_ _) | (with_reducible refine Kd.C_drew ?_))); (case side2 => exact (Kd.R_reads' HO_342002.out).2.1); rintro e w94 ⟨rfl, hb⟩; refine ⟨_, rfl, ?_⟩; have n0_ := am_ (Kd.R_below (rk_ HO_334002.out) hb); have n1_ := am_ (Kd.R_below (rk_ HO_335002.out) hb); have n2_ := am_ (Kd.R_below (rk_ HO_342002.out) hb); have n3_ := am_ (Kd.R_below (rk_ HO_349002.out) hb); have n4_ := am_ (Kd.R_below (rk_ HO_366002.out) hb); have n5_ := am_ (bw_ BK333 hb); have n6_ := am_ (bw_ BK334 hb); have n7_ := am_ (bw_ BK341 hb); have n8_ := am_ (bw_ BK348 hb); have n9_ := am_ (bw_ BK365 hb); have n10_ := am_ (below_step (bb_ HB.out) hb); clear HO_334002 HO_335002 HO_342002 HO_349002 HO_366002 BK333 BK334 BK341 BK348 BK365 HB; revert n0_ n1_ n2_ n3_ n4_ n5_ n6_ n7_ n8_ n9_ n10_; intro HO_334002 HO_335002 HO_342002 HO_349002 HO_366002 BK333 BK334 BK341 BK348 BK365 HB; (try clear hb); (try clear hb2); (try clear hk); (try clear hi)))
          go_ret
          exact ⟨by first | rfl | (simp [errW_none, errW_some] <;> rfl) | (simp [*, errW_none, errW_some] <;> rfl), bb_ HB.out⟩
         ·rw [if_neg c79] at H
          have c79b0 : ((wrap64 ((wrap64 (t373 + t375)) + t377)) == 0) = false := beq_eq_false_iff_ne.mpr c79
          have c79b1 : ((wrap64 ((wrap64 (t373 + t375)) + t377)) != 0) = true := bne_iff_ne.mpr c79
          obtain rfl := Option.some.inj H
          have hnb95 := NB333_334.out
          have hnc95 := NB334_333.out
          have hnb96 := NB333_341.out
          have hnc96 := NB341_333.out
          have hnb97 := NB333_348.out
          have hnc97 := NB348_333.out
          have hnb98 := NB333_365.out
          have hnc98 := NB365_333.out
          have hcz99_0 : wc.cell? ⟨gb333, 0, none⟩ = some (.int .i64 t323) := bc_ BK333 0
          have hcz99_1 : wc.cell? ⟨gb333, 1, none⟩ = some (.int .i64 t324) := bc_ BK333 1
          have hcz99_2 : wc.cell? ⟨gb333, 2, none⟩ = some (.slice Ao13 t325.length co13) := bc_ BK333 2
          have hfz99_0 := blk_frozen BK333.out 0
          have hfz99_1 := blk_frozen BK333.out 1
          have hfz99_2 := blk_frozen BK333.out 2
          go_wp2_with (first | ((with_reducible refine gate_callee (f := 9) rfl ?_); refine goesL_ (some 83) rfl rfl Try.func9 (by kernel_rfl) rfl #[.agg #[.int .i64 t323, .int .i64 t324, .slice Ao13 t325.length co13]] rfl lm_ ?_; (with_reducible refine (impl_Determinant.calls kj51 t323 t324 _ _ t325 t372 t373 _ ?side1 ?side2 A76.out).mono ?_); (case side1 => repeat (first | exact (Kd.R_reads' HO_334002.out).2.2 | (with_reducible refine Kd.C_alloc ?_ _) | (with_reducible refine Kd.C_drewN ?_ _) | (with_reducible refine Kd.C_drew ?_))); (case side2 => exact (Kd.R_reads' HO_334002.out).2.1); rintro e w100 ⟨rfl, hb⟩; refine ⟨_, rfl, ?_⟩; have n0_ := am_ (Kd.R_below (rk_ HO_334002.out) hb); have n1_ := am_ (Kd.R_below (rk_ HO_335002.out) hb); have n2_ := am_ (Kd.R_below (rk_ HO_342002.out) hb); have n3_ := am_ (Kd.R_below (rk_ HO_349002.out) hb); have n4_ := am_ (Kd.R_below (rk_ HO_366002.out) hb); have n5_ := am_ (bw_ BK333 hb); have n6_ := am_ (bw_ BK334 hb); have n7_ := am_ (bw_ BK341 hb); have n8_ := am_ (bw_ BK348 hb); have n9_ := am_ (bw_ BK365 hb); have n10_ := am_ (below_step (bb_ HB.out) hb); clear HO_334002 HO_335002 HO_342002 HO_349002 HO_366002 BK333 BK334 BK341 BK348 BK365 HB; revert n0_ n1_ n2_ n3_ n4_ n5_ n6_ n7_ n8_ n9_ n10_; intro HO_334002 HO_335002 HO_342002 HO_349002 HO_366002 BK333 BK334 BK341 BK348 BK365 HB; (try clear hb); (try clear hb2); (try clear hk); (try clear hi); have hnb101 := NB334_341.out; have hnc101 := NB341_334.out; have hnb102 := NB334_348.out; have hnc102 := NB348_334.out; have hnb103 := NB334_365.out; have hnc103 := NB365_334.out; have hcz104_0 : w100.cell? ⟨gb334, 0, none⟩ = some (.int .i64 t328) := bc_ BK334 0; have hcz104_1 : w100.cell? ⟨gb334, 1, none⟩ = some (.int .i64 t329) := bc_ BK334 1; have hcz104_2 : w100.cell? ⟨gb334, 2, none⟩ = some (.slice Ao15 t330.length co15) := bc_ BK334 2; have hfz104_0 := blk_frozen BK334.out 0; have hfz104_1 := blk_frozen BK334.out 1; have hfz104_2 := blk_frozen BK334.out 2) | ((with_reducible refine gate_callee (f := 9) rfl ?_); refine goesL_ (some 88) rfl rfl Try.func9 (by kernel_rfl) rfl #[.agg #[.int .i64 t328, .int .i64 t329, .slice Ao15 t330.length co15]] rfl lm_ ?_; (with_reducible refine (impl_Determinant.calls kj51 t328 t329 _ _ t330 t374 t375 _ ?side1 ?side2 A77.out).mono ?_); (case side1 => repeat (first | exact (Kd.R_reads' HO_335002.out).2.2 | (with_reducible refine Kd.C_alloc ?_ _) | (with_reducible refine Kd.C_drewN ?_ _) | (with_reducible refine Kd.C_drew ?_))); (case side2 => exact (Kd.R_reads' HO_335002.out).2.1); rintro e w105 ⟨rfl, hb⟩; refine ⟨_, rfl, ?_⟩; have n0_ := am_ (Kd.R_below (rk_ HO_334002.out) hb); have n1_ := am_ (Kd.R_below (rk_ HO_335002.out) hb); have n2_ := am_ (Kd.R_below (rk_ HO_342002.out) hb); have n3_ := am_ (Kd.R_below (rk_ HO_349002.out) hb); have n4_ := am_ (Kd.R_below (rk_ HO_366002.out) hb); have n5_ := am_ (bw_ BK333 hb); have n6_ := am_ (bw_ BK334 hb); have n7_ := am_ (bw_ BK341 hb); have n8_ := am_ (bw_ BK348 hb); have n9_ := am_ (bw_ BK365 hb); have n10_ := am_ (below_step (bb_ HB.out) hb); clear HO_334002 HO_335002 HO_342002 HO_349002 HO_366002 BK333 BK334 BK341 BK348 BK365 HB; revert n0_ n1_ n2_ n3_ n4_ n5_ n6_ n7_ n8_ n9_ n10_; intro HO_334002 HO_335002 HO_342002 HO_349002 HO_366002 BK333 BK334 BK341 BK348 BK365 HB; (try clear hb); (try clear hb2); (try clear hk); (try clear hi); have hnb106 := NB341_348.out; have hnc106 := NB348_341.out; have hnb107 := NB341_365.out; have hnc107 := NB365_341.out; have hcz108_0 : w105.cell? ⟨gb341, 0, none⟩ = some (.int .i64 t335) := bc_ BK341 0; have hcz108_1 : w105.cell? ⟨gb341, 1, none⟩ = some (.int .i64 t336) := bc_ BK341 1; have hcz108_2 : w105.cell? ⟨gb341, 2, none⟩ = some (.slice Ao21 t337.length co21) := bc_ BK341 2; have hfz108_0 := blk_frozen BK341.out 0; have hfz108_1 := blk_frozen BK341.out 1; have hfz108_2 := blk_frozen BK341.out 2) | ((with_reducible refine gate_callee (f := 9) rfl ?_); refine goesL_ (some 93) rfl rfl Try.func9 (by kernel_rfl) rfl #[.agg #[.int .i64 t335, .int .i64 t336, .slice Ao21 t337.length co21]] rfl lm_ ?_; (with_reducible refine (impl_Determinant.calls kj51 t335 t336 _ _ t337 t376 t377 _ ?side1 ?side2 A78.out).mono ?_); (case side1 => repeat (first | exact (Kd.R_reads' HO_342002.out).2.2 | (with_reducible refine Kd.C_alloc ?_ _) | (with_reducible refine Kd.C_drewN ?_ _) | (with_reducible refine Kd.C_drew ?_))); (case side2 => exact (Kd.R_reads' HO_342002.out).2.1); rintro e w109 ⟨rfl, hb⟩; refine ⟨_, rfl, ?_⟩; have n0_ := am_ (Kd.R_below (rk_ HO_334002.out) hb); have n1_ := am_ (Kd.R_below (rk_ HO_335002.out) hb); have n2_ := am_ (Kd.R_below (rk_ HO_342002.out) hb); have n3_ := am_ (Kd.R_below (rk_ HO_349002.out) hb); have n4_ := am_ (Kd.R_below (rk_ HO_366002.out) hb); have n5_ := am_ (bw_ BK333 hb); have n6_ := am_ (bw_ BK334 hb); have n7_ := am_ (bw_ BK341 hb); have n8_ := am_ (bw_ BK348 hb); have n9_ := am_ (bw_ BK365 hb); have n10_ := am_ (below_step (bb_ HB.out) hb); clear HO_334002 HO_335002 HO_342002 HO_349002 HO_366002 BK333 BK334 BK341 BK348 BK365 HB; revert n0_ n1_ n2_ n3_ n4_ n5_ n6_ n7_ n8_ n9_ n10_; intro HO_334002 HO_335002 HO_342002 HO_349002 HO_366002 BK333 BK334 BK341 BK348 BK365 HB; (try clear hb); (try clear hb2); (try clear hk); (try clear hi)))
          go_ret
          exact ⟨by first | rfl | (simp [errW_none, errW_some] <;> rfl) | (simp [*, errW_none, errW_some] <;> rfl), bb_ HB.out⟩
     ·rw [if_neg c48] at H
      have c48b0 : (t340 == 0) = false := beq_eq_false_iff_ne.mpr c48
      have c48b1 : (t340 != 0) = true := bne_iff_ne.mpr c48
      by_cases c110 : t335 = 0
      ·rw [if_pos c110] at H
       have c110b0 : (t335 == 0) = true := beq_iff_eq.mpr c110
       have c110b1 : (t335 != 0) = false := bne_eq_false_iff_eq.mpr c110
       clear c110
       obtain rfl := Option.some.inj H
       have hnb111 := NB341_333.out
       have hnc111 := NB333_341.out
       have hnb112 := NB341_334.out
       have hnc112 := NB334_341.out
       have hnb113 := NB341_348.out
       have hnc113 := NB348_341.out
       have hcz114_0 : wc.cell? ⟨gb341, 0, none⟩ = some (.int .i64 t335) := bc_ BK341 0
       have hcz114_1 : wc.cell? ⟨gb341, 1, none⟩ = some (.int .i64 t336) := bc_ BK341 1
       have hcz114_2 : wc.cell? ⟨gb341, 2, none⟩ = some (.slice Ao21 t337.length co21) := bc_ BK341 2
       have hfz114_0 := blk_frozen BK341.out 0
       have hfz114_1 := blk_frozen BK341.out 1
       have hfz114_2 := blk_frozen BK341.out 2
       go_wp2
       go_ret
       exact ⟨by first | rfl | (simp [errW_none, errW_some] <;> rfl) | (simp [*, errW_none, errW_some] <;> rfl), bb_ HB.out⟩
      ·rw [if_neg c110] at H
       have c110b0 : (t335 == 0) = false := beq_eq_false_iff_ne.mpr c110
       have c110b1 : (t335 != 0) = true := bne_iff_ne.mpr c110
       exact absurd ((Option.some.inj H).trans HTRUE_.out) (by simp)

/-- THE ONE PURE STATEMENT of laws_FnProducts: yours. -/
def laws_FnProducts.Pure : Prop := ∀ (l0 : List Int), l0.length ≤ maxLen → l0.length * 1 ≤ 140737488351232 → (∀ x ∈ l0, (Lit.int .u8 x).wf = true) → ∃ k, laws_FnProducts.f k l0 = some true
theorem laws_FnProducts.walk (P : laws_FnProducts.Pure) (a0 : Option Addr) (len0 cap0 : Nat) (z0 : List Int) (w : World) (w0 : (a0 = none ∧ len0 = 0 ∧ cap0 = 0 ∧ z0 = []) ∨ ∃ x, a0 = some x ∧ len0 ≤ cap0 ∧ cap0 ≤ maxLen ∧ z0.length = cap0 ∧ (∀ i, i < z0.length → w.cell? (x.add i) = some (.int .u8 (z0.getD i 0))) ∧ ∀ n ∈ z0, (Lit.int .u8 n).wf = true) (y0 : len0 * 1 ≤ 140737488351232) :
  Calls Try.prog 4 #[.slice a0 len0 cap0] w fun e w' => e = .returned (.bool true) ∧ Below w.heap.size w w' := by
 obtain ⟨l0, rfl, hr0, hm0, hw0, hc0⟩ := ReadsInt.ofRowC w0
 obtain ⟨k, h⟩ := P l0 hm0 y0 hw0
 refine (laws_FnProducts.calls k _ _ l0 true w (Kd.C_of_reads (d := (0 : Int)) (h1 := fun _ => rfl) hr0) hc0 h ⟨rfl⟩).mono ?_
 rintro e w' ⟨rfl, hd⟩
 exact ⟨rfl, hd⟩

end Go.Proofs.Ytifbfloifdkacaa.PFnProducts
