/- Written by this session's program out of the kit's print and this session's contracts. -/
import Derived.Test.YtkfblcpiflbkaaaPFnExactMultiplyMatricesx0
import Derived.Test.YtkfblcpiflbkaaaPFnExactMultiplyMatricesx1
import Derived.Test.YtkfblcpiflbkaaaPFnExactMultiplyMatricesx4
import Derived.Test.YtkfblcpiflbkaaaPFnExactMultiplyMatricesx6
namespace Go.Proofs.Ytkfblcpiflbkaaa.PFnExactMultiplyMatrices
open Go.RowKit Go.Proofs.YtkfblcpiflbkaaaW.PrintWords Go.Proofs.YtkfblcpiflbkaaaW.PrintLast Go.Proofs.YtkfblcpiflbkaaaW.PrintMore
attribute [local go_sem] max2_int min2_int max_two min_two max_three min_three max_four min_four   -- for this text's walks alone
set_option linter.unusedVariables false
set_option linter.unusedSimpArgs false

/-! ### laws_FnExactMultiplyMatrices: function 8 -/
mutual
def laws_FnExactMultiplyMatrices.j0 : Nat → Int → Int → Bool → Int → Int → List Int → Int → Int → List Int → Int → Int → List Int → Int → Int → List Int → Int → Int → List Int → Int → Int → List Int → Option (Bool)
 | 0, _, _, _, _, _, _, _, _, _, _, _, _, _, _, _, _, _, _, _, _, _ => none
 | k + 1, x7, x11, x53, x197000, x197001, x197002, x198000, x198001, x198002, x217000, x217001, x217002, x223000, x223001, x223002, x229000, x229001, x229002, x236000, x236001, x236002 => if x53 = true then (some false) else ((laws_toMatrix.f k x197000 x197001 x197002).bind fun bt237 => ((laws_eqMatrix.f k x223000 x223001 x223002 bt237.1 bt237.2.1 bt237.2.2).bind fun t242 => (if t242 = true then ((laws_toMatrix.f k x198000 x198001 x198002).bind fun bt243 => ((laws_eqMatrix.f k x229000 x229001 x229002 bt243.1 bt243.2.1 bt243.2.2).bind fun t248 => (if t248 = true then ((laws_markMatrix.f k x223000 x223001 x223002 1).bind fun bt249 => ((laws_markMatrix.f k x229000 x229001 x229002 bt249.1).bind fun bt251 => (if bt251.1 < 0 then (laws_FnExactMultiplyMatrices.j1 k x7 true x197000 x197001 x197002 x198000 x198001 x198002 x217000 x217001 x217002 x236000 x236001 x236002) else ((laws_eqMatrix.f k x236000 x236001 x236002 x217000 x217001 x217002).bind fun t253 => (if t253 = true then (laws_FnExactMultiplyMatrices.j1 k x7 (x11 != x7) x197000 x197001 x197002 x198000 x198001 x198002 x217000 x217001 x217002 x236000 x236001 x236002) else (laws_FnExactMultiplyMatrices.j1 k x7 true x197000 x197001 x197002 x198000 x198001 x198002 x217000 x217001 x217002 x236000 x236001 x236002)))))) else (some false)))) else (some false))))
def laws_FnExactMultiplyMatrices.j1 : Nat → Int → Bool → Int → Int → List Int → Int → Int → List Int → Int → Int → List Int → Int → Int → List Int → Option (Bool)
 | 0, _, _, _, _, _, _, _, _, _, _, _, _, _, _ => none
 | k + 1, x7, x82, x197000, x197001, x197002, x198000, x198001, x198002, x217000, x217001, x217002, x236000, x236001, x236002 => if x82 = true then (some false) else ((laws_markMatrix.f k x236000 x236001 x236002 1).bind fun bt254 => ((laws_heldMatrix.f k x236000 x236001 bt254.2 1).bind fun t256 => (if t256 < 0 then (some false) else (if t256 = bt254.1 then ((laws_toMatrix.f k x197000 x197001 x197002).bind fun bt257 => ((laws_toMatrix.f k x198000 x198001 x198002).bind fun bt262 => ((impl_MultiplyMatrices.f k bt257.1 bt257.2.1 bt257.2.2 bt262.1 bt262.2.1 bt262.2.2).bind fun bt267 => ((laws_eqMatrix.f k bt267.1 bt267.2.1 bt267.2.2.1 x217000 x217001 x217002).bind fun t274 => (if t274 = true then (laws_FnExactMultiplyMatrices.j2 k bt254.1 (bt267.2.2.2 != x7) x236000 x236001 bt254.2) else (laws_FnExactMultiplyMatrices.j2 k bt254.1 true x236000 x236001 bt254.2)))))) else (some false)))))
def laws_FnExactMultiplyMatrices.j2 : Nat → Int → Bool → Int → Int → List Int → Option (Bool)
 | 0, _, _, _, _, _ => none
 | k + 1, x13, x110, x236000, x236001, x236002 => if x110 = true then (some false) else ((laws_heldMatrix.f k x236000 x236001 x236002 1).bind fun t275 => (if t275 < 0 then (some false) else (if t275 = x13 then (some true) else (some false))))
end
def laws_FnExactMultiplyMatrices.f (k : Nat) (a0_0 : Int) (a0_1 : Int) (l0_2 : List Int) (a1_0 : Int) (a1_1 : Int) (l1_2 : List Int) : Option (Bool) := (laws_szMatrix.f a0_0 a0_1 l0_2 1048576).bind fun t198 => (if t198 < 0 then (some true) else ((laws_szMatrix.f a1_0 a1_1 l1_2 t198).bind fun t199 => (if t199 < 0 then (some true) else ((laws_toMatrix.f k a0_0 a0_1 l0_2).bind fun bt200 => ((laws_toMatrix.f k a1_0 a1_1 l1_2).bind fun bt205 => ((spec_MultiplyMatrices.f k bt200.1 bt200.2.1 bt200.2.2 bt205.1 bt205.2.1 bt205.2.2).bind fun bt210 => ((laws_toMatrix.f k a0_0 a0_1 l0_2).bind fun bt217 => ((laws_toMatrix.f k a1_0 a1_1 l1_2).bind fun bt223 => ((impl_MultiplyMatrices.f k bt217.1 bt217.2.1 bt217.2.2 bt223.1 bt223.2.1 bt223.2.2).bind fun bt229 => ((laws_eqMatrix.f k bt229.1 bt229.2.1 bt229.2.2.1 bt210.1 bt210.2.1 bt210.2.2.1).bind fun t236 => (if t236 = true then (laws_FnExactMultiplyMatrices.j0 k bt210.2.2.2 bt229.2.2.2 (bt229.2.2.2 != bt210.2.2.2) a0_0 a0_1 l0_2 a1_0 a1_1 l1_2 bt210.1 bt210.2.1 bt210.2.2.1 bt217.1 bt217.2.1 bt217.2.2 bt223.1 bt223.2.1 bt223.2.2 bt229.1 bt229.2.1 bt229.2.2.1) else (laws_FnExactMultiplyMatrices.j0 k bt210.2.2.2 bt229.2.2.2 true a0_0 a0_1 l0_2 a1_0 a1_1 l1_2 bt210.1 bt210.2.1 bt210.2.2.1 bt217.1 bt217.2.1 bt217.2.2 bt223.1 bt223.2.1 bt223.2.2 bt229.1 bt229.2.1 bt229.2.2.1))))))))))))
theorem laws_FnExactMultiplyMatrices.mono_l : ∀ k, (∀ y0 y1 y2 y3 y4 y5 y6 y7 y8 y9 y10 y11 y12 y13 y14 y15 y16 y17 y18 y19 y20, LeO (laws_FnExactMultiplyMatrices.j0 k y0 y1 y2 y3 y4 y5 y6 y7 y8 y9 y10 y11 y12 y13 y14 y15 y16 y17 y18 y19 y20) (laws_FnExactMultiplyMatrices.j0 (k + 1) y0 y1 y2 y3 y4 y5 y6 y7 y8 y9 y10 y11 y12 y13 y14 y15 y16 y17 y18 y19 y20)) ∧ (∀ y0 y1 y2 y3 y4 y5 y6 y7 y8 y9 y10 y11 y12 y13, LeO (laws_FnExactMultiplyMatrices.j1 k y0 y1 y2 y3 y4 y5 y6 y7 y8 y9 y10 y11 y12 y13) (laws_FnExactMultiplyMatrices.j1 (k + 1) y0 y1 y2 y3 y4 y5 y6 y7 y8 y9 y10 y11 y12 y13)) ∧ (∀ y0 y1 y2 y3 y4, LeO (laws_FnExactMultiplyMatrices.j2 k y0 y1 y2 y3 y4) (laws_FnExactMultiplyMatrices.j2 (k + 1) y0 y1 y2 y3 y4))
 | 0 => ⟨fun _ _ _ _ _ _ _ _ _ _ _ _ _ _ _ _ _ _ _ _ _ r h => by simp [laws_FnExactMultiplyMatrices.j0] at h, fun _ _ _ _ _ _ _ _ _ _ _ _ _ _ r h => by simp [laws_FnExactMultiplyMatrices.j1] at h, fun _ _ _ _ _ r h => by simp [laws_FnExactMultiplyMatrices.j2] at h⟩
 | k + 1 => by
  obtain ⟨ih0, ih1, ih2⟩ := laws_FnExactMultiplyMatrices.mono_l k
  refine ⟨?_, ?_, ?_⟩
  ·intro y0 y1 y2 y3 y4 y5 y6 y7 y8 y9 y10 y11 y12 y13 y14 y15 y16 y17 y18 y19 y20
   unfold laws_FnExactMultiplyMatrices.j0
   repeat' first
   | (with_reducible exact ih0 _ _ _ _ _ _ _ _ _ _ _ _ _ _ _ _ _ _ _ _ _)
   | (with_reducible exact ih1 _ _ _ _ _ _ _ _ _ _ _ _ _ _)
   | (with_reducible exact ih2 _ _ _ _ _)
   | (with_reducible exact impl_MultiplyMatrices.mono _ _ _ _ _ _ _)
   | (with_reducible exact laws_eqMatrix.mono _ _ _ _ _ _ _)
   | (with_reducible exact laws_heldMatrix.mono _ _ _ _ _)
   | (with_reducible exact laws_markMatrix.mono _ _ _ _ _)
   | (with_reducible exact laws_toMatrix.mono _ _ _ _)
   | (with_reducible exact spec_MultiplyMatrices.mono _ _ _ _ _ _ _)
   | (with_reducible exact LeO.refl _)
   | (with_reducible exact LeO.none _)
   | (with_reducible refine LeO.ite ?_ ?_)
   | (with_reducible refine LeO.bind ?_ (fun _ => ?_))
   | exact ih0 _ _ _ _ _ _ _ _ _ _ _ _ _ _ _ _ _ _ _ _ _
   | exact ih1 _ _ _ _ _ _ _ _ _ _ _ _ _ _
   | exact ih2 _ _ _ _ _
   | exact impl_MultiplyMatrices.mono _ _ _ _ _ _ _
   | exact laws_eqMatrix.mono _ _ _ _ _ _ _
   | exact laws_heldMatrix.mono _ _ _ _ _
   | exact laws_markMatrix.mono _ _ _ _ _
   | exact laws_toMatrix.mono _ _ _ _
   | exact spec_MultiplyMatrices.mono _ _ _ _ _ _ _
   | exact LeO.none _
   | refine LeO.ite ?_ ?_
   | refine LeO.bind ?_ (fun _ => ?_)
  ·intro y0 y1 y2 y3 y4 y5 y6 y7 y8 y9 y10 y11 y12 y13
   unfold laws_FnExactMultiplyMatrices.j1
   repeat' first
   | (with_reducible exact ih0 _ _ _ _ _ _ _ _ _ _ _ _ _ _ _ _ _ _ _ _ _)
   | (with_reducible exact ih1 _ _ _ _ _ _ _ _ _ _ _ _ _ _)
   | (with_reducible exact ih2 _ _ _ _ _)
   | (with_reducible exact impl_MultiplyMatrices.mono _ _ _ _ _ _ _)
   | (with_reducible exact laws_eqMatrix.mono _ _ _ _ _ _ _)
   | (with_reducible exact laws_heldMatrix.mono _ _ _ _ _)
   | (with_reducible exact laws_markMatrix.mono _ _ _ _ _)
   | (with_reducible exact laws_toMatrix.mono _ _ _ _)
   | (with_reducible exact spec_MultiplyMatrices.mono _ _ _ _ _ _ _)
   | (with_reducible exact LeO.refl _)
   | (with_reducible exact LeO.none _)
   | (with_reducible refine LeO.ite ?_ ?_)
   | (with_reducible refine LeO.bind ?_ (fun _ => ?_))
   | exact ih0 _ _ _ _ _ _ _ _ _ _ _ _ _ _ _ _ _ _ _ _ _
   | exact ih1 _ _ _ _ _ _ _ _ _ _ _ _ _ _
   | exact ih2 _ _ _ _ _
   | exact impl_MultiplyMatrices.mono _ _ _ _ _ _ _
   | exact laws_eqMatrix.mono _ _ _ _ _ _ _
   | exact laws_heldMatrix.mono _ _ _ _ _
   | exact laws_markMatrix.mono _ _ _ _ _
   | exact laws_toMatrix.mono _ _ _ _
   | exact spec_MultiplyMatrices.mono _ _ _ _ _ _ _
   | exact LeO.none _
   | refine LeO.ite ?_ ?_
   | refine LeO.bind ?_ (fun _ => ?_)
  ·intro y0 y1 y2 y3 y4
   unfold laws_FnExactMultiplyMatrices.j2
   repeat' first
   | (with_reducible exact ih0 _ _ _ _ _ _ _ _ _ _ _ _ _ _ _ _ _ _ _ _ _)
   | (with_reducible exact ih1 _ _ _ _ _ _ _ _ _ _ _ _ _ _)
   | (with_reducible exact ih2 _ _ _ _ _)
   | (with_reducible exact impl_MultiplyMatrices.mono _ _ _ _ _ _ _)
   | (with_reducible exact laws_eqMatrix.mono _ _ _ _ _ _ _)
   | (with_reducible exact laws_heldMatrix.mono _ _ _ _ _)
   | (with_reducible exact laws_markMatrix.mono _ _ _ _ _)
   | (with_reducible exact laws_toMatrix.mono _ _ _ _)
   | (with_reducible exact spec_MultiplyMatrices.mono _ _ _ _ _ _ _)
   | (with_reducible exact LeO.refl _)
   | (with_reducible exact LeO.none _)
   | (with_reducible refine LeO.ite ?_ ?_)
   | (with_reducible refine LeO.bind ?_ (fun _ => ?_))
   | exact ih0 _ _ _ _ _ _ _ _ _ _ _ _ _ _ _ _ _ _ _ _ _
   | exact ih1 _ _ _ _ _ _ _ _ _ _ _ _ _ _
   | exact ih2 _ _ _ _ _
   | exact impl_MultiplyMatrices.mono _ _ _ _ _ _ _
   | exact laws_eqMatrix.mono _ _ _ _ _ _ _
   | exact laws_heldMatrix.mono _ _ _ _ _
   | exact laws_markMatrix.mono _ _ _ _ _
   | exact laws_toMatrix.mono _ _ _ _
   | exact spec_MultiplyMatrices.mono _ _ _ _ _ _ _
   | exact LeO.none _
   | refine LeO.ite ?_ ?_
   | refine LeO.bind ?_ (fun _ => ?_)
theorem laws_FnExactMultiplyMatrices.mono : ∀ a0 a1 a2 a3 a4 a5 k, LeO (laws_FnExactMultiplyMatrices.f k a0 a1 a2 a3 a4 a5) (laws_FnExactMultiplyMatrices.f (k + 1) a0 a1 a2 a3 a4 a5) := by
 intro a0 a1 a2 a3 a4 a5 k
 obtain ⟨ih0, ih1, ih2⟩ := laws_FnExactMultiplyMatrices.mono_l k
 unfold laws_FnExactMultiplyMatrices.f
 repeat' first
   | (with_reducible exact ih0 _ _ _ _ _ _ _ _ _ _ _ _ _ _ _ _ _ _ _ _ _)
   | (with_reducible exact ih1 _ _ _ _ _ _ _ _ _ _ _ _ _ _)
   | (with_reducible exact ih2 _ _ _ _ _)
   | (with_reducible exact impl_MultiplyMatrices.mono _ _ _ _ _ _ _)
   | (with_reducible exact laws_eqMatrix.mono _ _ _ _ _ _ _)
   | (with_reducible exact laws_heldMatrix.mono _ _ _ _ _)
   | (with_reducible exact laws_markMatrix.mono _ _ _ _ _)
   | (with_reducible exact laws_toMatrix.mono _ _ _ _)
   | (with_reducible exact spec_MultiplyMatrices.mono _ _ _ _ _ _ _)
   | (with_reducible exact LeO.refl _)
   | (with_reducible exact LeO.none _)
   | (with_reducible refine LeO.ite ?_ ?_)
   | (with_reducible refine LeO.bind ?_ (fun _ => ?_))
   | exact ih0 _ _ _ _ _ _ _ _ _ _ _ _ _ _ _ _ _ _ _ _ _
   | exact ih1 _ _ _ _ _ _ _ _ _ _ _ _ _ _
   | exact ih2 _ _ _ _ _
   | exact impl_MultiplyMatrices.mono _ _ _ _ _ _ _
   | exact laws_eqMatrix.mono _ _ _ _ _ _ _
   | exact laws_heldMatrix.mono _ _ _ _ _
   | exact laws_markMatrix.mono _ _ _ _ _
   | exact laws_toMatrix.mono _ _ _ _
   | exact spec_MultiplyMatrices.mono _ _ _ _ _ _ _
   | exact LeO.none _
   | refine LeO.ite ?_ ?_
   | refine LeO.bind ?_ (fun _ => ?_)
def laws_FnExactMultiplyMatrices.T8 : Bool × List (List Nat × List Nat) := (true, [([], []), ([0], [0]), ([], []), ([2, 1], [2]), ([1, 3, 3], [1, 3]), ([4], [4]), ([5], [5]), ([5], [5]), ([], []), ([8, 6, 4, 0, 1, 2, 3, 4, 5, 6, 8], [6, 8]), ([7, 9, 0, 1, 2, 3, 4, 5, 6, 7, 8, 9], [7])])
def laws_FnExactMultiplyMatrices.B8 : List Nat := [0, 1, 0, 7, 15, 31, 63, 63, 0, 383, 1023]
theorem laws_FnExactMultiplyMatrices.tab8 : rtab .any (opsOf Try.f8 8) = laws_FnExactMultiplyMatrices.T8 := by kernel_rfl
theorem laws_FnExactMultiplyMatrices.bits8 : waitsOk laws_FnExactMultiplyMatrices.T8.2 laws_FnExactMultiplyMatrices.B8 = true := by kernel_rfl
def laws_FnExactMultiplyMatrices.T31 : Bool × List (List Nat × List Nat) := (true, [([], []), ([0], [0]), ([], []), ([2, 1], [2]), ([1, 3, 3], [1, 3]), ([4], [4]), ([5], [5]), ([5], [5]), ([], []), ([8, 6, 4, 0, 1, 2, 3, 4, 5, 6, 8], [6, 8]), ([7, 9, 0, 1, 2, 3, 4, 5, 6, 7, 8, 9], [7])])
def laws_FnExactMultiplyMatrices.B31 : List Nat := [0, 1, 0, 7, 15, 31, 63, 63, 0, 383, 1023]
theorem laws_FnExactMultiplyMatrices.tab31 : rtab .any (opsOf Try.f8 31) = laws_FnExactMultiplyMatrices.T31 := by kernel_rfl
theorem laws_FnExactMultiplyMatrices.bits31 : waitsOk laws_FnExactMultiplyMatrices.T31.2 laws_FnExactMultiplyMatrices.B31 = true := by kernel_rfl
set_option maxHeartbeats 8000000 in
set_option maxRecDepth 100000 in
theorem laws_FnExactMultiplyMatrices.calls (k : Nat) (a0_0 : Int) (a0_1 : Int) (A0_2 : Option Addr) (c0_2 : Nat) (l0_2 : List Int) (a1_0 : Int) (a1_1 : Int) (A1_2 : Option Addr) (c1_2 : Nat) (l1_2 : List Int) (r : Bool) (w : World) (hr0_2 : Kd.C (Kd.int .i64) w A0_2 l0_2.length l0_2) (hc0_2 : l0_2.length ≤ c0_2) (hr1_2 : Kd.C (Kd.int .i64) w A1_2 l1_2.length l1_2) (hc1_2 : l1_2.length ≤ c1_2) (h : laws_FnExactMultiplyMatrices.f k a0_0 a0_1 l0_2 a1_0 a1_1 l1_2 = some r) (HTRUE_ : Aside0 (r = true)) :
  Calls Try.prog 8 #[.agg #[.int .i64 a0_0, .int .i64 a0_1, .slice A0_2 l0_2.length c0_2], .agg #[.int .i64 a1_0, .int .i64 a1_1, .slice A1_2 l1_2.length c1_2]] w fun e w' => e = .returned (.bool r) ∧ Below w.heap.size w w' := by
 have hu24 := Try.underlying24
 have hu27 := Try.underlying27
 have HR0_2 := am_ hr0_2
 have HC0_2 := am_ hc0_2
 clear hr0_2 hc0_2
 have HR1_2 := am_ hr1_2
 have HC1_2 := am_ hc1_2
 clear hr1_2 hc1_2
 have HB := am_ (Below.refl w.heap.size w)
 have H : ((laws_szMatrix.f a0_0 a0_1 l0_2 1048576).bind fun t198 => (if t198 < 0 then (some true) else ((laws_szMatrix.f a1_0 a1_1 l1_2 t198).bind fun t199 => (if t199 < 0 then (some true) else ((laws_toMatrix.f k a0_0 a0_1 l0_2).bind fun bt200 => ((laws_toMatrix.f k a1_0 a1_1 l1_2).bind fun bt205 => ((spec_MultiplyMatrices.f k bt200.1 bt200.2.1 bt200.2.2 bt205.1 bt205.2.1 bt205.2.2).bind fun bt210 => ((laws_toMatrix.f k a0_0 a0_1 l0_2).bind fun bt217 => ((laws_toMatrix.f k a1_0 a1_1 l1_2).bind fun bt223 => ((impl_MultiplyMatrices.f k bt217.1 bt217.2.1 bt217.2.2 bt223.1 bt223.2.1 bt223.2.2).bind fun bt229 => ((laws_eqMatrix.f k bt229.1 bt229.2.1 bt229.2.2.1 bt210.1 bt210.2.1 bt210.2.2.1).bind fun t236 => (if t236 = true then (laws_FnExactMultiplyMatrices.j0 k bt210.2.2.2 bt229.2.2.2 (bt229.2.2.2 != bt210.2.2.2) a0_0 a0_1 l0_2 a1_0 a1_1 l1_2 bt210.1 bt210.2.1 bt210.2.2.1 bt217.1 bt217.2.1 bt217.2.2 bt223.1 bt223.2.1 bt223.2.2 bt229.1 bt229.2.1 bt229.2.2.1) else (laws_FnExactMultiplyMatrices.j0 k bt210.2.2.2 bt229.2.2.2 true a0_0 a0_1 l0_2 a1_0 a1_1 l1_2 bt210.1 bt210.2.1 bt210.2.2.1 bt217.1 bt217.2.1 bt217.2.2 bt223.1 bt223.2.1 bt223.2.2 bt229.1 bt229.2.1 bt229.2.2.1))))))))))))) = some r := h
 clear h
 replace H := Option.bind_eq_some_iff.mp H
 obtain ⟨t198, A30, H⟩ := H
 replace H : (if t198 < 0 then (some true) else ((laws_szMatrix.f a1_0 a1_1 l1_2 t198).bind fun t199 => (if t199 < 0 then (some true) else ((laws_toMatrix.f k a0_0 a0_1 l0_2).bind fun bt200 => ((laws_toMatrix.f k a1_0 a1_1 l1_2).bind fun bt205 => ((spec_MultiplyMatrices.f k bt200.1 bt200.2.1 bt200.2.2 bt205.1 bt205.2.1 bt205.2.2).bind fun bt210 => ((laws_toMatrix.f k a0_0 a0_1 l0_2).bind fun bt217 => ((laws_toMatrix.f k a1_0 a1_1 l1_2).bind fun bt223 => ((impl_MultiplyMatrices.f k bt217.1 bt217.2.1 bt217.2.2 bt223.1 bt223.2.1 bt223.2.2).bind fun bt229 => ((laws_eqMatrix.f k bt229.1 bt229.2.1 bt229.2.2.1 bt210.1 bt210.2.1 bt210.2.2.1).bind fun t236 => (if t236 = true then (laws_FnExactMultiplyMatrices.j0 k bt210.2.2.2 bt229.2.2.2 (bt229.2.2.2 != bt210.2.2.2) a0_0 a0_1 l0_2 a1_0 a1_1 l1_2 bt210.1 bt210.2.1 bt210.2.2.1 bt217.1 bt217.2.1 bt217.2.2 bt223.1 bt223.2.1 bt223.2.2 bt229.1 bt229.2.1 bt229.2.2.1) else (laws_FnExactMultiplyMatrices.j0 k bt210.2.2.2 bt229.2.2.2 true a0_0 a0_1 l0_2 a1_0 a1_1 l1_2 bt210.1 bt210.2.1 bt210.2.2.1 bt217.1 bt217.2.1 bt217.2.2 bt223.1 bt223.2.1 bt223.2.2 bt229.1 bt229.2.1 bt229.2.2.1)))))))))))) = some r := H
 have A3 := am_ A30
 clear A30
 by_cases c4 : t198 < 0
 ·rw [if_pos c4] at H
  have c4b0 : decide (t198 < 0) = true := decide_eq_true c4
  clear c4
  obtain rfl := Option.some.inj H
  go_enter Try.func8, Try.ntmps8
  go_wp2_with (first | ((with_reducible refine gate_dst (N := 2) rfl ?_); refine box_event ?hg (N := 2) ?hd (cs := #[.int .i64 a0_0, .int .i64 a0_1, .slice A0_2 l0_2.length c0_2]) (t := 24) ?hr ?_; (case hd => rfl); (case hg => rfl); (case hr => first | (go_simp; done) | (go_simp; rfl)); intro gb196 hg w5 hbox hb; have n0_ := am_ (below_step (bb_ HB.out) hb); have n1_ := am_ (hbox); have n2_ := am_ ((by rw [hg]; exact (below_size (bb_ HB.out)) : w.heap.size ≤ gb196)); have n3_ := am_ ((by rw [hg]; exact (below_size (bb_ HB.out)) : w.heap.size ≤ gb196)); clear HB; revert n0_ n1_ n2_ n3_; intro HB BK196 GW196 GE196; clear hb hbox hg) | ((with_reducible refine gate_dst (N := 3) rfl ?_); refine box_event ?hg (N := 3) ?hd (cs := #[.int .i64 a1_0, .int .i64 a1_1, .slice A1_2 l1_2.length c1_2]) (t := 24) ?hr ?_; (case hd => rfl); (case hg => rfl); (case hr => first | (go_simp; done) | (go_simp; rfl)); intro gb197 hg w6 hbox hb; have n0_ := am_ (bw_ BK196 hb); have n1_ := am_ (below_step (bb_ HB.out) hb); have n2_ := am_ (hbox); have n3_ := am_ ((by rw [hg]; exact (below_size (bb_ HB.out)) : w.heap.size ≤ gb197)); have n4_ := am_ ((by rw [hg]; exact (below_size (bb_ HB.out)) : w.heap.size ≤ gb197)); have n5_ := am_ ((by rw [hg]; exact Nat.ne_of_lt (bl_ BK196) : gb196 ≠ gb197)); have n6_ := am_ ((by rw [hg]; exact Nat.ne_of_gt (bl_ BK196) : gb197 ≠ gb196)); clear BK196 HB; revert n0_ n1_ n2_ n3_ n4_ n5_ n6_; intro BK196 HB BK197 GW197 GE197 NB196_197 NB197_196; clear hb hbox hg; have hnb7 := NB196_197.out; have hnc7 := NB197_196.out; have hcz8_0 : w6.cell? ⟨gb196, 0, none⟩ = some (.int .i64 a0_0) := bc_ BK196 0; have hcz8_1 : w6.cell? ⟨gb196, 1, none⟩ = some (.int .i64 a0_1) := bc_ BK196 1; have hcz8_2 : w6.cell? ⟨gb196, 2, none⟩ = some (.slice A0_2 l0_2.length c0_2) := bc_ BK196 2; have hfz8_0 := blk_frozen BK196.out 0; have hfz8_1 := blk_frozen BK196.out 1; have hfz8_2 := blk_frozen BK196.out 2) | ((with_reducible refine gate_callee (f := 13) rfl ?_); refine goesL_ (some 19) rfl rfl Try.func13 (by kernel_rfl) rfl #[.agg #[.int .i64 a0_0, .int .i64 a0_1, .slice A0_2 l0_2.length c0_2], .int .i64 1048576] rfl lm_ ?_; (with_reducible refine (laws_szMatrix.calls a0_0 a0_1 _ _ l0_2 1048576 t198 _ ?side1 ?side2 A3.out).mono ?_); (case side1 => repeat (first | exact (Kd.C_below HR0_2.out HB.out) | (with_reducible refine Kd.C_alloc ?_ _) | (with_reducible refine Kd.C_drewN ?_ _) | (with_reducible refine Kd.C_drew ?_))); (case side2 => exact HC0_2.out); rintro e w9 ⟨rfl, hb⟩; refine ⟨_, rfl, ?_⟩; have n0_ := am_ (bw_ BK196 hb); have n1_ := am_ (bw_ BK197 hb); have n2_ := am_ (below_step (bb_ HB.out) hb); clear BK196 BK197 HB; revert n0_ n1_ n2_; intro BK196 BK197 HB; (try clear hb); (try clear hb2); (try clear hk); (try clear hi)))
  go_ret
  exact ⟨by first | rfl | (simp [errW_none, errW_some] <;> rfl) | (simp [*, errW_none, errW_some] <;> rfl), by repeat (first | (with_reducible first | exact HB.out | apply below_alloc | apply pw_below_drewN | apply below_drew1 | refine below_set ?_ GE196.out | refine below_set ?_ GE197.out) | exact HB.out)⟩
 ·rw [if_neg c4] at H
  have c4b0 : decide (t198 < 0) = false := decide_eq_false c4
  clear c4
  replace H := Option.bind_eq_some_iff.mp H
  obtain ⟨t199, A100, H⟩ := H
  replace H : (if t199 < 0 then (some true) else ((laws_toMatrix.f k a0_0 a0_1 l0_2).bind fun bt200 => ((laws_toMatrix.f k a1_0 a1_1 l1_2).bind fun bt205 => ((spec_MultiplyMatrices.f k bt200.1 bt200.2.1 bt200.2.2 bt205.1 bt205.2.1 bt205.2.2).bind fun bt210 => ((laws_toMatrix.f k a0_0 a0_1 l0_2).bind fun bt217 => ((laws_toMatrix.f k a1_0 a1_1 l1_2).bind fun bt223 => ((impl_MultiplyMatrices.f k bt217.1 bt217.2.1 bt217.2.2 bt223.1 bt223.2.1 bt223.2.2).bind fun bt229 => ((laws_eqMatrix.f k bt229.1 bt229.2.1 bt229.2.2.1 bt210.1 bt210.2.1 bt210.2.2.1).bind fun t236 => (if t236 = true then (laws_FnExactMultiplyMatrices.j0 k bt210.2.2.2 bt229.2.2.2 (bt229.2.2.2 != bt210.2.2.2) a0_0 a0_1 l0_2 a1_0 a1_1 l1_2 bt210.1 bt210.2.1 bt210.2.2.1 bt217.1 bt217.2.1 bt217.2.2 bt223.1 bt223.2.1 bt223.2.2 bt229.1 bt229.2.1 bt229.2.2.1) else (laws_FnExactMultiplyMatrices.j0 k bt210.2.2.2 bt229.2.2.2 true a0_0 a0_1 l0_2 a1_0 a1_1 l1_2 bt210.1 bt210.2.1 bt210.2.2.1 bt217.1 bt217.2.1 bt217.2.2 bt223.1 bt223.2.1 bt223.2.2 bt229.1 bt229.2.1 bt229.2.2.1)))))))))) = some r := H
  have A10 := am_ A100
  clear A100
  by_cases c11 : t199 < 0
  ·rw [if_pos c11] at H
   have c11b0 : decide (t199 < 0) = true := decide_eq_true c11
   clear c11
   obtain rfl := Option.some.inj H
   go_enter Try.func8, Try.ntmps8
   go_wp2_with (first | ((with_reducible refine gate_dst (N := 2) rfl ?_); refine box_event ?hg (N := 2) ?hd (cs := #[.int .i64 a0_0, .int .i64 a0_1, .slice A0_2 l0_2.length c0_2]) (t := 24) ?hr ?_; (case hd => rfl); (case hg => rfl); (case hr => first | (go_simp; done) | (go_simp; rfl)); intro gb196 hg w12 hbox hb; have n0_ := am_ (below_step (bb_ HB.out) hb); have n1_ := am_ (hbox); have n2_ := am_ ((by rw [hg]; exact (below_size (bb_ HB.out)) : w.heap.size ≤ gb196)); have n3_ := am_ ((by rw [hg]; exact (below_size (bb_ HB.out)) : w.heap.size ≤ gb196)); clear HB; revert n0_ n1_ n2_ n3_; intro HB BK196 GW196 GE196; clear hb hbox hg) | ((with_reducible refine gate_dst (N := 3) rfl ?_); refine box_event ?hg (N := 3) ?hd (cs := #[.int .i64 a1_0, .int .i64 a1_1, .slice A1_2 l1_2.length c1_2]) (t := 24) ?hr ?_; (case hd => rfl); (case hg => rfl); (case hr => first | (go_simp; done) | (go_simp; rfl)); intro gb197 hg w13 hbox hb; have n0_ := am_ (bw_ BK196 hb); have n1_ := am_ (below_step (bb_ HB.out) hb); have n2_ := am_ (hbox); have n3_ := am_ ((by rw [hg]; exact (below_size (bb_ HB.out)) : w.heap.size ≤ gb197)); have n4_ := am_ ((by rw [hg]; exact (below_size (bb_ HB.out)) : w.heap.size ≤ gb197)); have n5_ := am_ ((by rw [hg]; exact Nat.ne_of_lt (bl_ BK196) : gb196 ≠ gb197)); have n6_ := am_ ((by rw [hg]; exact Nat.ne_of_gt (bl_ BK196) : gb197 ≠ gb196)); clear BK196 HB; revert n0_ n1_ n2_ n3_ n4_ n5_ n6_; intro BK196 HB BK197 GW197 GE197 NB196_197 NB197_196; clear hb hbox hg; have hnb14 := NB196_197.out; have hnc14 := NB197_196.out; have hcz15_0 : w13.cell? ⟨gb196, 0, none⟩ = some (.int .i64 a0_0) := bc_ BK196 0; have hcz15_1 : w13.cell? ⟨gb196, 1, none⟩ = some (.int .i64 a0_1) := bc_ BK196 1; have hcz15_2 : w13.cell? ⟨gb196, 2, none⟩ = some (.slice A0_2 l0_2.length c0_2) := bc_ BK196 2; have hfz15_0 := blk_frozen BK196.out 0; have hfz15_1 := blk_frozen BK196.out 1; have hfz15_2 := blk_frozen BK196.out 2) | ((with_reducible refine gate_callee (f := 13) rfl ?_); refine goesL_ (some 19) rfl rfl Try.func13 (by kernel_rfl) rfl #[.agg #[.int .i64 a0_0, .int .i64 a0_1, .slice A0_2 l0_2.length c0_2], .int .i64 1048576] rfl lm_ ?_; (with_reducible refine (laws_szMatrix.calls a0_0 a0_1 _ _ l0_2 1048576 t198 _ ?side1 ?side2 A3.out).mono ?_); (case side1 => repeat (first | exact (Kd.C_below HR0_2.out HB.out) | (with_reducible refine Kd.C_alloc ?_ _) | (with_reducible refine Kd.C_drewN ?_ _) | (with_reducible refine Kd.C_drew ?_))); (case side2 => exact HC0_2.out); rintro e w16 ⟨rfl, hb⟩; refine ⟨_, rfl, ?_⟩; have n0_ := am_ (bw_ BK196 hb); have n1_ := am_ (bw_ BK197 hb); have n2_ := am_ (below_step (bb_ HB.out) hb); clear BK196 BK197 HB; revert n0_ n1_ n2_; intro BK196 BK197 HB; (try clear hb); (try clear hb2); (try clear hk); (try clear hi); have hcz17_0 : w16.cell? ⟨gb197, 0, none⟩ = some (.int .i64 a1_0) := bc_ BK197 0; have hcz17_1 : w16.cell? ⟨gb197, 1, none⟩ = some (.int .i64 a1_1) := bc_ BK197 1; have hcz17_2 : w16.cell? ⟨gb197, 2, none⟩ = some (.slice A1_2 l1_2.length c1_2) := bc_ BK197 2; have hfz17_0 := blk_frozen BK197.out 0; have hfz17_1 := blk_frozen BK197.out 1; have hfz17_2 := blk_frozen BK197.out 2) | ((with_reducible refine gate_callee (f := 13) rfl ?_); refine goesL_ (some 24) rfl rfl Try.func13 (by kernel_rfl) rfl #[.agg #[.int .i64 a1_0, .int .i64 a1_1, .slice A1_2 l1_2.length c1_2], .int .i64 t198] rfl lm_ ?_; (with_reducible refine (laws_szMatrix.calls a1_0 a1_1 _ _ l1_2 t198 t199 _ ?side1 ?side2 A10.out).mono ?_); (case side1 => repeat (first | exact (Kd.C_below HR1_2.out HB.out) | (with_reducible refine Kd.C_alloc ?_ _) | (with_reducible refine Kd.C_drewN ?_ _) | (with_reducible refine Kd.C_drew ?_))); (case side2 => exact HC1_2.out); rintro e w18 ⟨rfl, hb⟩; refine ⟨_, rfl, ?_⟩; have n0_ := am_ (bw_ BK196 hb); have n1_ := am_ (bw_ BK197 hb); have n2_ := am_ (below_step (bb_ HB.out) hb); clear BK196 BK197 HB; revert n0_ n1_ n2_; intro BK196 BK197 HB; (try clear hb); (try clear hb2); (try clear hk); (try clear hi)))
   go_ret
   exact ⟨by first | rfl | (simp [errW_none, errW_some] <;> rfl) | (simp [*, errW_none, errW_some] <;> rfl), by repeat (first | (with_reducible first | exact HB.out | apply below_alloc | apply pw_below_drewN | apply below_drew1 | refine below_set ?_ GE196.out | refine below_set ?_ GE197.out) | exact HB.out)⟩
  ·rw [if_neg c11] at H
   have c11b0 : decide (t199 < 0) = false := decide_eq_false c11
   clear c11
   replace H := Option.bind_eq_some_iff.mp H
   obtain ⟨⟨t200, t201, t202⟩, A190, H⟩ := H
   replace H : ((laws_toMatrix.f k a1_0 a1_1 l1_2).bind fun bt205 => ((spec_MultiplyMatrices.f k t200 t201 t202 bt205.1 bt205.2.1 bt205.2.2).bind fun bt210 => ((laws_toMatrix.f k a0_0 a0_1 l0_2).bind fun bt217 => ((laws_toMatrix.f k a1_0 a1_1 l1_2).bind fun bt223 => ((impl_MultiplyMatrices.f k bt217.1 bt217.2.1 bt217.2.2 bt223.1 bt223.2.1 bt223.2.2).bind fun bt229 => ((laws_eqMatrix.f k bt229.1 bt229.2.1 bt229.2.2.1 bt210.1 bt210.2.1 bt210.2.2.1).bind fun t236 => (if t236 = true then (laws_FnExactMultiplyMatrices.j0 k bt210.2.2.2 bt229.2.2.2 (bt229.2.2.2 != bt210.2.2.2) a0_0 a0_1 l0_2 a1_0 a1_1 l1_2 bt210.1 bt210.2.1 bt210.2.2.1 bt217.1 bt217.2.1 bt217.2.2 bt223.1 bt223.2.1 bt223.2.2 bt229.1 bt229.2.1 bt229.2.2.1) else (laws_FnExactMultiplyMatrices.j0 k bt210.2.2.2 bt229.2.2.2 true a0_0 a0_1 l0_2 a1_0 a1_1 l1_2 bt210.1 bt210.2.1 bt210.2.2.1 bt217.1 bt217.2.1 bt217.2.2 bt223.1 bt223.2.1 bt223.2.2 bt229.1 bt229.2.1 bt229.2.2.1)))))))) = some r := H
   have A19 := am_ A190
   clear A190
   replace H := Option.bind_eq_some_iff.mp H
   obtain ⟨⟨t205, t206, t207⟩, A200, H⟩ := H
   replace H : ((spec_MultiplyMatrices.f k t200 t201 t202 t205 t206 t207).bind fun bt210 => ((laws_toMatrix.f k a0_0 a0_1 l0_2).bind fun bt217 => ((laws_toMatrix.f k a1_0 a1_1 l1_2).bind fun bt223 => ((impl_MultiplyMatrices.f k bt217.1 bt217.2.1 bt217.2.2 bt223.1 bt223.2.1 bt223.2.2).bind fun bt229 => ((laws_eqMatrix.f k bt229.1 bt229.2.1 bt229.2.2.1 bt210.1 bt210.2.1 bt210.2.2.1).bind fun t236 => (if t236 = true then (laws_FnExactMultiplyMatrices.j0 k bt210.2.2.2 bt229.2.2.2 (bt229.2.2.2 != bt210.2.2.2) a0_0 a0_1 l0_2 a1_0 a1_1 l1_2 bt210.1 bt210.2.1 bt210.2.2.1 bt217.1 bt217.2.1 bt217.2.2 bt223.1 bt223.2.1 bt223.2.2 bt229.1 bt229.2.1 bt229.2.2.1) else (laws_FnExactMultiplyMatrices.j0 k bt210.2.2.2 bt229.2.2.2 true a0_0 a0_1 l0_2 a1_0 a1_1 l1_2 bt210.1 bt210.2.1 bt210.2.2.1 bt217.1 bt217.2.1 bt217.2.2 bt223.1 bt223.2.1 bt223.2.2 bt229.1 bt229.2.1 bt229.2.2.1))))))) = some r := H
   have A20 := am_ A200
   clear A200
   replace H := Option.bind_eq_some_iff.mp H
   obtain ⟨⟨t210, t211, t212, t215⟩, A210, H⟩ := H
   replace H : ((laws_toMatrix.f k a0_0 a0_1 l0_2).bind fun bt217 => ((laws_toMatrix.f k a1_0 a1_1 l1_2).bind fun bt223 => ((impl_MultiplyMatrices.f k bt217.1 bt217.2.1 bt217.2.2 bt223.1 bt223.2.1 bt223.2.2).bind fun bt229 => ((laws_eqMatrix.f k bt229.1 bt229.2.1 bt229.2.2.1 t210 t211 t212).bind fun t236 => (if t236 = true then (laws_FnExactMultiplyMatrices.j0 k t215 bt229.2.2.2 (bt229.2.2.2 != t215) a0_0 a0_1 l0_2 a1_0 a1_1 l1_2 t210 t211 t212 bt217.1 bt217.2.1 bt217.2.2 bt223.1 bt223.2.1 bt223.2.2 bt229.1 bt229.2.1 bt229.2.2.1) else (laws_FnExactMultiplyMatrices.j0 k t215 bt229.2.2.2 true a0_0 a0_1 l0_2 a1_0 a1_1 l1_2 t210 t211 t212 bt217.1 bt217.2.1 bt217.2.2 bt223.1 bt223.2.1 bt223.2.2 bt229.1 bt229.2.1 bt229.2.2.1)))))) = some r := H
   have A21 := am_ A210
   clear A210
   replace H := Option.bind_eq_some_iff.mp H
   obtain ⟨⟨t217, t218, t219⟩, A220, H⟩ := H
   replace H : ((laws_toMatrix.f k a1_0 a1_1 l1_2).bind fun bt223 => ((impl_MultiplyMatrices.f k t217 t218 t219 bt223.1 bt223.2.1 bt223.2.2).bind fun bt229 => ((laws_eqMatrix.f k bt229.1 bt229.2.1 bt229.2.2.1 t210 t211 t212).bind fun t236 => (if t236 = true then (laws_FnExactMultiplyMatrices.j0 k t215 bt229.2.2.2 (bt229.2.2.2 != t215) a0_0 a0_1 l0_2 a1_0 a1_1 l1_2 t210 t211 t212 t217 t218 t219 bt223.1 bt223.2.1 bt223.2.2 bt229.1 bt229.2.1 bt229.2.2.1) else (laws_FnExactMultiplyMatrices.j0 k t215 bt229.2.2.2 true a0_0 a0_1 l0_2 a1_0 a1_1 l1_2 t210 t211 t212 t217 t218 t219 bt223.1 bt223.2.1 bt223.2.2 bt229.1 bt229.2.1 bt229.2.2.1))))) = some r := H
   have A22 := am_ A220
   clear A220
   replace H := Option.bind_eq_some_iff.mp H
   obtain ⟨⟨t223, t224, t225⟩, A230, H⟩ := H
   replace H : ((impl_MultiplyMatrices.f k t217 t218 t219 t223 t224 t225).bind fun bt229 => ((laws_eqMatrix.f k bt229.1 bt229.2.1 bt229.2.2.1 t210 t211 t212).bind fun t236 => (if t236 = true then (laws_FnExactMultiplyMatrices.j0 k t215 bt229.2.2.2 (bt229.2.2.2 != t215) a0_0 a0_1 l0_2 a1_0 a1_1 l1_2 t210 t211 t212 t217 t218 t219 t223 t224 t225 bt229.1 bt229.2.1 bt229.2.2.1) else (laws_FnExactMultiplyMatrices.j0 k t215 bt229.2.2.2 true a0_0 a0_1 l0_2 a1_0 a1_1 l1_2 t210 t211 t212 t217 t218 t219 t223 t224 t225 bt229.1 bt229.2.1 bt229.2.2.1)))) = some r := H
   have A23 := am_ A230
   clear A230
   replace H := Option.bind_eq_some_iff.mp H
   obtain ⟨⟨t229, t230, t231, t234⟩, A240, H⟩ := H
   replace H : ((laws_eqMatrix.f k t229 t230 t231 t210 t211 t212).bind fun t236 => (if t236 = true then (laws_FnExactMultiplyMatrices.j0 k t215 t234 (t234 != t215) a0_0 a0_1 l0_2 a1_0 a1_1 l1_2 t210 t211 t212 t217 t218 t219 t223 t224 t225 t229 t230 t231) else (laws_FnExactMultiplyMatrices.j0 k t215 t234 true a0_0 a0_1 l0_2 a1_0 a1_1 l1_2 t210 t211 t212 t217 t218 t219 t223 t224 t225 t229 t230 t231))) = some r := H
   have A24 := am_ A240
   clear A240
   have HC25 := am_ H
   clear H
   go_enter Try.func8, Try.ntmps8
   try go_wp2_with (first | ((with_reducible refine gate_dst (N := 2) rfl ?_); refine box_event ?hg (N := 2) ?hd (cs := #[.int .i64 a0_0, .int .i64 a0_1, .slice A0_2 l0_2.length c0_2]) (t := 24) ?hr ?_; (case hd => rfl); (case hg => rfl); (case hr => first | (go_simp; done) | (go_simp; rfl)); intro gb196 hg w26 hbox hb; have n0_ := am_ (below_step (bb_ HB.out) hb); have n1_ := am_ (hbox); have n2_ := am_ ((by rw [hg]; exact (below_size (bb_ HB.out)) : w.heap.size ≤ gb196)); have n3_ := am_ ((by rw [hg]; exact (below_size (bb_ HB.out)) : w.heap.size ≤ gb196)); clear HB; revert n0_ n1_ n2_ n3_; intro HB BK196 GW196 GE196; clear hb hbox hg) | ((with_reducible refine gate_dst (N := 3) rfl ?_); refine box_event ?hg (N := 3) ?hd (cs := #[.int .i64 a1_0, .int .i64 a1_1, .slice A1_2 l1_2.length c1_2]) (t := 24) ?hr ?_; (case hd => rfl); (case hg => rfl); (case hr => first | (go_simp; done) | (go_simp; rfl)); intro gb197 hg w27 hbox hb; have n0_ := am_ (bw_ BK196 hb); have n1_ := am_ (below_step (bb_ HB.out) hb); have n2_ := am_ (hbox); have n3_ := am_ ((by rw [hg]; exact (below_size (bb_ HB.out)) : w.heap.size ≤ gb197)); have n4_ := am_ ((by rw [hg]; exact (below_size (bb_ HB.out)) : w.heap.size ≤ gb197)); have n5_ := am_ ((by rw [hg]; exact Nat.ne_of_lt (bl_ BK196) : gb196 ≠ gb197)); have n6_ := am_ ((by rw [hg]; exact Nat.ne_of_gt (bl_ BK196) : gb197 ≠ gb196)); clear BK196 HB; revert n0_ n1_ n2_ n3_ n4_ n5_ n6_; intro BK196 HB BK197 GW197 GE197 NB196_197 NB197_196; clear hb hbox hg; have hnb28 := NB196_197.out; have hnc28 := NB197_196.out; have hcz29_0 : w27.cell? ⟨gb196, 0, none⟩ = some (.int .i64 a0_0) := bc_ BK196 0; have hcz29_1 : w27.cell? ⟨gb196, 1, none⟩ = some (.int .i64 a0_1) := bc_ BK196 1; have hcz29_2 : w27.cell? ⟨gb196, 2, none⟩ = some (.slice A0_2 l0_2.length c0_2) := bc_ BK196 2; have hfz29_0 := blk_frozen BK196.out 0; have hfz29_1 := blk_frozen BK196.out 1; have hfz29_2 := blk_frozen BK196.out 2) | ((with_reducible refine gate_callee (f := 13) rfl ?_); refine goesL_ (some 19) rfl rfl Try.func13 (by kernel_rfl) rfl #[.agg #[.int .i64 a0_0, .int .i64 a0_1, .slice A0_2 l0_2.length c0_2], .int .i64 1048576] rfl lm_ ?_; (with_reducible refine (laws_szMatrix.calls a0_0 a0_1 _ _ l0_2 1048576 t198 _ ?side1 ?side2 A3.out).mono ?_); (case side1 => repeat (first | exact (Kd.C_below HR0_2.out HB.out) | (with_reducible refine Kd.C_alloc ?_ _) | (with_reducible refine Kd.C_drewN ?_ _) | (with_reducible refine Kd.C_drew ?_))); (case side2 => exact HC0_2.out); rintro e w30 ⟨rfl, hb⟩; refine ⟨_, rfl, ?_⟩; have n0_ := am_ (bw_ BK196 hb); have n1_ := am_ (bw_ BK197 hb); have n2_ := am_ (below_step (bb_ HB.out) hb); clear BK196 BK197 HB; revert n0_ n1_ n2_; intro BK196 BK197 HB; (try clear hb); (try clear hb2); (try clear hk); (try clear hi); have hcz31_0 : w30.cell? ⟨gb197, 0, none⟩ = some (.int .i64 a1_0) := bc_ BK197 0; have hcz31_1 : w30.cell? ⟨gb197, 1, none⟩ = some (.int .i64 a1_1) := bc_ BK197 1; have hcz31_2 : w30.cell? ⟨gb197, 2, none⟩ = some (.slice A1_2 l1_2.length c1_2) := bc_ BK197 2; have hfz31_0 := blk_frozen BK197.out 0; have hfz31_1 := blk_frozen BK197.out 1; have hfz31_2 := blk_frozen BK197.out 2) | ((with_reducible refine gate_callee (f := 13) rfl ?_); refine goesL_ (some 24) rfl rfl Try.func13 (by kernel_rfl) rfl #[.agg #[.int .i64 a1_0, .int .i64 a1_1, .slice A1_2 l1_2.length c1_2], .int .i64 t198] rfl lm_ ?_; (with_reducible refine (laws_szMatrix.calls a1_0 a1_1 _ _ l1_2 t198 t199 _ ?side1 ?side2 A10.out).mono ?_); (case side1 => repeat (first | exact (Kd.C_below HR1_2.out HB.out) | (with_reducible refine Kd.C_alloc ?_ _) | (with_reducible refine Kd.C_drewN ?_ _) | (with_reducible refine Kd.C_drew ?_))); (case side2 => exact HC1_2.out); rintro e w32 ⟨rfl, hb⟩; refine ⟨_, rfl, ?_⟩; have n0_ := am_ (bw_ BK196 hb); have n1_ := am_ (bw_ BK197 hb); have n2_ := am_ (below_step (bb_ HB.out) hb); clear BK196 BK197 HB; revert n0_ n1_ n2_; intro BK196 BK197 HB; (try clear hb); (try clear hb2); (try clear hk); (try clear hi)))
   have n0_ := am_ (blk_drew BK196.out)
   have n1_ := am_ (blk_drew BK197.out)
   have n2_ := am_ (below_drew1 HB.out)
   clear BK196 BK197 HB; revert n0_ n1_ n2_; intro BK196 BK197 HB
   refine start_ (n := 11) (S := fun w' => w'.cell? ⟨gb196, 0, none⟩ = some (.int .i64 a0_0) ∧ w'.cell? ⟨gb196, 1, none⟩ = some (.int .i64 a0_1) ∧ w'.cell? ⟨gb196, 2, none⟩ = some (.slice A0_2 l0_2.length c0_2) ∧ w'.cell? ⟨gb197, 0, none⟩ = some (.int .i64 a1_0) ∧ w'.cell? ⟨gb197, 1, none⟩ = some (.int .i64 a1_1) ∧ w'.cell? ⟨gb197, 2, none⟩ = some (.slice A1_2 l1_2.length c1_2)) (ds := []) #[false, false, false, false, false, false, false, false, false, false, false] (by kernel_rfl) rfl rfl ⟨bc_ BK196 0, bc_ BK196 1, bc_ BK196 2, bc_ BK197 0, bc_ BK197 1, bc_ BK197 2⟩ (fun hHeld => ?_); refine with_tabW laws_FnExactMultiplyMatrices.tab8 laws_FnExactMultiplyMatrices.bits8 (fun HT_ HW_ => ?_)
   generalize w32.drew = w33 at BK196 BK197 HB hHeld ⊢
   refine take_ (i := 0) (N := some 28) (v := ?_) (a' := ?_) #[true, false, false, false, false, false, false, false, false, false, false] rfl rfl (take_ofW HT_.out HW_.out (by kernel_rfl)) (fun _ _ _ h => h) (Or.inl ⟨by rfl, ?_⟩) hHeld ?_ ?_
   rotate_left
   ·rintro w' ⟨s0, s1, s2, s3, s4, s5⟩
    go_simp
    with_reducible rfl
   rotate_left
   ·simp only [Act.put, List.setIfInBounds_toArray, List.set_cons_zero, List.set_cons_succ, i64_w, i32_w]
    rfl
   refine take_ (i := 2) (N := some 30) (v := ?_) (a' := ?_) #[true, false, true, false, false, false, false, false, false, false, false] rfl rfl (take_ofW HT_.out HW_.out (by kernel_rfl)) (fun _ _ _ h => h) (Or.inl ⟨by rfl, ?_⟩) hHeld ?_ ?_
   rotate_left
   ·rintro w' ⟨s0, s1, s2, s3, s4, s5⟩
    go_simp
    with_reducible rfl
   rotate_left
   ·simp only [Act.put, List.setIfInBounds_toArray, List.set_cons_zero, List.set_cons_succ, i64_w, i32_w]
    rfl
   refine join_ (σ := Value × Value × Value × Nat) 2 #[true, true, true, true, true, true, true, true, true, false, false] (fun s_ => [(29, .agg #[.int .i64 t200, .int .i64 t201, s_.1]), (31, .agg #[.int .i64 t205, .int .i64 t206, s_.2.1]), (32, .tuple #[.agg #[.int .i64 t210, .int .i64 t211, s_.2.2.1], .int .i64 t215]), (6, .pointer (some ⟨s_.2.2.2, 0, none⟩)), (27, .tuple #[.agg #[.int .i64 t210, .int .i64 t211, s_.2.2.1], .int .i64 t215]), (33, .agg #[.int .i64 t210, .int .i64 t211, s_.2.2.1]), (34, .int .i64 t215)]) (fun s_ w' => (w'.cell? ⟨gb196, 0, none⟩ = some (.int .i64 a0_0) ∧ w'.cell? ⟨gb196, 1, none⟩ = some (.int .i64 a0_1) ∧ w'.cell? ⟨gb196, 2, none⟩ = some (.slice A0_2 l0_2.length c0_2) ∧ w'.cell? ⟨gb197, 0, none⟩ = some (.int .i64 a1_0) ∧ w'.cell? ⟨gb197, 1, none⟩ = some (.int .i64 a1_1) ∧ w'.cell? ⟨gb197, 2, none⟩ = some (.slice A1_2 l1_2.length c1_2)) ∧ (Kd.R (Kd.int .i64) 2 w' w.heap.size (fun k_ => some k_ ≠ (s_.2.1 : Value).ownBlock ∧ some k_ ≠ (s_.2.2.1 : Value).ownBlock) s_.1 t202) ∧ (Kd.R (Kd.int .i64) 2 w' w.heap.size (fun k_ => some k_ ≠ (s_.1 : Value).ownBlock ∧ some k_ ≠ (s_.2.2.1 : Value).ownBlock) s_.2.1 t207) ∧ (Kd.R (Kd.int .i64) 2 w' w.heap.size (fun k_ => some k_ ≠ (s_.1 : Value).ownBlock ∧ some k_ ≠ (s_.2.1 : Value).ownBlock) s_.2.2.1 t212) ∧ (w'.heap[gb196]? = some (.cells #[.int .i64 a0_0, .int .i64 a0_1, .slice A0_2 l0_2.length c0_2] 24 (0, 0))) ∧ (w'.heap[gb197]? = some (.cells #[.int .i64 a1_0, .int .i64 a1_1, .slice A1_2 l1_2.length c1_2] 24 (0, 0))) ∧ (w'.heap[s_.2.2.2]? = some (.cells #[.int .i64 0, .int .i64 0, .slice none 0 0] 27 (0, 0))) ∧ (w.heap.size ≤ s_.2.2.2) ∧ (w.heap.size ≤ s_.2.2.2) ∧ (gb196 ≠ s_.2.2.2) ∧ (s_.2.2.2 ≠ gb196) ∧ (gb197 ≠ s_.2.2.2) ∧ (s_.2.2.2 ≠ gb197) ∧ (Below w.heap.size w w')) ?_ ?_
   rotate_left
   ·intro hCont
    refine two_ (i := 1) (j := 8) (Ni := some 29) (Nj := some 6) #[true, true, true, false, false, false, false, false, false, false, false] #[true, false, true, false, false, false, false, false, true, false, false] rfl rfl rfl rfl (two_of HT_.out (by kernel_rfl)) (by decide) (by decide) (fun K hK => ?_) (fun K hK => ?_)
    ·skip
     refine goes_ Try.func15 (by kernel_rfl) rfl #[.agg #[.int .i64 a0_0, .int .i64 a0_1, .slice A0_2 l0_2.length c0_2]] (by rfl) rfl rfl lm_ ?_
     with_reducible refine (laws_toMatrix.calls k a0_0 a0_1 _ _ l0_2 t200 t201 t202 _ ?side1 ?side2 A19.out).mono ?_
     (case side1 => repeat (first | exact (Kd.C_below HR0_2.out HB.out) | (with_reducible refine Kd.C_alloc ?_ _) | (with_reducible refine Kd.C_drewN ?_ _) | (with_reducible refine Kd.C_drew ?_)))
     (case side2 => exact HC0_2.out)
     rintro e w34 ⟨v203, rfl, ho0, hb⟩
     refine ⟨_, rfl, ?_⟩
     have n0_ := am_ (Kd.R_lower ho0 (below_size (bb_ HB.out)))
     have n1_ := am_ (bw_ BK196 hb)
     have n2_ := am_ (bw_ BK197 hb)
     have n3_ := am_ (below_step (bb_ HB.out) hb)
     clear BK196 BK197 HB; revert n0_ n1_ n2_ n3_; intro HO204 BK196 BK197 HB
     (try clear hb)
     (try clear hb2)
     (try clear hk)
     (try clear hi)
     (try clear ho0)
     refine hK.out _ _ ⟨bc_ BK196 0, bc_ BK196 1, bc_ BK196 2, bc_ BK197 0, bc_ BK197 1, bc_ BK197 2⟩ (fun hHeld => ?_)
     clear hK K
     refine norm_ (a' := ?_) ?_ ?_
     rotate_left
     ·show Act.put _ (some 29) _ = _
      simp only [Act.put, List.setIfInBounds_toArray, List.set_cons_zero, List.set_cons_succ, i64_w, i32_w]
      rfl
     refine two_ (i := 3) (j := 8) (Ni := some 31) (Nj := some 6) #[true, true, true, true, false, false, false, false, false, false, false] #[true, true, true, false, false, false, false, false, true, false, false] rfl rfl rfl rfl (two_of HT_.out (by kernel_rfl)) (by decide) (by decide) (fun K hK => ?_) (fun K hK => ?_)
     ·skip
      refine goes_ Try.func15 (by kernel_rfl) rfl #[.agg #[.int .i64 a1_0, .int .i64 a1_1, .slice A1_2 l1_2.length c1_2]] (by rfl) rfl rfl lm_ ?_
      with_reducible refine (laws_toMatrix.calls k a1_0 a1_1 _ _ l1_2 t205 t206 t207 _ ?side1 ?side2 A20.out).mono ?_
      (case side1 => repeat (first | exact (Kd.C_below HR1_2.out HB.out) | (with_reducible refine Kd.C_alloc ?_ _) | (with_reducible refine Kd.C_drewN ?_ _) | (with_reducible refine Kd.C_drew ?_)))
      (case side2 => exact HC1_2.out)
      rintro e w35 ⟨v208, rfl, ho0, hb⟩
      refine ⟨_, rfl, ?_⟩
      have n0_ := am_ (Kd.R_elder' (rk_ HO204.out) (Kd.R_base ho0) hb)
      have n1_ := am_ (Kd.R_lower (Kd.R_new' ho0 (Kd.R_lt (rk_ HO204.out))) (below_size (bb_ HB.out)))
      have n2_ := am_ (bw_ BK196 hb)
      have n3_ := am_ (bw_ BK197 hb)
      have n4_ := am_ (below_step (bb_ HB.out) hb)
      clear HO204 BK196 BK197 HB; revert n0_ n1_ n2_ n3_ n4_; intro HO204 HO209 BK196 BK197 HB
      (try clear hb)
      (try clear hb2)
      (try clear hk)
      (try clear hi)
      (try clear ho0)
      obtain ⟨Ao36, co36, eo36⟩ := Kd.R_slice HO204.out
      (first | subst eo36 | (injection eo36 with f1_ f2_ f3_; have f4_ := f1_.symm; have f5_ := f3_.symm; clear f1_ f2_ f3_; subst f4_; subst f5_))
      obtain ⟨Ao37, co37, eo37⟩ := Kd.R_slice HO209.out
      (first | subst eo37 | (injection eo37 with f1_ f2_ f3_; have f4_ := f1_.symm; have f5_ := f3_.symm; clear f1_ f2_ f3_; subst f4_; subst f5_))
      refine hK.out _ _ ⟨bc_ BK196 0, bc_ BK196 1, bc_ BK196 2, bc_ BK197 0, bc_ BK197 1, bc_ BK197 2⟩ (fun hHeld => ?_)
      clear hK K
      refine norm_ (a' := ?_) ?_ ?_
      rotate_left
      ·show Act.put _ (some 31) _ = _
       simp only [Act.put, List.setIfInBounds_toArray, List.set_cons_zero, List.set_cons_succ, i64_w, i32_w]
       rfl
      refine two_ (i := 4) (j := 8) (Ni := some 32) (Nj := some 6) #[true, true, true, true, true, false, false, false, false, false, false] #[true, true, true, true, false, false, false, false, true, false, false] rfl rfl rfl rfl (two_of HT_.out (by kernel_rfl)) (by decide) (by decide) (fun K hK => ?_) (fun K hK => ?_)
      ·skip
       refine goes_ Try.func28 (by kernel_rfl) rfl #[.agg #[.int .i64 t200, .int .i64 t201, .slice Ao36 t202.length co36], .agg #[.int .i64 t205, .int .i64 t206, .slice Ao37 t207.length co37]] (by rfl) rfl rfl lm_ ?_
       with_reducible refine (spec_MultiplyMatrices.calls k t200 t201 _ _ t202 t205 t206 _ _ t207 t210 t211 t212 t215 _ ?side1 ?side2 ?side3 ?side4 A21.out).mono ?_
       (case side1 => repeat (first | exact (Kd.R_reads' HO204.out).2.2 | (with_reducible refine Kd.C_alloc ?_ _) | (with_reducible refine Kd.C_drewN ?_ _) | (with_reducible refine Kd.C_drew ?_)))
       (case side2 => exact (Kd.R_reads' HO204.out).2.1)
       (case side3 => repeat (first | exact (Kd.R_reads' HO209.out).2.2 | (with_reducible refine Kd.C_alloc ?_ _) | (with_reducible refine Kd.C_drewN ?_ _) | (with_reducible refine Kd.C_drew ?_)))
       (case side4 => exact (Kd.R_reads' HO209.out).2.1)
       rintro e w38 ⟨v213, rfl, ho0, hb⟩
       refine ⟨_, rfl, ?_⟩
       have n0_ := am_ (Kd.R_elder' (rk_ HO204.out) (Kd.R_base ho0) hb)
       have n1_ := am_ (Kd.R_elder' (rk_ HO209.out) (Kd.R_base ho0) hb)
       have n2_ := am_ (Kd.R_lower (Kd.R_new' (Kd.R_new' ho0 (Kd.R_lt (rk_ HO204.out))) (Kd.R_lt (rk_ HO209.out))) (below_size (bb_ HB.out)))
       have n3_ := am_ (bw_ BK196 hb)
       have n4_ := am_ (bw_ BK197 hb)
       have n5_ := am_ (below_step (bb_ HB.out) hb)
       clear HO204 HO209 BK196 BK197 HB; revert n0_ n1_ n2_ n3_ n4_ n5_; intro HO204 HO209 HO214 BK196 BK197 HB
       (try clear hb)
       (try clear hb2)
       (try clear hk)
       (try clear hi)
       (try clear ho0)
       refine hK.out _ _ ⟨bc_ BK196 0, bc_ BK196 1, bc_ BK196 2, bc_ BK197 0, bc_ BK197 1, bc_ BK197 2⟩ (fun hHeld => ?_)
       clear hK K
       refine norm_ (a' := ?_) ?_ ?_
       rotate_left
       ·show Act.put _ (some 32) _ = _
        simp only [Act.put, List.setIfInBounds_toArray, List.set_cons_zero, List.set_cons_succ, i64_w, i32_w]
        rfl
       refine pure_ (i := 5) (N := some 27) (v := ?_) (a' := ?_) #[true, true, true, true, true, true, false, false, false, false, false] rfl rfl (any_of HT_.out (by kernel_rfl)) (fun _ _ _ h => h) (Or.inl ⟨by rfl, ?_⟩) ?_ ?_
       rotate_left
       ·intro w'
        go_simp
        with_reducible rfl
       rotate_left
       ·simp only [Act.put, List.setIfInBounds_toArray, List.set_cons_zero, List.set_cons_succ, i64_w, i32_w]
        rfl
       refine pure_ (i := 6) (N := some 33) (v := ?_) (a' := ?_) #[true, true, true, true, true, true, true, false, false, false, false] rfl rfl (any_of HT_.out (by kernel_rfl)) (fun _ _ _ h => h) (Or.inl ⟨by rfl, ?_⟩) ?_ ?_
       rotate_left
       ·intro w'
        go_simp
        with_reducible rfl
       rotate_left
       ·simp only [Act.put, List.setIfInBounds_toArray, List.set_cons_zero, List.set_cons_succ, i64_w, i32_w]
        rfl
       refine pure_ (i := 7) (N := some 34) (v := ?_) (a' := ?_) #[true, true, true, true, true, true, true, true, false, false, false] rfl rfl (any_of HT_.out (by kernel_rfl)) (fun _ _ _ h => h) (Or.inl ⟨by rfl, ?_⟩) ?_ ?_
       rotate_left
       ·intro w'
        go_simp
        with_reducible rfl
       rotate_left
       ·simp only [Act.put, List.setIfInBounds_toArray, List.set_cons_zero, List.set_cons_succ, i64_w, i32_w]
        rfl
       refine one_ (i := 8) (N := some 6) #[true, true, true, true, true, true, true, true, true, false, false] rfl rfl (one_of HT_.out (by kernel_rfl)) (by decide) (fun K hK => ?_)
       refine box_step ?hg (N := 6) ?hd (cs := #[.int .i64 0, .int .i64 0, .slice none 0 0]) (t := 27) ?hr ?_; (case hd => rfl); (case hg => rfl); (case hr => first | (go_simp; done) | (go_simp; rfl))
       intro gb216 hg w39 hbox hb
       have n0_ := am_ (Kd.R_below (rk_ HO204.out) hb)
       have n1_ := am_ (Kd.R_below (rk_ HO209.out) hb)
       have n2_ := am_ (Kd.R_below (rk_ HO214.out) hb)
       have n3_ := am_ (bw_ BK196 hb)
       have n4_ := am_ (bw_ BK197 hb)
       have n5_ := am_ (below_step (bb_ HB.out) hb)
       have n6_ := am_ (hbox)
       have n7_ := am_ ((by rw [hg]; exact (below_size (bb_ HB.out)) : w.heap.size ≤ gb216))
       have n8_ := am_ ((by rw [hg]; exact (below_size (bb_ HB.out)) : w.heap.size ≤ gb216))
       have n9_ := am_ ((by rw [hg]; exact Nat.ne_of_lt (bl_ BK196) : gb196 ≠ gb216))
       have n10_ := am_ ((by rw [hg]; exact Nat.ne_of_gt (bl_ BK196) : gb216 ≠ gb196))
       have n11_ := am_ ((by rw [hg]; exact Nat.ne_of_lt (bl_ BK197) : gb197 ≠ gb216))
       have n12_ := am_ ((by rw [hg]; exact Nat.ne_of_gt (bl_ BK197) : gb216 ≠ gb197))
       clear HO204 HO209 HO214 BK196 BK197 HB; revert n0_ n1_ n2_ n3_ n4_ n5_ n6_ n7_ n8_ n9_ n10_ n11_ n12_; intro HO204 HO209 HO214 BK196 BK197 HB BK216 GW216 GE216 NB196_216 NB216_196 NB197_216 NB216_197
       clear hb hbox hg
       refine hK.out _ _ ⟨bc_ BK196 0, bc_ BK196 1, bc_ BK196 2, bc_ BK197 0, bc_ BK197 1, bc_ BK197 2⟩ (fun hHeld => ?_)
       clear hK K
       refine norm_ (a' := ?_) ?_ ?_
       rotate_left
       ·show Act.put _ (some 6) _ = _
        simp only [Act.put, List.setIfInBounds_toArray, List.set_cons_zero, List.set_cons_succ, i64_w, i32_w]
        rfl
       exact norm_ (by simp only [putAll, Act.put, List.setIfInBounds_toArray, List.set_cons_zero, List.set_cons_succ]) (hCont (.slice Ao36 t202.length co36, .slice Ao37 t207.length co37, v213, gb216) _ ⟨hHeld, (rm_ HO204.out (fun _ hk => ⟨hk.1.2, hk.2⟩)), (rm_ HO209.out (fun _ hk => ⟨hk.1.2, hk.2⟩)), (rm_ HO214.out (fun _ hk => ⟨hk.1.2, hk.2⟩)), (bk_ BK196.out), (bk_ BK197.out), (bk_ BK216.out), GW216.out, GE216.out, NB196_216.out, NB216_196.out, NB197_216.out, NB216_197.out, (bb_ HB.out)⟩)
      ·skip
       refine box_step ?hg (N := 6) ?hd (cs := #[.int .i64 0, .int .i64 0, .slice none 0 0]) (t := 27) ?hr ?_; (case hd => rfl); (case hg => rfl); (case hr => first | (go_simp; done) | (go_simp; rfl))
       intro gb216 hg w36 hbox hb
       have n0_ := am_ (Kd.R_below (rk_ HO204.out) hb)
       have n1_ := am_ (Kd.R_below (rk_ HO209.out) hb)
       have n2_ := am_ (bw_ BK196 hb)
       have n3_ := am_ (bw_ BK197 hb)
       have n4_ := am_ (below_step (bb_ HB.out) hb)
       have n5_ := am_ (hbox)
       have n6_ := am_ ((by rw [hg]; exact (below_size (bb_ HB.out)) : w.heap.size ≤ gb216))
       have n7_ := am_ ((by rw [hg]; exact (below_size (bb_ HB.out)) : w.heap.size ≤ gb216))
       have n8_ := am_ ((by rw [hg]; exact Nat.ne_of_lt (bl_ BK196) : gb196 ≠ gb216))
       have n9_ := am_ ((by rw [hg]; exact Nat.ne_of_gt (bl_ BK196) : gb216 ≠ gb196))
       have n10_ := am_ ((by rw [hg]; exact Nat.ne_of_lt (bl_ BK197) : gb197 ≠ gb216))
       have n11_ := am_ ((by rw [hg]; exact Nat.ne_of_gt (bl_ BK197) : gb216 ≠ gb197))
       clear HO204 HO209 BK196 BK197 HB; revert n0_ n1_ n2_ n3_ n4_ n5_ n6_ n7_ n8_ n9_ n10_ n11_; intro HO204 HO209 BK196 BK197 HB BK216 GW216 GE216 NB196_216 NB216_196 NB197_216 NB216_197
       clear hb hbox hg
       obtain ⟨Ao37, co37, eo37⟩ := Kd.R_slice HO204.out
       (first | subst eo37 | (injection eo37 with f1_ f2_ f3_; have f4_ := f1_.symm; have f5_ := f3_.symm; clear f1_ f2_ f3_; subst f4_; subst f5_))
       obtain ⟨Ao38, co38, eo38⟩ := Kd.R_slice HO209.out
       (first | subst eo38 | (injection eo38 with f1_ f2_ f3_; have f4_ := f1_.symm; have f5_ := f3_.symm; clear f1_ f2_ f3_; subst f4_; subst f5_))
       refine hK.out _ _ ⟨bc_ BK196 0, bc_ BK196 1, bc_ BK196 2, bc_ BK197 0, bc_ BK197 1, bc_ BK197 2⟩ (fun hHeld => ?_)
       clear hK K
       refine norm_ (a' := ?_) ?_ ?_
       rotate_left
       ·show Act.put _ (some 6) _ = _
        simp only [Act.put, List.setIfInBounds_toArray, List.set_cons_zero, List.set_cons_succ, i64_w, i32_w]
        rfl
       refine one_ (i := 4) (N := some 32) #[true, true, true, true, true, false, false, false, true, false, false] rfl rfl (one_of HT_.out (by kernel_rfl)) (by decide) (fun K hK => ?_)
       refine goes_ Try.func28 (by kernel_rfl) rfl #[.agg #[.int .i64 t200, .int .i64 t201, .slice Ao37 t202.length co37], .agg #[.int .i64 t205, .int .i64 t206, .slice Ao38 t207.length co38]] (by rfl) rfl rfl lm_ ?_
       with_reducible refine (spec_MultiplyMatrices.calls k t200 t201 _ _ t202 t205 t206 _ _ t207 t210 t211 t212 t215 _ ?side1 ?side2 ?side3 ?side4 A21.out).mono ?_
       (case side1 => repeat (first | exact (Kd.R_reads' HO204.out).2.2 | (with_reducible refine Kd.C_alloc ?_ _) | (with_reducible refine Kd.C_drewN ?_ _) | (with_reducible refine Kd.C_drew ?_)))
       (case side2 => exact (Kd.R_reads' HO204.out).2.1)
       (case side3 => repeat (first | exact (Kd.R_reads' HO209.out).2.2 | (with_reducible refine Kd.C_alloc ?_ _) | (with_reducible refine Kd.C_drewN ?_ _) | (with_reducible refine Kd.C_drew ?_)))
       (case side4 => exact (Kd.R_reads' HO209.out).2.1)
       rintro e w39 ⟨v213, rfl, ho0, hb⟩
       refine ⟨_, rfl, ?_⟩
       have n0_ := am_ (Kd.R_elder' (rk_ HO204.out) (Kd.R_base ho0) hb)
       have n1_ := am_ (Kd.R_elder' (rk_ HO209.out) (Kd.R_base ho0) hb)
       have n2_ := am_ (Kd.R_lower (Kd.R_new' (Kd.R_new' ho0 (Kd.R_lt (rk_ HO204.out))) (Kd.R_lt (rk_ HO209.out))) (below_size (bb_ HB.out)))
       have n3_ := am_ (bw_ BK196 hb)
       have n4_ := am_ (bw_ BK197 hb)
       have n5_ := am_ (bw_ BK216 hb)
       have n6_ := am_ (below_step (bb_ HB.out) hb)
       clear HO204 HO209 BK196 BK197 BK216 HB; revert n0_ n1_ n2_ n3_ n4_ n5_ n6_; intro HO204 HO209 HO214 BK196 BK197 BK216 HB
       (try clear hb)
       (try clear hb2)
       (try clear hk)
       (try clear hi)
       (try clear ho0)
       refine hK.out _ _ ⟨bc_ BK196 0, bc_ BK196 1, bc_ BK196 2, bc_ BK197 0, bc_ BK197 1, bc_ BK197 2⟩ (fun hHeld => ?_)
       clear hK K
       refine norm_ (a' := ?_) ?_ ?_
       rotate_left
       ·show Act.put _ (some 32) _ = _
        simp only [Act.put, List.setIfInBounds_toArray, List.set_cons_zero, List.set_cons_succ, i64_w, i32_w]
        rfl
       refine pure_ (i := 5) (N := some 27) (v := ?_) (a' := ?_) #[true, true, true, true, true, true, false, false, true, false, false] rfl rfl (any_of HT_.out (by kernel_rfl)) (fun _ _ _ h => h) (Or.inl ⟨by rfl, ?_⟩) ?_ ?_
       rotate_left
       ·intro w'
        go_simp
        with_reducible rfl
       rotate_left
       ·simp only [Act.put, List.setIfInBounds_toArray, List.set_cons_zero, List.set_cons_succ, i64_w, i32_w]
        rfl
       refine pure_ (i := 6) (N := some 33) (v := ?_) (a' := ?_) #[true, true, true, true, true, true, true, false, true, false, false] rfl rfl (any_of HT_.out (by kernel_rfl)) (fun _ _ _ h => h) (Or.inl ⟨by rfl, ?_⟩) ?_ ?_
       rotate_left
       ·intro w'
        go_simp
        with_reducible rfl
       rotate_left
       ·simp only [Act.put, List.setIfInBounds_toArray, List.set_cons_zero, List.set_cons_succ, i64_w, i32_w]
        rfl
       refine pure_ (i := 7) (N := some 34) (v := ?_) (a' := ?_) #[true, true, true, true, true, true, true, true, true, false, false] rfl rfl (any_of HT_.out (by kernel_rfl)) (fun _ _ _ h => h) (Or.inl ⟨by rfl, ?_⟩) ?_ ?_
       rotate_left
       ·intro w'
        go_simp
        with_reducible rfl
       rotate_left
       ·simp only [Act.put, List.setIfInBounds_toArray, List.set_cons_zero, List.set_cons_succ, i64_w, i32_w]
        rfl
       exact norm_ (by simp only [putAll, Act.put, List.setIfInBounds_toArray, List.set_cons_zero, List.set_cons_succ]) (hCont (.slice Ao37 t202.length co37, .slice Ao38 t207.length co38, v213, gb216) _ ⟨hHeld, (rm_ HO204.out (fun _ hk => ⟨hk.1.2, hk.2⟩)), (rm_ HO209.out (fun _ hk => ⟨hk.1.2, hk.2⟩)), (rm_ HO214.out (fun _ hk => ⟨hk.1.2, hk.2⟩)), (bk_ BK196.out), (bk_ BK197.out), (bk_ BK216.out), GW216.out, GE216.out, NB196_216.out, NB216_196.out, NB197_216.out, NB216_197.out, (bb_ HB.out)⟩)
     ·skip
      refine box_step ?hg (N := 6) ?hd (cs := #[.int .i64 0, .int .i64 0, .slice none 0 0]) (t := 27) ?hr ?_; (case hd => rfl); (case hg => rfl); (case hr => first | (go_simp; done) | (go_simp; rfl))
      intro gb216 hg w35 hbox hb
      have n0_ := am_ (Kd.R_below (rk_ HO204.out) hb)
      have n1_ := am_ (bw_ BK196 hb)
      have n2_ := am_ (bw_ BK197 hb)
      have n3_ := am_ (below_step (bb_ HB.out) hb)
      have n4_ := am_ (hbox)
      have n5_ := am_ ((by rw [hg]; exact (below_size (bb_ HB.out)) : w.heap.size ≤ gb216))
      have n6_ := am_ ((by rw [hg]; exact (below_size (bb_ HB.out)) : w.heap.size ≤ gb216))
      have n7_ := am_ ((by rw [hg]; exact Nat.ne_of_lt (bl_ BK196) : gb196 ≠ gb216))
      have n8_ := am_ ((by rw [hg]; exact Nat.ne_of_gt (bl_ BK196) : gb216 ≠ gb196))
      have n9_ := am_ ((by rw [hg]; exact Nat.ne_of_lt (bl_ BK197) : gb197 ≠ gb216))
      have n10_ := am_ ((by rw [hg]; exact Nat.ne_of_gt (bl_ BK197) : gb216 ≠ gb197))
      clear HO204 BK196 BK197 HB; revert n0_ n1_ n2_ n3_ n4_ n5_ n6_ n7_ n8_ n9_ n10_; intro HO204 BK196 BK197 HB BK216 GW216 GE216 NB196_216 NB216_196 NB197_216 NB216_197
      clear hb hbox hg
      refine hK.out _ _ ⟨bc_ BK196 0, bc_ BK196 1, bc_ BK196 2, bc_ BK197 0, bc_ BK197 1, bc_ BK197 2⟩ (fun hHeld => ?_)
      clear hK K
      refine norm_ (a' := ?_) ?_ ?_
      rotate_left
      ·show Act.put _ (some 6) _ = _
       simp only [Act.put, List.setIfInBounds_toArray, List.set_cons_zero, List.set_cons_succ, i64_w, i32_w]
       rfl
      refine one_ (i := 3) (N := some 31) #[true, true, true, true, false, false, false, false, true, false, false] rfl rfl (one_of HT_.out (by kernel_rfl)) (by decide) (fun K hK => ?_)
      refine goes_ Try.func15 (by kernel_rfl) rfl #[.agg #[.int .i64 a1_0, .int .i64 a1_1, .slice A1_2 l1_2.length c1_2]] (by rfl) rfl rfl lm_ ?_
      with_reducible refine (laws_toMatrix.calls k a1_0 a1_1 _ _ l1_2 t205 t206 t207 _ ?side1 ?side2 A20.out).mono ?_
      (case side1 => repeat (first | exact (Kd.C_below HR1_2.out HB.out) | (with_reducible refine Kd.C_alloc ?_ _) | (with_reducible refine Kd.C_drewN ?_ _) | (with_reducible refine Kd.C_drew ?_)))
      (case side2 => exact HC1_2.out)
      rintro e w36 ⟨v208, rfl, ho0, hb⟩
      refine ⟨_, rfl, ?_⟩
      have n0_ := am_ (Kd.R_elder' (rk_ HO204.out) (Kd.R_base ho0) hb)
      have n1_ := am_ (Kd.R_lower (Kd.R_new' ho0 (Kd.R_lt (rk_ HO204.out))) (below_size (bb_ HB.out)))
      have n2_ := am_ (bw_ BK196 hb)
      have n3_ := am_ (bw_ BK197 hb)
      have n4_ := am_ (bw_ BK216 hb)
      have n5_ := am_ (below_step (bb_ HB.out) hb)
      clear HO204 BK196 BK197 BK216 HB; revert n0_ n1_ n2_ n3_ n4_ n5_; intro HO204 HO209 BK196 BK197 BK216 HB
      (try clear hb)
      (try clear hb2)
      (try clear hk)
      (try clear hi)
      (try clear ho0)
      obtain ⟨Ao37, co37, eo37⟩ := Kd.R_slice HO204.out
      (first | subst eo37 | (injection eo37 with f1_ f2_ f3_; have f4_ := f1_.symm; have f5_ := f3_.symm; clear f1_ f2_ f3_; subst f4_; subst f5_))
      obtain ⟨Ao38, co38, eo38⟩ := Kd.R_slice HO209.out
      (first | subst eo38 | (injection eo38 with f1_ f2_ f3_; have f4_ := f1_.symm; have f5_ := f3_.symm; clear f1_ f2_ f3_; subst f4_; subst f5_))
      refine hK.out _ _ ⟨bc_ BK196 0, bc_ BK196 1, bc_ BK196 2, bc_ BK197 0, bc_ BK197 1, bc_ BK197 2⟩ (fun hHeld => ?_)
      clear hK K
      refine norm_ (a' := ?_) ?_ ?_
      rotate_left
      ·show Act.put _ (some 31) _ = _
       simp only [Act.put, List.setIfInBounds_toArray, List.set_cons_zero, List.set_cons_succ, i64_w, i32_w]
       rfl
      refine one_ (i := 4) (N := some 32) #[true, true, true, true, true, false, false, false, true, false, false] rfl rfl (one_of HT_.out (by kernel_rfl)) (by decide) (fun K hK => ?_)
      refine goes_ Try.func28 (by kernel_rfl) rfl #[.agg #[.int .i64 t200, .int .i64 t201, .slice Ao37 t202.length co37], .agg #[.int .i64 t205, .int .i64 t206, .slice Ao38 t207.length co38]] (by rfl) rfl rfl lm_ ?_
      with_reducible refine (spec_MultiplyMatrices.calls k t200 t201 _ _ t202 t205 t206 _ _ t207 t210 t211 t212 t215 _ ?side1 ?side2 ?side3 ?side4 A21.out).mono ?_
      (case side1 => repeat (first | exact (Kd.R_reads' HO204.out).2.2 | (with_reducible refine Kd.C_alloc ?_ _) | (with_reducible refine Kd.C_drewN ?_ _) | (with_reducible refine Kd.C_drew ?_)))
      (case side2 => exact (Kd.R_reads' HO204.out).2.1)
      (case side3 => repeat (first | exact (Kd.R_reads' HO209.out).2.2 | (with_reducible refine Kd.C_alloc ?_ _) | (with_reducible refine Kd.C_drewN ?_ _) | (with_reducible refine Kd.C_drew ?_)))
      (case side4 => exact (Kd.R_reads' HO209.out).2.1)
      rintro e w39 ⟨v213, rfl, ho0, hb⟩
      refine ⟨_, rfl, ?_⟩
      have n0_ := am_ (Kd.R_elder' (rk_ HO204.out) (Kd.R_base ho0) hb)
      have n1_ := am_ (Kd.R_elder' (rk_ HO209.out) (Kd.R_base ho0) hb)
      have n2_ := am_ (Kd.R_lower (Kd.R_new' (Kd.R_new' ho0 (Kd.R_lt (rk_ HO204.out))) (Kd.R_lt (rk_ HO209.out))) (below_size (bb_ HB.out)))
      have n3_ := am_ (bw_ BK196 hb)
      have n4_ := am_ (bw_ BK197 hb)
      have n5_ := am_ (bw_ BK216 hb)
      have n6_ := am_ (below_step (bb_ HB.out) hb)
      clear HO204 HO209 BK196 BK197 BK216 HB; revert n0_ n1_ n2_ n3_ n4_ n5_ n6_; intro HO204 HO209 HO214 BK196 BK197 BK216 HB
      (try clear hb)
      (try clear hb2)
      (try clear hk)
      (try clear hi)
      (try clear ho0)
      refine hK.out _ _ ⟨bc_ BK196 0, bc_ BK196 1, bc_ BK196 2, bc_ BK197 0, bc_ BK197 1, bc_ BK197 2⟩ (fun hHeld => ?_)
      clear hK K
      refine norm_ (a' := ?_) ?_ ?_
      rotate_left
      ·show Act.put _ (some 32) _ = _
       simp only [Act.put, List.setIfInBounds_toArray, List.set_cons_zero, List.set_cons_succ, i64_w, i32_w]
       rfl
      refine pure_ (i := 5) (N := some 27) (v := ?_) (a' := ?_) #[true, true, true, true, true, true, false, false, true, false, false] rfl rfl (any_of HT_.out (by kernel_rfl)) (fun _ _ _ h => h) (Or.inl ⟨by rfl, ?_⟩) ?_ ?_
      rotate_left
      ·intro w'
       go_simp
       with_reducible rfl
      rotate_left
      ·simp only [Act.put, List.setIfInBounds_toArray, List.set_cons_zero, List.set_cons_succ, i64_w, i32_w]
       rfl
      refine pure_ (i := 6) (N := some 33) (v := ?_) (a' := ?_) #[true, true, true, true, true, true, true, false, true, false, false] rfl rfl (any_of HT_.out (by kernel_rfl)) (fun _ _ _ h => h) (Or.inl ⟨by rfl, ?_⟩) ?_ ?_
      rotate_left
      ·intro w'
       go_simp
       with_reducible rfl
      rotate_left
      ·simp only [Act.put, List.setIfInBounds_toArray, List.set_cons_zero, List.set_cons_succ, i64_w, i32_w]
       rfl
      refine pure_ (i := 7) (N := some 34) (v := ?_) (a' := ?_) #[true, true, true, true, true, true, true, true, true, false, false] rfl rfl (any_of HT_.out (by kernel_rfl)) (fun _ _ _ h => h) (Or.inl ⟨by rfl, ?_⟩) ?_ ?_
      rotate_left
      ·intro w'
       go_simp
       with_reducible rfl
      rotate_left
      ·simp only [Act.put, List.setIfInBounds_toArray, List.set_cons_zero, List.set_cons_succ, i64_w, i32_w]
       rfl
      exact norm_ (by simp only [putAll, Act.put, List.setIfInBounds_toArray, List.set_cons_zero, List.set_cons_succ]) (hCont (.slice Ao37 t202.length co37, .slice Ao38 t207.length co38, v213, gb216) _ ⟨hHeld, (rm_ HO204.out (fun _ hk => ⟨hk.1.2, hk.2⟩)), (rm_ HO209.out (fun _ hk => ⟨hk.1.2, hk.2⟩)), (rm_ HO214.out (fun _ hk => ⟨hk.1.2, hk.2⟩)), (bk_ BK196.out), (bk_ BK197.out), (bk_ BK216.out), GW216.out, GE216.out, NB196_216.out, NB216_196.out, NB197_216.out, NB216_197.out, (bb_ HB.out)⟩)
    ·skip
     refine box_step ?hg (N := 6) ?hd (cs := #[.int .i64 0, .int .i64 0, .slice none 0 0]) (t := 27) ?hr ?_; (case hd => rfl); (case hg => rfl); (case hr => first | (go_simp; done) | (go_simp; rfl))
     intro gb216 hg w34 hbox hb
     have n0_ := am_ (bw_ BK196 hb)
     have n1_ := am_ (bw_ BK197 hb)
     have n2_ := am_ (below_step (bb_ HB.out) hb)
     have n3_ := am_ (hbox)
     have n4_ := am_ ((by rw [hg]; exact (below_size (bb_ HB.out)) : w.heap.size ≤ gb216))
     have n5_ := am_ ((by rw [hg]; exact (below_size (bb_ HB.out)) : w.heap.size ≤ gb216))
     have n6_ := am_ ((by rw [hg]; exact Nat.ne_of_lt (bl_ BK196) : gb196 ≠ gb216))
     have n7_ := am_ ((by rw [hg]; exact Nat.ne_of_gt (bl_ BK196) : gb216 ≠ gb196))
     have n8_ := am_ ((by rw [hg]; exact Nat.ne_of_lt (bl_ BK197) : gb197 ≠ gb216))
     have n9_ := am_ ((by rw [hg]; exact Nat.ne_of_gt (bl_ BK197) : gb216 ≠ gb197))
     clear BK196 BK197 HB; revert n0_ n1_ n2_ n3_ n4_ n5_ n6_ n7_ n8_ n9_; intro BK196 BK197 HB BK216 GW216 GE216 NB196_216 NB216_196 NB197_216 NB216_197
     clear hb hbox hg
     refine hK.out _ _ ⟨bc_ BK196 0, bc_ BK196 1, bc_ BK196 2, bc_ BK197 0, bc_ BK197 1, bc_ BK197 2⟩ (fun hHeld => ?_)
     clear hK K
     refine norm_ (a' := ?_) ?_ ?_
     rotate_left
     ·show Act.put _ (some 6) _ = _
      simp only [Act.put, List.setIfInBounds_toArray, List.set_cons_zero, List.set_cons_succ, i64_w, i32_w]
      rfl
     refine one_ (i := 1) (N := some 29) #[true, true, true, false, false, false, false, false, true, false, false] rfl rfl (one_of HT_.out (by kernel_rfl)) (by decide) (fun K hK => ?_)
     refine goes_ Try.func15 (by kernel_rfl) rfl #[.agg #[.int .i64 a0_0, .int .i64 a0_1, .slice A0_2 l0_2.length c0_2]] (by rfl) rfl rfl lm_ ?_
     with_reducible refine (laws_toMatrix.calls k a0_0 a0_1 _ _ l0_2 t200 t201 t202 _ ?side1 ?side2 A19.out).mono ?_
     (case side1 => repeat (first | exact (Kd.C_below HR0_2.out HB.out) | (with_reducible refine Kd.C_alloc ?_ _) | (with_reducible refine Kd.C_drewN ?_ _) | (with_reducible refine Kd.C_drew ?_)))
     (case side2 => exact HC0_2.out)
     rintro e w35 ⟨v203, rfl, ho0, hb⟩
     refine ⟨_, rfl, ?_⟩
     have n0_ := am_ (Kd.R_lower ho0 (below_size (bb_ HB.out)))
     have n1_ := am_ (bw_ BK196 hb)
     have n2_ := am_ (bw_ BK197 hb)
     have n3_ := am_ (bw_ BK216 hb)
     have n4_ := am_ (below_step (bb_ HB.out) hb)
     clear BK196 BK197 BK216 HB; revert n0_ n1_ n2_ n3_ n4_; intro HO204 BK196 BK197 BK216 HB
     (try clear hb)
     (try clear hb2)
     (try clear hk)
     (try clear hi)
     (try clear ho0)
     refine hK.out _ _ ⟨bc_ BK196 0, bc_ BK196 1, bc_ BK196 2, bc_ BK197 0, bc_ BK197 1, bc_ BK197 2⟩ (fun hHeld => ?_)
     clear hK K
     refine norm_ (a' := ?_) ?_ ?_
     rotate_left
     ·show Act.put _ (some 29) _ = _
      simp only [Act.put, List.setIfInBounds_toArray, List.set_cons_zero, List.set_cons_succ, i64_w, i32_w]
      rfl
     refine one_ (i := 3) (N := some 31) #[true, true, true, true, false, false, false, false, true, false, false] rfl rfl (one_of HT_.out (by kernel_rfl)) (by decide) (fun K hK => ?_)
     refine goes_ Try.func15 (by kernel_rfl) rfl #[.agg #[.int .i64 a1_0, .int .i64 a1_1, .slice A1_2 l1_2.length c1_2]] (by rfl) rfl rfl lm_ ?_
     with_reducible refine (laws_toMatrix.calls k a1_0 a1_1 _ _ l1_2 t205 t206 t207 _ ?side1 ?side2 A20.out).mono ?_
     (case side1 => repeat (first | exact (Kd.C_below HR1_2.out HB.out) | (with_reducible refine Kd.C_alloc ?_ _) | (with_reducible refine Kd.C_drewN ?_ _) | (with_reducible refine Kd.C_drew ?_)))
     (case side2 => exact HC1_2.out)
     rintro e w36 ⟨v208, rfl, ho0, hb⟩
     refine ⟨_, rfl, ?_⟩
     have n0_ := am_ (Kd.R_elder' (rk_ HO204.out) (Kd.R_base ho0) hb)
     have n1_ := am_ (Kd.R_lower (Kd.R_new' ho0 (Kd.R_lt (rk_ HO204.out))) (below_size (bb_ HB.out)))
     have n2_ := am_ (bw_ BK196 hb)
     have n3_ := am_ (bw_ BK197 hb)
     have n4_ := am_ (bw_ BK216 hb)
     have n5_ := am_ (below_step (bb_ HB.out) hb)
     clear HO204 BK196 BK197 BK216 HB; revert n0_ n1_ n2_ n3_ n4_ n5_; intro HO204 HO209 BK196 BK197 BK216 HB
     (try clear hb)
     (try clear hb2)
     (try clear hk)
     (try clear hi)
     (try clear ho0)
     obtain ⟨Ao37, co37, eo37⟩ := Kd.R_slice HO204.out
     (first | subst eo37 | (injection eo37 with f1_ f2_ f3_; have f4_ := f1_.symm; have f5_ := f3_.symm; clear f1_ f2_ f3_; subst f4_; subst f5_))
     obtain ⟨Ao38, co38, eo38⟩ := Kd.R_slice HO209.out
     (first | subst eo38 | (injection eo38 with f1_ f2_ f3_; have f4_ := f1_.symm; have f5_ := f3_.symm; clear f1_ f2_ f3_; subst f4_; subst f5_))
     refine hK.out _ _ ⟨bc_ BK196 0, bc_ BK196 1, bc_ BK196 2, bc_ BK197 0, bc_ BK197 1, bc_ BK197 2⟩ (fun hHeld => ?_)
     clear hK K
     refine norm_ (a' := ?_) ?_ ?_
     rotate_left
     ·show Act.put _ (some 31) _ = _
      simp only [Act.put, List.setIfInBounds_toArray, List.set_cons_zero, List.set_cons_succ, i64_w, i32_w]
      rfl
     refine one_ (i := 4) (N := some 32) #[true, true, true, true, true, false, false, false, true, false, false] rfl rfl (one_of HT_.out (by kernel_rfl)) (by decide) (fun K hK => ?_)
     refine goes_ Try.func28 (by kernel_rfl) rfl #[.agg #[.int .i64 t200, .int .i64 t201, .slice Ao37 t202.length co37], .agg #[.int .i64 t205, .int .i64 t206, .slice Ao38 t207.length co38]] (by rfl) rfl rfl lm_ ?_
     with_reducible refine (spec_MultiplyMatrices.calls k t200 t201 _ _ t202 t205 t206 _ _ t207 t210 t211 t212 t215 _ ?side1 ?side2 ?side3 ?side4 A21.out).mono ?_
     (case side1 => repeat (first | exact (Kd.R_reads' HO204.out).2.2 | (with_reducible refine Kd.C_alloc ?_ _) | (with_reducible refine Kd.C_drewN ?_ _) | (with_reducible refine Kd.C_drew ?_)))
     (case side2 => exact (Kd.R_reads' HO204.out).2.1)
     (case side3 => repeat (first | exact (Kd.R_reads' HO209.out).2.2 | (with_reducible refine Kd.C_alloc ?_ _) | (with_reducible refine Kd.C_drewN ?_ _) | (with_reducible refine Kd.C_drew ?_)))
     (case side4 => exact (Kd.R_reads' HO209.out).2.1)
     rintro e w39 ⟨v213, rfl, ho0, hb⟩
     refine ⟨_, rfl, ?_⟩
     have n0_ := am_ (Kd.R_elder' (rk_ HO204.out) (Kd.R_base ho0) hb)
     have n1_ := am_ (Kd.R_elder' (rk_ HO209.out) (Kd.R_base ho0) hb)
     have n2_ := am_ (Kd.R_lower (Kd.R_new' (Kd.R_new' ho0 (Kd.R_lt (rk_ HO204.out))) (Kd.R_lt (rk_ HO209.out))) (below_size (bb_ HB.out)))
     have n3_ := am_ (bw_ BK196 hb)
     have n4_ := am_ (bw_ BK197 hb)
     have n5_ := am_ (bw_ BK216 hb)
     have n6_ := am_ (below_step (bb_ HB.out) hb)
     clear HO204 HO209 BK196 BK197 BK216 HB; revert n0_ n1_ n2_ n3_ n4_ n5_ n6_; intro HO204 HO209 HO214 BK196 BK197 BK216 HB
     (try clear hb)
     (try clear hb2)
     (try clear hk)
     (try clear hi)
     (try clear ho0)
     refine hK.out _ _ ⟨bc_ BK196 0, bc_ BK196 1, bc_ BK196 2, bc_ BK197 0, bc_ BK197 1, bc_ BK197 2⟩ (fun hHeld => ?_)
     clear hK K
     refine norm_ (a' := ?_) ?_ ?_
     rotate_left
     ·show Act.put _ (some 32) _ = _
      simp only [Act.put, List.setIfInBounds_toArray, List.set_cons_zero, List.set_cons_succ, i64_w, i32_w]
      rfl
     refine pure_ (i := 5) (N := some 27) (v := ?_) (a' := ?_) #[true, true, true, true, true, true, false, false, true, false, false] rfl rfl (any_of HT_.out (by kernel_rfl)) (fun _ _ _ h => h) (Or.inl ⟨by rfl, ?_⟩) ?_ ?_
     rotate_left
     ·intro w'
      go_simp
      with_reducible rfl
     rotate_left
     ·simp only [Act.put, List.setIfInBounds_toArray, List.set_cons_zero, List.set_cons_succ, i64_w, i32_w]
      rfl
     refine pure_ (i := 6) (N := some 33) (v := ?_) (a' := ?_) #[true, true, true, true, true, true, true, false, true, false, false] rfl rfl (any_of HT_.out (by kernel_rfl)) (fun _ _ _ h => h) (Or.inl ⟨by rfl, ?_⟩) ?_ ?_
     rotate_left
     ·intro w'
      go_simp
      with_reducible rfl
     rotate_left
     ·simp only [Act.put, List.setIfInBounds_toArray, List.set_cons_zero, List.set_cons_succ, i64_w, i32_w]
      rfl
     refine pure_ (i := 7) (N := some 34) (v := ?_) (a' := ?_) #[true, true, true, true, true, true, true, true, true, false, false] rfl rfl (any_of HT_.out (by kernel_rfl)) (fun _ _ _ h => h) (Or.inl ⟨by rfl, ?_⟩) ?_ ?_
     rotate_left
     ·intro w'
      go_simp
      with_reducible rfl
     rotate_left
     ·simp only [Act.put, List.setIfInBounds_toArray, List.set_cons_zero, List.set_cons_succ, i64_w, i32_w]
      rfl
     exact norm_ (by simp only [putAll, Act.put, List.setIfInBounds_toArray, List.set_cons_zero, List.set_cons_succ]) (hCont (.slice Ao37 t202.length co37, .slice Ao38 t207.length co38, v213, gb216) _ ⟨hHeld, (rm_ HO204.out (fun _ hk => ⟨hk.1.2, hk.2⟩)), (rm_ HO209.out (fun _ hk => ⟨hk.1.2, hk.2⟩)), (rm_ HO214.out (fun _ hk => ⟨hk.1.2, hk.2⟩)), (bk_ BK196.out), (bk_ BK197.out), (bk_ BK216.out), GW216.out, GE216.out, NB196_216.out, NB216_196.out, NB197_216.out, NB216_197.out, (bb_ HB.out)⟩)
   rintro ⟨v203, v208, v213, gb216⟩ w40 ⟨hS_, h0_, h1_, h2_, h3_, h4_, h5_, h6_, h7_, h8_, h9_, h10_, h11_, h12_⟩
   have n0_ : Aside0 (Kd.R (Kd.int .i64) 2 w40 w.heap.size (fun k_ => some k_ ≠ (v208 : Value).ownBlock ∧ some k_ ≠ (v213 : Value).ownBlock) v203 t202) := ⟨h0_⟩
   have n1_ : Aside0 (Kd.R (Kd.int .i64) 2 w40 w.heap.size (fun k_ => some k_ ≠ (v203 : Value).ownBlock ∧ some k_ ≠ (v213 : Value).ownBlock) v208 t207) := ⟨h1_⟩
   have n2_ : Aside0 (Kd.R (Kd.int .i64) 2 w40 w.heap.size (fun k_ => some k_ ≠ (v203 : Value).ownBlock ∧ some k_ ≠ (v208 : Value).ownBlock) v213 t212) := ⟨h2_⟩
   have n3_ : Aside0 (w40.heap[gb196]? = some (.cells #[.int .i64 a0_0, .int .i64 a0_1, .slice A0_2 l0_2.length c0_2] 24 (0, 0))) := ⟨h3_⟩
   have n4_ : Aside0 (w40.heap[gb197]? = some (.cells #[.int .i64 a1_0, .int .i64 a1_1, .slice A1_2 l1_2.length c1_2] 24 (0, 0))) := ⟨h4_⟩
   have n5_ : Aside0 (w40.heap[gb216]? = some (.cells #[.int .i64 0, .int .i64 0, .slice none 0 0] 27 (0, 0))) := ⟨h5_⟩
   have n6_ : Aside0 (w.heap.size ≤ gb216) := ⟨h6_⟩
   have n7_ : Aside0 (w.heap.size ≤ gb216) := ⟨h7_⟩
   have n8_ : Aside0 (gb196 ≠ gb216) := ⟨h8_⟩
   have n9_ : Aside0 (gb216 ≠ gb196) := ⟨h9_⟩
   have n10_ : Aside0 (gb197 ≠ gb216) := ⟨h10_⟩
   have n11_ : Aside0 (gb216 ≠ gb197) := ⟨h11_⟩
   have n12_ : Aside0 (Below w.heap.size w w40) := ⟨h12_⟩
   clear BK196
   clear BK197
   clear HB
   clear h0_ h1_ h2_ h3_ h4_ h5_ h6_ h7_ h8_ h9_ h10_ h11_ h12_
   have HO204 := n0_
   have HO209 := n1_
   have HO214 := n2_
   have BK196 := n3_
   have BK197 := n4_
   have BK216 := n5_
   have GW216 := n6_
   have GE216 := n7_
   have NB196_216 := n8_
   have NB216_196 := n9_
   have NB197_216 := n10_
   have NB216_197 := n11_
   have HB := n12_
   clear n0_ n1_ n2_ n3_ n4_ n5_ n6_ n7_ n8_ n9_ n10_ n11_ n12_
   have hHeld : w40.cell? ⟨gb196, 0, none⟩ = some (.int .i64 a0_0) ∧ w40.cell? ⟨gb196, 1, none⟩ = some (.int .i64 a0_1) ∧ w40.cell? ⟨gb196, 2, none⟩ = some (.slice A0_2 l0_2.length c0_2) ∧ w40.cell? ⟨gb197, 0, none⟩ = some (.int .i64 a1_0) ∧ w40.cell? ⟨gb197, 1, none⟩ = some (.int .i64 a1_1) ∧ w40.cell? ⟨gb197, 2, none⟩ = some (.slice A1_2 l1_2.length c1_2) := hS_
   obtain ⟨Ao43, co43, eo43⟩ := Kd.R_slice HO214.out
   (first | subst eo43 | (injection eo43 with f1_ f2_ f3_; have f4_ := f1_.symm; have f5_ := f3_.symm; clear f1_ f2_ f3_; subst f4_; subst f5_))
   refine norm_ (a' := ?_) ?_ ?_
   rotate_left
   ·simp only [putAll, Act.put, List.setIfInBounds_toArray, List.set_cons_zero, List.set_cons_succ]
    rfl
   refine one_ (i := 9) (N := none) #[true, true, true, true, true, true, true, true, true, true, false] rfl rfl (one_of HT_.out (by kernel_rfl)) (by decide) (fun K hK => ?_)
   have hs41 : w40.cell? ⟨gb216, 0, none⟩ = some (.int .i64 0) := bc_ BK216 0
   have hfs41 := blk_frozen BK216.out 0
   have hns41_0 := NB196_216.out
   have hns41_1 := NB197_216.out
   have hms41_0 := NB216_196.out
   have hms41_1 := NB216_197.out
   have hs42 : w40.cell? ⟨gb216, 1, none⟩ = some (.int .i64 0) := bc_ BK216 1
   have hfs42 := blk_frozen BK216.out 1
   have hns42_0 := NB196_216.out
   have hns42_1 := NB197_216.out
   have hms42_0 := NB216_196.out
   have hms42_1 := NB216_197.out
   have hs44 : w40.cell? ⟨gb216, 2, none⟩ = some (.slice none 0 0) := bc_ BK216 2
   have hfs44 := blk_frozen BK216.out 2
   have hns44_0 := NB196_216.out
   have hns44_1 := NB197_216.out
   have hms44_0 := NB216_196.out
   have hms44_1 := NB216_197.out
   refine skip_ (w1 := ?_) (by rfl) rfl ?_ ?_
   rotate_left
   ·go_simp
    rfl
   refine hK.out _ _ ⟨((cell_far (p := ⟨gb216, _, none⟩) NB196_216.out _).trans (((cell_far (p := ⟨gb216, _, none⟩) NB196_216.out _).trans (((cell_far (p := ⟨gb216, _, none⟩) NB196_216.out _).trans (hHeld.1)))))), ((cell_far (p := ⟨gb216, _, none⟩) NB196_216.out _).trans (((cell_far (p := ⟨gb216, _, none⟩) NB196_216.out _).trans (((cell_far (p := ⟨gb216, _, none⟩) NB196_216.out _).trans (hHeld.2.1)))))), ((cell_far (p := ⟨gb216, _, none⟩) NB196_216.out _).trans (((cell_far (p := ⟨gb216, _, none⟩) NB196_216.out _).trans (((cell_far (p := ⟨gb216, _, none⟩) NB196_216.out _).trans (hHeld.2.2.1)))))), ((cell_far (p := ⟨gb216, _, none⟩) NB197_216.out _).trans (((cell_far (p := ⟨gb216, _, none⟩) NB197_216.out _).trans (((cell_far (p := ⟨gb216, _, none⟩) NB197_216.out _).trans (hHeld.2.2.2.1)))))), ((cell_far (p := ⟨gb216, _, none⟩) NB197_216.out _).trans (((cell_far (p := ⟨gb216, _, none⟩) NB197_216.out _).trans (((cell_far (p := ⟨gb216, _, none⟩) NB197_216.out _).trans (hHeld.2.2.2.2.1)))))), ((cell_far (p := ⟨gb216, _, none⟩) NB197_216.out _).trans (((cell_far (p := ⟨gb216, _, none⟩) NB197_216.out _).trans (((cell_far (p := ⟨gb216, _, none⟩) NB197_216.out _).trans (hHeld.2.2.2.2.2))))))⟩ (fun hHeld => ?_)
   clear hK K
   refine pure_ (i := 10) (N := some 7) (v := ?_) (a' := ?_) #[true, true, true, true, true, true, true, true, true, true, true] rfl rfl (any_of HT_.out (by kernel_rfl)) (fun _ _ _ h => h) (Or.inl ⟨by rfl, ?_⟩) ?_ ?_
   rotate_left
   ·intro w'
    go_simp
    with_reducible rfl
   rotate_left
   ·simp only [Act.put, List.setIfInBounds_toArray, List.set_cons_zero, List.set_cons_succ, i64_w, i32_w]
    rfl
   refine done_ (done_of HT_.out (by kernel_rfl)) ?_
   have hnb45 := NB196_216.out
   have hnc45 := NB216_196.out
   have hcz46_0 : w40.cell? ⟨gb196, 0, none⟩ = some (.int .i64 a0_0) := bc_ BK196 0
   have hcz46_1 : w40.cell? ⟨gb196, 1, none⟩ = some (.int .i64 a0_1) := bc_ BK196 1
   have hcz46_2 : w40.cell? ⟨gb196, 2, none⟩ = some (.slice A0_2 l0_2.length c0_2) := bc_ BK196 2
   have hfz46_0 := blk_frozen BK196.out 0
   have hfz46_1 := blk_frozen BK196.out 1
   have hfz46_2 := blk_frozen BK196.out 2
   go_upto_region 12 with (first | ((with_reducible refine gate_callee (f := 15) rfl ?_); refine goesL_ (some 36) rfl rfl Try.func15 (by kernel_rfl) rfl #[.agg #[.int .i64 a0_0, .int .i64 a0_1, .slice A0_2 l0_2.length c0_2]] rfl lm_ ?_; (with_reducible refine (laws_toMatrix.calls k a0_0 a0_1 _ _ l0_2 t217 t218 t219 _ ?side1 ?side2 A22.out).mono ?_); (case side1 => exact Kd.C_below HR0_2.out (bb_ HB.out)); (case side2 => exact HC0_2.out); rintro e w47 ⟨v220, rfl, ho0, hb⟩; refine ⟨_, rfl, ?_⟩; have n0_ := am_ (Kd.R_elder' ((rm_ (Kd.R_far (p := ⟨gb216, 2, none⟩) (Kd.R_far (p := ⟨gb216, 1, none⟩) (Kd.R_far (p := ⟨gb216, 0, none⟩) (Kd.R_types HO204.out BK216.out (by decide)) (fun _ hk => hk.2) (.int .i64 t210)) (fun _ hk => hk.2) (.int .i64 t211)) (fun _ hk => hk.2) (.slice Ao43 t212.length co43)) (fun _ h_ => h_.1))) (Kd.R_base ho0) hb); have n1_ := am_ (Kd.R_elder' ((rm_ (Kd.R_far (p := ⟨gb216, 2, none⟩) (Kd.R_far (p := ⟨gb216, 1, none⟩) (Kd.R_far (p := ⟨gb216, 0, none⟩) (Kd.R_types HO209.out BK216.out (by decide)) (fun _ hk => hk.2) (.int .i64 t210)) (fun _ hk => hk.2) (.int .i64 t211)) (fun _ hk => hk.2) (.slice Ao43 t212.length co43)) (fun _ h_ => h_.1))) (Kd.R_base ho0) hb); have n2_ := am_ (Kd.R_elder' ((rm_ (Kd.R_far (p := ⟨gb216, 2, none⟩) (Kd.R_far (p := ⟨gb216, 1, none⟩) (Kd.R_far (p := ⟨gb216, 0, none⟩) (Kd.R_types HO214.out BK216.out (by decide)) (fun _ hk => hk.2) (.int .i64 t210)) (fun _ hk => hk.2) (.int .i64 t211)) (fun _ hk => hk.2) (.slice Ao43 t212.length co43)) (fun _ h_ => h_.1))) (Kd.R_base ho0) hb); have n3_ := am_ (Kd.R_lower (Kd.R_new' (Kd.R_new' (Kd.R_new' ho0 (Kd.R_lt ((rm_ (Kd.R_far (p := ⟨gb216, 2, none⟩) (Kd.R_far (p := ⟨gb216, 1, none⟩) (Kd.R_far (p := ⟨gb216, 0, none⟩) (Kd.R_types HO204.out BK216.out (by decide)) (fun _ hk => hk.2) (.int .i64 t210)) (fun _ hk => hk.2) (.int .i64 t211)) (fun _ hk => hk.2) (.slice Ao43 t212.length co43)) (fun _ h_ => h_.1))))) (Kd.R_lt ((rm_ (Kd.R_far (p := ⟨gb216, 2, none⟩) (Kd.R_far (p := ⟨gb216, 1, none⟩) (Kd.R_far (p := ⟨gb216, 0, none⟩) (Kd.R_types HO209.out BK216.out (by decide)) (fun _ hk => hk.2) (.int .i64 t210)) (fun _ hk => hk.2) (.int .i64 t211)) (fun _ hk => hk.2) (.slice Ao43 t212.length co43)) (fun _ h_ => h_.1))))) (Kd.R_lt ((rm_ (Kd.R_far (p := ⟨gb216, 2, none⟩) (Kd.R_far (p := ⟨gb216, 1, none⟩) (Kd.R_far (p := ⟨gb216, 0, none⟩) (Kd.R_types HO214.out BK216.out (by decide)) (fun _ hk => hk.2) (.int .i64 t210)) (fun _ hk => hk.2) (.int .i64 t211)) (fun _ hk => hk.2) (.slice Ao43 t212.length co43)) (fun _ h_ => h_.1))))) (below_size (bb_ HB.out))); have n4_ := am_ (bw_ BK196 hb); have n5_ := am_ (bw_ BK197 hb); have n6_ := am_ (blk_below (g := gb216) (o := .cells #[.int .i64 t210, .int .i64 t211, .slice Ao43 t212.length co43] 27 (0, 0)) (by (with_reducible repeat (first | refine blk_drewN ?_ _ | refine blk_drew ?_ | refine blk_alloc ?_ _)); refine blk_put (cs := #[.int .i64 t210, .int .i64 t211, .slice none 0 0]) ?_ 2 _ rfl; (with_reducible repeat (first | refine blk_drewN ?_ _ | refine blk_drew ?_ | refine blk_alloc ?_ _)); refine blk_put (cs := #[.int .i64 t210, .int .i64 0, .slice none 0 0]) ?_ 1 _ rfl; (with_reducible repeat (first | refine blk_drewN ?_ _ | refine blk_drew ?_ | refine blk_alloc ?_ _)); refine blk_put (cs := #[.int .i64 0, .int .i64 0, .slice none 0 0]) ?_ 0 _ rfl; (with_reducible repeat (first | refine blk_drewN ?_ _ | refine blk_drew ?_ | refine blk_alloc ?_ _)); exact BK216.out) hb); have n7_ := am_ (below_step (bb_ HB.out) hb); clear HO204 HO209 HO214 BK196 BK197 BK216 HB; revert n0_ n1_ n2_ n3_ n4_ n5_ n6_ n7_; intro HO204 HO209 HO214 HO221 BK196 BK197 BK216 HB; (try clear hb); (try clear hb2); (try clear hk); (try clear hi); (try clear ho0)) | ((with_reducible refine gate_dst (N := 8) rfl ?_); refine box_event ?hg (N := 8) ?hd (cs := #[.int .i64 0, .int .i64 0, .slice none 0 0]) (t := 27) ?hr ?_; (case hd => rfl); (case hg => rfl); (case hr => first | (go_simp; done) | (go_simp; rfl)); intro gb222 hg w48 hbox hb; have n0_ := am_ (Kd.R_below (rk_ HO204.out) hb); have n1_ := am_ (Kd.R_below (rk_ HO209.out) hb); have n2_ := am_ (Kd.R_below (rk_ HO214.out) hb); have n3_ := am_ (Kd.R_below (rk_ HO221.out) hb); have n4_ := am_ (bw_ BK196 hb); have n5_ := am_ (bw_ BK197 hb); have n6_ := am_ (bw_ BK216 hb); have n7_ := am_ (below_step (bb_ HB.out) hb); have n8_ := am_ (hbox); have n9_ := am_ ((by rw [hg]; exact (below_size (bb_ HB.out)) : w.heap.size ≤ gb222)); have n10_ := am_ ((by rw [hg]; exact (below_size (bb_ HB.out)) : w.heap.size ≤ gb222)); have n11_ := am_ ((by rw [hg]; exact Nat.ne_of_lt (bl_ BK196) : gb196 ≠ gb222)); have n12_ := am_ ((by rw [hg]; exact Nat.ne_of_gt (bl_ BK196) : gb222 ≠ gb196)); have n13_ := am_ ((by rw [hg]; exact Nat.ne_of_lt (bl_ BK197) : gb197 ≠ gb222)); have n14_ := am_ ((by rw [hg]; exact Nat.ne_of_gt (bl_ BK197) : gb222 ≠ gb197)); have n15_ := am_ ((by rw [hg]; exact Nat.ne_of_lt (bl_ BK216) : gb216 ≠ gb222)); have n16_ := am_ ((by rw [hg]; exact Nat.ne_of_gt (bl_ BK216) : gb222 ≠ gb216)); clear HO204 HO209 HO214 HO221 BK196 BK197 BK216 HB; revert n0_ n1_ n2_ n3_ n4_ n5_ n6_ n7_ n8_ n9_ n10_ n11_ n12_ n13_ n14_ n15_ n16_; intro HO204 HO209 HO214 HO221 BK196 BK197 BK216 HB BK222 GW222 GE222 NB196_222 NB222_196 NB197_222 NB222_197 NB216_222 NB222_216; clear hb hbox hg; have hnb49 := NB222_196.out; have hnc49 := NB196_222.out; have hnb50 := NB222_197.out; have hnc50 := NB197_222.out; have hnb51 := NB222_216.out; have hnc51 := NB216_222.out; have hcz52_0 : w48.cell? ⟨gb222, 0, none⟩ = some (.int .i64 0) := bc_ BK222 0; have hcz52_1 : w48.cell? ⟨gb222, 1, none⟩ = some (.int .i64 0) := bc_ BK222 1; have hcz52_2 : w48.cell? ⟨gb222, 2, none⟩ = some (.slice none 0 0) := bc_ BK222 2; have hfz52_0 := blk_frozen BK222.out 0; have hfz52_1 := blk_frozen BK222.out 1; have hfz52_2 := blk_frozen BK222.out 2; obtain ⟨Ao53, co53, eo53⟩ := Kd.R_slice HO221.out; subst eo53; have hnb54 := NB197_216.out; have hnc54 := NB216_197.out; have hcz55_0 : w48.cell? ⟨gb197, 0, none⟩ = some (.int .i64 a1_0) := bc_ BK197 0; have hcz55_1 : w48.cell? ⟨gb197, 1, none⟩ = some (.int .i64 a1_1) := bc_ BK197 1; have hcz55_2 : w48.cell? ⟨gb197, 2, none⟩ = some (.slice A1_2 l1_2.length c1_2) := bc_ BK197 2; have hfz55_0 := blk_frozen BK197.out 0; have hfz55_1 := blk_frozen BK197.out 1; have hfz55_2 := blk_frozen BK197.out 2) | ((with_reducible refine gate_callee (f := 15) rfl ?_); refine goesL_ (some 38) rfl rfl Try.func15 (by kernel_rfl) rfl #[.agg #[.int .i64 a1_0, .int .i64 a1_1, .slice A1_2 l1_2.length c1_2]] rfl lm_ ?_; (with_reducible refine (laws_toMatrix.calls k a1_0 a1_1 _ _ l1_2 t223 t224 t225 _ ?side1 ?side2 A23.out).mono ?_); (case side1 => exact Kd.C_below HR1_2.out (bb_ HB.out)); (case side2 => exact HC1_2.out); rintro e w56 ⟨v226, rfl, ho0, hb⟩; refine ⟨_, rfl, ?_⟩; have n0_ := am_ (Kd.R_elder' ((rm_ (Kd.R_far (p := ⟨gb222, 2, none⟩) (Kd.R_far (p := ⟨gb222, 1, none⟩) (Kd.R_far (p := ⟨gb222, 0, none⟩) (Kd.R_types HO204.out BK222.out (by decide)) (fun _ hk => hk.2) (.int .i64 t217)) (fun _ hk => hk.2) (.int .i64 t218)) (fun _ hk => hk.2) (.slice Ao53 t219.length co53)) (fun _ h_ => h_.1))) (Kd.R_base ho0) hb); have n1_ := am_ (Kd.R_elder' ((rm_ (Kd.R_far (p := ⟨gb222, 2, none⟩) (Kd.R_far (p := ⟨gb222, 1, none⟩) (Kd.R_far (p := ⟨gb222, 0, none⟩) (Kd.R_types HO209.out BK222.out (by decide)) (fun _ hk => hk.2) (.int .i64 t217)) (fun _ hk => hk.2) (.int .i64 t218)) (fun _ hk => hk.2) (.slice Ao53 t219.length co53)) (fun _ h_ => h_.1))) (Kd.R_base ho0) hb); have n2_ := am_ (Kd.R_elder' ((rm_ (Kd.R_far (p := ⟨gb222, 2, none⟩) (Kd.R_far (p := ⟨gb222, 1, none⟩) (Kd.R_far (p := ⟨gb222, 0, none⟩) (Kd.R_types HO214.out BK222.out (by decide)) (fun _ hk => hk.2) (.int .i64 t217)) (fun _ hk => hk.2) (.int .i64 t218)) (fun _ hk => hk.2) (.slice Ao53 t219.length co53)) (fun _ h_ => h_.1))) (Kd.R_base ho0) hb); have n3_ := am_ (Kd.R_elder' ((rm_ (Kd.R_far (p := ⟨gb222, 2, none⟩) (Kd.R_far (p := ⟨gb222, 1, none⟩) (Kd.R_far (p := ⟨gb222, 0, none⟩) (Kd.R_types HO221.out BK222.out (by decide)) (fun _ hk => hk.2) (.int .i64 t217)) (fun _ hk => hk.2) (.int .i64 t218)) (fun _ hk => hk.2) (.slice Ao53 t219.length co53)) (fun _ h_ => h_.1))) (Kd.R_base ho0) hb); have n4_ := am_ (Kd.R_lower (Kd.R_new' (Kd.R_new' (Kd.R_new' (Kd.R_new' ho0 (Kd.R_lt ((rm_ (Kd.R_far (p := ⟨gb222, 2, none⟩) (Kd.R_far (p := ⟨gb222, 1, none⟩) (Kd.R_far (p := ⟨gb222, 0, none⟩) (Kd.R_types HO204.out BK222.out (by decide)) (fun _ hk => hk.2) (.int .i64 t217)) (fun _ hk => hk.2) (.int .i64 t218)) (fun _ hk => hk.2) (.slice Ao53 t219.length co53)) (fun _ h_ => h_.1))))) (Kd.R_lt ((rm_ (Kd.R_far (p := ⟨gb222, 2, none⟩) (Kd.R_far (p := ⟨gb222, 1, none⟩) (Kd.R_far (p := ⟨gb222, 0, none⟩) (Kd.R_types HO209.out BK222.out (by decide)) (fun _ hk => hk.2) (.int .i64 t217)) (fun _ hk => hk.2) (.int .i64 t218)) (fun _ hk => hk.2) (.slice Ao53 t219.length co53)) (fun _ h_ => h_.1))))) (Kd.R_lt ((rm_ (Kd.R_far (p := ⟨gb222, 2, none⟩) (Kd.R_far (p := ⟨gb222, 1, none⟩) (Kd.R_far (p := ⟨gb222, 0, none⟩) (Kd.R_types HO214.out BK222.out (by decide)) (fun _ hk => hk.2) (.int .i64 t217)) (fun _ hk => hk.2) (.int .i64 t218)) (fun _ hk => hk.2) (.slice Ao53 t219.length co53)) (fun _ h_ => h_.1))))) (Kd.R_lt ((rm_ (Kd.R_far (p := ⟨gb222, 2, none⟩) (Kd.R_far (p := ⟨gb222, 1, none⟩) (Kd.R_far (p := ⟨gb222, 0, none⟩) (Kd.R_types HO221.out BK222.out (by decide)) (fun _ hk => hk.2) (.int .i64 t217)) (fun _ hk => hk.2) (.int .i64 t218)) (fun _ hk => hk.2) (.slice Ao53 t219.length co53)) (fun _ h_ => h_.1))))) (below_size (bb_ HB.out))); have n5_ := am_ (bw_ BK196 hb); have n6_ := am_ (bw_ BK197 hb); have n7_ := am_ (bw_ BK216 hb); have n8_ := am_ (blk_below (g := gb222) (o := .cells #[.int .i64 t217, .int .i64 t218, .slice Ao53 t219.length co53] 27 (0, 0)) (by (with_reducible repeat (first | refine blk_drewN ?_ _ | refine blk_drew ?_ | refine blk_alloc ?_ _)); refine blk_put (cs := #[.int .i64 t217, .int .i64 t218, .slice none 0 0]) ?_ 2 _ rfl; (with_reducible repeat (first | refine blk_drewN ?_ _ | refine blk_drew ?_ | refine blk_alloc ?_ _)); refine blk_put (cs := #[.int .i64 t217, .int .i64 0, .slice none 0 0]) ?_ 1 _ rfl; (with_reducible repeat (first | refine blk_drewN ?_ _ | refine blk_drew ?_ | refine blk_alloc ?_ _)); refine blk_put (cs := #[.int .i64 0, .int .i64 0, .slice none 0 0]) ?_ 0 _ rfl; (with_reducible repeat (first | refine blk_drewN ?_ _ | refine blk_drew ?_ | refine blk_alloc ?_ _)); exact BK222.out) hb); have n9_ := am_ (below_step (bb_ HB.out) hb); clear HO204 HO209 HO214 HO221 BK196 BK197 BK216 BK222 HB; revert n0_ n1_ n2_ n3_ n4_ n5_ n6_ n7_ n8_ n9_; intro HO204 HO209 HO214 HO221 HO227 BK196 BK197 BK216 BK222 HB; (try clear hb); (try clear hb2); (try clear hk); (try clear hi); (try clear ho0)) | ((with_reducible refine gate_dst (N := 9) rfl ?_); refine box_event ?hg (N := 9) ?hd (cs := #[.int .i64 0, .int .i64 0, .slice none 0 0]) (t := 27) ?hr ?_; (case hd => rfl); (case hg => rfl); (case hr => first | (go_simp; done) | (go_simp; rfl)); intro gb228 hg w57 hbox hb; have n0_ := am_ (Kd.R_below (rk_ HO204.out) hb); have n1_ := am_ (Kd.R_below (rk_ HO209.out) hb); have n2_ := am_ (Kd.R_below (rk_ HO214.out) hb); have n3_ := am_ (Kd.R_below (rk_ HO221.out) hb); have n4_ := am_ (Kd.R_below (rk_ HO227.out) hb); have n5_ := am_ (bw_ BK196 hb); have n6_ := am_ (bw_ BK197 hb); have n7_ := am_ (bw_ BK216 hb); have n8_ := am_ (bw_ BK222 hb); have n9_ := am_ (below_step (bb_ HB.out) hb); have n10_ := am_ (hbox); have n11_ := am_ ((by rw [hg]; exact (below_size (bb_ HB.out)) : w.heap.size ≤ gb228)); have n12_ := am_ ((by rw [hg]; exact (below_size (bb_ HB.out)) : w.heap.size ≤ gb228)); have n13_ := am_ ((by rw [hg]; exact Nat.ne_of_lt (bl_ BK196) : gb196 ≠ gb228)); have n14_ := am_ ((by rw [hg]; exact Nat.ne_of_gt (bl_ BK196) : gb228 ≠ gb196)); have n15_ := am_ ((by rw [hg]; exact Nat.ne_of_lt (bl_ BK197) : gb197 ≠ gb228)); have n16_ := am_ ((by rw [hg]; exact Nat.ne_of_gt (bl_ BK197) : gb228 ≠ gb197)); have n17_ := am_ ((by rw [hg]; exact Nat.ne_of_lt (bl_ BK216) : gb216 ≠ gb228)); have n18_ := am_ ((by rw [hg]; exact Nat.ne_of_gt (bl_ BK216) : gb228 ≠ gb216)); have n19_ := am_ ((by rw [hg]; exact Nat.ne_of_lt (bl_ BK222) : gb222 ≠ gb228)); have n20_ := am_ ((by rw [hg]; exact Nat.ne_of_gt (bl_ BK222) : gb228 ≠ gb222)); clear HO204 HO209 HO214 HO221 HO227 BK196 BK197 BK216 BK222 HB; revert n0_ n1_ n2_ n3_ n4_ n5_ n6_ n7_ n8_ n9_ n10_ n11_ n12_ n13_ n14_ n15_ n16_ n17_ n18_ n19_ n20_; intro HO204 HO209 HO214 HO221 HO227 BK196 BK197 BK216 BK222 HB BK228 GW228 GE228 NB196_228 NB228_196 NB197_228 NB228_197 NB216_228 NB228_216 NB222_228 NB228_222; clear hb hbox hg; have hnb58 := NB228_196.out; have hnc58 := NB196_228.out; have hnb59 := NB228_197.out; have hnc59 := NB197_228.out; have hnb60 := NB228_216.out; have hnc60 := NB216_228.out; have hnb61 := NB228_222.out; have hnc61 := NB222_228.out; have hcz62_0 : w57.cell? ⟨gb228, 0, none⟩ = some (.int .i64 0) := bc_ BK228 0; have hcz62_1 : w57.cell? ⟨gb228, 1, none⟩ = some (.int .i64 0) := bc_ BK228 1; have hcz62_2 : w57.cell? ⟨gb228, 2, none⟩ = some (.slice none 0 0) := bc_ BK228 2; have hfz62_0 := blk_frozen BK228.out 0; have hfz62_1 := blk_frozen BK228.out 1; have hfz62_2 := blk_frozen BK228.out 2; obtain ⟨Ao63, co63, eo63⟩ := Kd.R_slice HO227.out; subst eo63; have hcz64_0 : w57.cell? ⟨gb222, 0, none⟩ = some (.int .i64 t217) := bc_ BK222 0; have hcz64_1 : w57.cell? ⟨gb222, 1, none⟩ = some (.int .i64 t218) := bc_ BK222 1; have hcz64_2 : w57.cell? ⟨gb222, 2, none⟩ = some (.slice Ao53 t219.length co53) := bc_ BK222 2; have hfz64_0 := blk_frozen BK222.out 0; have hfz64_1 := blk_frozen BK222.out 1; have hfz64_2 := blk_frozen BK222.out 2) | ((with_reducible refine gate_callee (f := 29) rfl ?_); refine goesL_ (some 42) rfl rfl Try.func29 (by kernel_rfl) rfl #[.agg #[.int .i64 t217, .int .i64 t218, .slice Ao53 t219.length co53], .agg #[.int .i64 t223, .int .i64 t224, .slice Ao63 t225.length co63]] rfl lm_ ?_; (with_reducible refine (impl_MultiplyMatrices.calls k t217 t218 _ _ t219 t223 t224 _ _ t225 t229 t230 t231 t234 _ ?side1 ?side2 ?side3 ?side4 A24.out).mono ?_); (case side1 => refine (Kd.R_reads' (e := 2) (base := w.heap.size) (ok := fun k_ => ((((True ∧ some k_ ≠ (v203 : Value).ownBlock) ∧ some k_ ≠ (v208 : Value).ownBlock) ∧ some k_ ≠ (.slice Ao43 t212.length co43 : Value).ownBlock) ∧ some k_ ≠ (.slice Ao63 t225.length co63 : Value).ownBlock)) (n := t219.length) (c := co53) ?_).2.2; exact ((rm_ (Kd.R_far (p := ⟨gb228, 2, none⟩) (Kd.R_far (p := ⟨gb228, 1, none⟩) (Kd.R_far (p := ⟨gb228, 0, none⟩) (Kd.R_types HO221.out BK228.out (by decide)) (fun _ hk => hk.2) (.int .i64 t223)) (fun _ hk => hk.2) (.int .i64 t224)) (fun _ hk => hk.2) (.slice Ao63 t225.length co63)) (fun _ h_ => h_.1)))); (case side2 => exact (Kd.R_reads' HO221.out).2.1); (case side3 => refine (Kd.R_reads' (e := 2) (base := w.heap.size) (ok := fun k_ => ((((True ∧ some k_ ≠ (v203 : Value).ownBlock) ∧ some k_ ≠ (v208 : Value).ownBlock) ∧ some k_ ≠ (.slice Ao43 t212.length co43 : Value).ownBlock) ∧ some k_ ≠ (.slice Ao53 t219.length co53 : Value).ownBlock)) (n := t225.length) (c := co63) ?_).2.2; exact ((rm_ (Kd.R_far (p := ⟨gb228, 2, none⟩) (Kd.R_far (p := ⟨gb228, 1, none⟩) (Kd.R_far (p := ⟨gb228, 0, none⟩) (Kd.R_types HO227.out BK228.out (by decide)) (fun _ hk => hk.2) (.int .i64 t223)) (fun _ hk => hk.2) (.int .i64 t224)) (fun _ hk => hk.2) (.slice Ao63 t225.length co63)) (fun _ h_ => h_.1)))); (case side4 => exact (Kd.R_reads' HO227.out).2.1); rintro e w65 ⟨v232, rfl, ho0, hb⟩; refine ⟨_, rfl, ?_⟩; have n0_ := am_ (Kd.R_elder' ((rm_ (Kd.R_far (p := ⟨gb228, 2, none⟩) (Kd.R_far (p := ⟨gb228, 1, none⟩) (Kd.R_far (p := ⟨gb228, 0, none⟩) (Kd.R_types HO204.out BK228.out (by decide)) (fun _ hk => hk.2) (.int .i64 t223)) (fun _ hk => hk.2) (.int .i64 t224)) (fun _ hk => hk.2) (.slice Ao63 t225.length co63)) (fun _ h_ => h_.1))) (Kd.R_base ho0) hb); have n1_ := am_ (Kd.R_elder' ((rm_ (Kd.R_far (p := ⟨gb228, 2, none⟩) (Kd.R_far (p := ⟨gb228, 1, none⟩) (Kd.R_far (p := ⟨gb228, 0, none⟩) (Kd.R_types HO209.out BK228.out (by decide)) (fun _ hk => hk.2) (.int .i64 t223)) (fun _ hk => hk.2) (.int .i64 t224)) (fun _ hk => hk.2) (.slice Ao63 t225.length co63)) (fun _ h_ => h_.1))) (Kd.R_base ho0) hb); have n2_ := am_ (Kd.R_elder' ((rm_ (Kd.R_far (p := ⟨gb228, 2, none⟩) (Kd.R_far (p := ⟨gb228, 1, none⟩) (Kd.R_far (p := ⟨gb228, 0, none⟩) (Kd.R_types HO214.out BK228.out (by decide)) (fun _ hk => hk.2) (.int .i64 t223)) (fun _ hk => hk.2) (.int .i64 t224)) (fun _ hk => hk.2) (.slice Ao63 t225.length co63)) (fun _ h_ => h_.1))) (Kd.R_base ho0) hb); have n3_ := am_ (Kd.R_elder' ((rm_ (Kd.R_far (p := ⟨gb228, 2, none⟩) (Kd.R_far (p := ⟨gb228, 1, none⟩) (Kd.R_far (p := ⟨gb228, 0, none⟩) (Kd.R_types HO221.out BK228.out (by decide)) (fun _ hk => hk.2) (.int .i64 t223)) (fun _ hk => hk.2) (.int .i64 t224)) (fun _ hk => hk.2) (.slice Ao63 t225.length co63)) (fun _ h_ => h_.1))) (Kd.R_base ho0) hb); have n4_ := am_ (Kd.R_elder' ((rm_ (Kd.R_far (p := ⟨gb228, 2, none⟩) (Kd.R_far (p := ⟨gb228, 1, none⟩) (Kd.R_far (p := ⟨gb228, 0, none⟩) (Kd.R_types HO227.out BK228.out (by decide)) (fun _ hk => hk.2) (.int .i64 t223)) (fun _ hk => hk.2) (.int .i64 t224)) (fun _ hk => hk.2) (.slice Ao63 t225.length co63)) (fun _ h_ => h_.1))) (Kd.R_base ho0) hb); have n5_ := am_ (Kd.R_lower (Kd.R_new' (Kd.R_new' (Kd.R_new' (Kd.R_new' (Kd.R_new' ho0 (Kd.R_lt ((rm_ (Kd.R_far (p := ⟨gb228, 2, none⟩) (Kd.R_far (p := ⟨gb228, 1, none⟩) (Kd.R_far (p := ⟨gb228, 0, none⟩) (Kd.R_types HO204.out BK228.out (by decide)) (fun _ hk => hk.2) (.int .i64 t223)) (fun _ hk => hk.2) (.int .i64 t224)) (fun _ hk => hk.2) (.slice Ao63 t225.length co63)) (fun _ h_ => h_.1))))) (Kd.R_lt ((rm_ (Kd.R_far (p := ⟨gb228, 2, none⟩) (Kd.R_far (p := ⟨gb228, 1, none⟩) (Kd.R_far (p := ⟨gb228, 0, none⟩) (Kd.R_types HO209.out BK228.out (by decide)) (fun _ hk => hk.2) (.int .i64 t223)) (fun _ hk => hk.2) (.int .i64 t224)) (fun _ hk => hk.2) (.slice Ao63 t225.length co63)) (fun _ h_ => h_.1))))) (Kd.R_lt ((rm_ (Kd.R_far (p := ⟨gb228, 2, none⟩) (Kd.R_far (p := ⟨gb228, 1, none⟩) (Kd.R_far (p := ⟨gb228, 0, none⟩) (Kd.R_types HO214.out BK228.out (by decide)) (fun _ hk => hk.2) (.int .i64 t223)) (fun _ hk => hk.2) (.int .i64 t224)) (fun _ hk => hk.2) (.slice Ao63 t225.length co63)) (fun _ h_ => h_.1))))) (Kd.R_lt ((rm_ (Kd.R_far (p := ⟨gb228, 2, none⟩) (Kd.R_far (p := ⟨gb228, 1, none⟩) (Kd.R_far (p := ⟨gb228, 0, none⟩) (Kd.R_types HO221.out BK228.out (by decide)) (fun _ hk => hk.2) (.int .i64 t223)) (fun _ hk => hk.2) (.int .i64 t224)) (fun _ hk => hk.2) (.slice Ao63 t225.length co63)) (fun _ h_ => h_.1))))) (Kd.R_lt ((rm_ (Kd.R_far (p := ⟨gb228, 2, none⟩) (Kd.R_far (p := ⟨gb228, 1, none⟩) (Kd.R_far (p := ⟨gb228, 0, none⟩) (Kd.R_types HO227.out BK228.out (by decide)) (fun _ hk => hk.2) (.int .i64 t223)) (fun _ hk => hk.2) (.int .i64 t224)) (fun _ hk => hk.2) (.slice Ao63 t225.length co63)) (fun _ h_ => h_.1))))) (below_size (bb_ HB.out))); have n6_ := am_ (bw_ BK196 hb); have n7_ := am_ (bw_ BK197 hb); have n8_ := am_ (bw_ BK216 hb); have n9_ := am_ (bw_ BK222 hb); have n10_ := am_ (blk_below (g := gb228) (o := .cells #[.int .i64 t223, .int .i64 t224, .slice Ao63 t225.length co63] 27 (0, 0)) (by (with_reducible repeat (first | refine blk_drewN ?_ _ | refine blk_drew ?_ | refine blk_alloc ?_ _)); refine blk_put (cs := #[.int .i64 t223, .int .i64 t224, .slice none 0 0]) ?_ 2 _ rfl; (with_reducible repeat (first | refine blk_drewN ?_ _ | refine blk_drew ?_ | refine blk_alloc ?_ _)); refine blk_put (cs := #[.int .i64 t223, .int .i64 0, .slice none 0 0]) ?_ 1 _ rfl; (with_reducible repeat (first | refine blk_drewN ?_ _ | refine blk_drew ?_ | refine blk_alloc ?_ _)); refine blk_put (cs := #[.int .i64 0, .int .i64 0, .slice none 0 0]) ?_ 0 _ rfl; (with_reducible repeat (first | refine blk_drewN ?_ _ | refine blk_drew ?_ | refine blk_alloc ?_ _)); exact BK228.out) hb); have n11_ := am_ (below_step (bb_ HB.out) hb); clear HO204 HO209 HO214 HO221 HO227 BK196 BK197 BK216 BK222 BK228 HB; revert n0_ n1_ n2_ n3_ n4_ n5_ n6_ n7_ n8_ n9_ n10_ n11_; intro HO204 HO209 HO214 HO221 HO227 HO233 BK196 BK197 BK216 BK222 BK228 HB; (try clear hb); (try clear hb2); (try clear hk); (try clear hi); (try clear ho0)) | ((with_reducible refine gate_dst (N := 10) rfl ?_); refine box_event ?hg (N := 10) ?hd (cs := #[.int .i64 0, .int .i64 0, .slice none 0 0]) (t := 27) ?hr ?_; (case hd => rfl); (case hg => rfl); (case hr => first | (go_simp; done) | (go_simp; rfl)); intro gb235 hg w66 hbox hb; have n0_ := am_ (Kd.R_below (rk_ HO204.out) hb); have n1_ := am_ (Kd.R_below (rk_ HO209.out) hb); have n2_ := am_ (Kd.R_below (rk_ HO214.out) hb); have n3_ := am_ (Kd.R_below (rk_ HO221.out) hb); have n4_ := am_ (Kd.R_below (rk_ HO227.out) hb); have n5_ := am_ (Kd.R_below (rk_ HO233.out) hb); have n6_ := am_ (bw_ BK196 hb); have n7_ := am_ (bw_ BK197 hb); have n8_ := am_ (bw_ BK216 hb); have n9_ := am_ (bw_ BK222 hb); have n10_ := am_ (bw_ BK228 hb); have n11_ := am_ (below_step (bb_ HB.out) hb); have n12_ := am_ (hbox); have n13_ := am_ ((by rw [hg]; exact (below_size (bb_ HB.out)) : w.heap.size ≤ gb235)); have n14_ := am_ ((by rw [hg]; exact (below_size (bb_ HB.out)) : w.heap.size ≤ gb235)); have n15_ := am_ ((by rw [hg]; exact Nat.ne_of_lt (bl_ BK196) : gb196 ≠ gb235)); have n16_ := am_ ((by rw [hg]; exact Nat.ne_of_gt (bl_ BK196) : gb235 ≠ gb196)); have n17_ := am_ ((by rw [hg]; exact Nat.ne_of_lt (bl_ BK197) : gb197 ≠ gb235)); have n18_ := am_ ((by rw [hg]; exact Nat.ne_of_gt (bl_ BK197) : gb235 ≠ gb197)); have n19_ := am_ ((by rw [hg]; exact Nat.ne_of_lt (bl_ BK216) : gb216 ≠ gb235)); have n20_ := am_ ((by rw [hg]; exact Nat.ne_of_gt (bl_ BK216) : gb235 ≠ gb216)); have n21_ := am_ ((by rw [hg]; exact Nat.ne_of_lt (bl_ BK222) : gb222 ≠ gb235)); have n22_ := am_ ((by rw [hg]; exact Nat.ne_of_gt (bl_ BK222) : gb235 ≠ gb222)); have n23_ := am_ ((by rw [hg]; exact Nat.ne_of_lt (bl_ BK228) : gb228 ≠ gb235)); have n24_ := am_ ((by rw [hg]; exact Nat.ne_of_gt (bl_ BK228) : gb235 ≠ gb228)); clear HO204 HO209 HO214 HO221 HO227 HO233 BK196 BK197 BK216 BK222 BK228 HB; revert n0_ n1_ n2_ n3_ n4_ n5_ n6_ n7_ n8_ n9_ n10_ n11_ n12_ n13_ n14_ n15_ n16_ n17_ n18_ n19_ n20_ n21_ n22_ n23_ n24_; intro HO204 HO209 HO214 HO221 HO227 HO233 BK196 BK197 BK216 BK222 BK228 HB BK235 GW235 GE235 NB196_235 NB235_196 NB197_235 NB235_197 NB216_235 NB235_216 NB222_235 NB235_222 NB228_235 NB235_228; clear hb hbox hg; have hnb67 := NB235_196.out; have hnc67 := NB196_235.out; have hnb68 := NB235_197.out; have hnc68 := NB197_235.out; have hnb69 := NB235_216.out; have hnc69 := NB216_235.out; have hnb70 := NB235_222.out; have hnc70 := NB222_235.out; have hnb71 := NB235_228.out; have hnc71 := NB228_235.out; have hcz72_0 : w66.cell? ⟨gb235, 0, none⟩ = some (.int .i64 0) := bc_ BK235 0; have hcz72_1 : w66.cell? ⟨gb235, 1, none⟩ = some (.int .i64 0) := bc_ BK235 1; have hcz72_2 : w66.cell? ⟨gb235, 2, none⟩ = some (.slice none 0 0) := bc_ BK235 2; have hfz72_0 := blk_frozen BK235.out 0; have hfz72_1 := blk_frozen BK235.out 1; have hfz72_2 := blk_frozen BK235.out 2; obtain ⟨Ao73, co73, eo73⟩ := Kd.R_slice HO233.out; subst eo73))
   (try simp only [Act.put, List.setIfInBounds_toArray, List.set_cons_zero, List.set_cons_succ])
   go_cut [53] (fun v53 wc => ∃ (kq : Nat) (x53_24 : Bool), v53 = .bool x53_24 ∧ Aside0 (laws_FnExactMultiplyMatrices.j0 kq t215 t234 x53_24 a0_0 a0_1 l0_2 a1_0 a1_1 l1_2 t210 t211 t212 t217 t218 t219 t223 t224 t225 t229 t230 t231 = some r) ∧ Aside0 (kq ≤ k) ∧ Aside0 (Kd.R (Kd.int .i64) 2 wc w.heap.size (fun k_ => some k_ ≠ ((.slice Ao53 t219.length co53) : Value).ownBlock ∧ some k_ ≠ ((.slice Ao63 t225.length co63) : Value).ownBlock ∧ some k_ ≠ ((.slice Ao73 t231.length co73) : Value).ownBlock) (.slice Ao43 t212.length co43) t212) ∧ Aside0 (Kd.R (Kd.int .i64) 2 wc w.heap.size (fun k_ => some k_ ≠ ((.slice Ao43 t212.length co43) : Value).ownBlock ∧ some k_ ≠ ((.slice Ao63 t225.length co63) : Value).ownBlock ∧ some k_ ≠ ((.slice Ao73 t231.length co73) : Value).ownBlock) (.slice Ao53 t219.length co53) t219) ∧ Aside0 (Kd.R (Kd.int .i64) 2 wc w.heap.size (fun k_ => some k_ ≠ ((.slice Ao43 t212.length co43) : Value).ownBlock ∧ some k_ ≠ ((.slice Ao53 t219.length co53) : Value).ownBlock ∧ some k_ ≠ ((.slice Ao73 t231.length co73) : Value).ownBlock) (.slice Ao63 t225.length co63) t225) ∧ Aside0 (Kd.R (Kd.int .i64) 2 wc w.heap.size (fun k_ => some k_ ≠ ((.slice Ao43 t212.length co43) : Value).ownBlock ∧ some k_ ≠ ((.slice Ao53 t219.length co53) : Value).ownBlock ∧ some k_ ≠ ((.slice Ao63 t225.length co63) : Value).ownBlock) (.slice Ao73 t231.length co73) t231) ∧ Aside0 (wc.heap[gb196]? = some (.cells #[.int .i64 a0_0, .int .i64 a0_1, (.slice A0_2 l0_2.length c0_2)] 24 (0, 0))) ∧ Aside0 (wc.heap[gb197]? = some (.cells #[.int .i64 a1_0, .int .i64 a1_1, (.slice A1_2 l1_2.length c1_2)] 24 (0, 0))) ∧ Aside0 (wc.heap[gb216]? = some (.cells #[.int .i64 t210, .int .i64 t211, (.slice Ao43 t212.length co43)] 27 (0, 0))) ∧ Aside0 (wc.heap[gb222]? = some (.cells #[.int .i64 t217, .int .i64 t218, (.slice Ao53 t219.length co53)] 27 (0, 0))) ∧ Aside0 (wc.heap[gb228]? = some (.cells #[.int .i64 t223, .int .i64 t224, (.slice Ao63 t225.length co63)] 27 (0, 0))) ∧ Aside0 (wc.heap[gb235]? = some (.cells #[.int .i64 t229, .int .i64 t230, (.slice Ao73 t231.length co73)] 27 (0, 0))) ∧ Aside0 (Below w.heap.size w wc))
   case first =>
    have H := HC25.out
    clear HC25
    replace H := Option.bind_eq_some_iff.mp H
    obtain ⟨t236, A740, H⟩ := H
    replace H : (if t236 = true then (laws_FnExactMultiplyMatrices.j0 k t215 t234 (t234 != t215) a0_0 a0_1 l0_2 a1_0 a1_1 l1_2 t210 t211 t212 t217 t218 t219 t223 t224 t225 t229 t230 t231) else (laws_FnExactMultiplyMatrices.j0 k t215 t234 true a0_0 a0_1 l0_2 a1_0 a1_1 l1_2 t210 t211 t212 t217 t218 t219 t223 t224 t225 t229 t230 t231)) = some r := H
    have A74 := am_ A740
    clear A740
    by_cases c75 : t236 = true
    ·subst c75
     have H1 : (laws_FnExactMultiplyMatrices.j0 k t215 t234 (t234 != t215) a0_0 a0_1 l0_2 a1_0 a1_1 l1_2 t210 t211 t212 t217 t218 t219 t223 t224 t225 t229 t230 t231) = some r := by rw [if_pos rfl] at H; exact H
     clear H
     have H := H1
     clear H1
     have H' := am_ H
     clear H
     have hnb76 := NB235_196.out
     have hnc76 := NB196_235.out
     have hnb77 := NB235_197.out
     have hnc77 := NB197_235.out
     have hnb78 := NB235_216.out
     have hnc78 := NB216_235.out
     have hnb79 := NB235_222.out
     have hnc79 := NB222_235.out
     have hnb80 := NB235_228.out
     have hnc80 := NB228_235.out
     have hcz81_0 : w66.cell? ⟨gb235, 0, none⟩ = some (.int .i64 0) := bc_ BK235 0
     have hcz81_1 : w66.cell? ⟨gb235, 1, none⟩ = some (.int .i64 0) := bc_ BK235 1
     have hcz81_2 : w66.cell? ⟨gb235, 2, none⟩ = some (.slice none 0 0) := bc_ BK235 2
     have hfz81_0 := blk_frozen BK235.out 0
     have hfz81_1 := blk_frozen BK235.out 1
     have hfz81_2 := blk_frozen BK235.out 2
     have hnb82 := NB216_196.out
     have hnc82 := NB196_216.out
     have hnb83 := NB216_197.out
     have hnc83 := NB197_216.out
     have hnb84 := NB216_222.out
     have hnc84 := NB222_216.out
     have hnb85 := NB216_228.out
     have hnc85 := NB228_216.out
     have hcz86_0 : w66.cell? ⟨gb216, 0, none⟩ = some (.int .i64 t210) := bc_ BK216 0
     have hcz86_1 : w66.cell? ⟨gb216, 1, none⟩ = some (.int .i64 t211) := bc_ BK216 1
     have hcz86_2 : w66.cell? ⟨gb216, 2, none⟩ = some (.slice Ao43 t212.length co43) := bc_ BK216 2
     have hfz86_0 := blk_frozen BK216.out 0
     have hfz86_1 := blk_frozen BK216.out 1
     have hfz86_2 := blk_frozen BK216.out 2
     go_wp2_with (first | ((with_reducible refine gate_callee (f := 17) rfl ?_); refine goesL_ (some 47) rfl rfl Try.func17 (by kernel_rfl) rfl #[.agg #[.int .i64 t229, .int .i64 t230, .slice Ao73 t231.length co73], .agg #[.int .i64 t210, .int .i64 t211, .slice Ao43 t212.length co43]] rfl lm_ ?_; (with_reducible refine (laws_eqMatrix.calls k t229 t230 _ _ t231 t210 t211 _ _ t212 true _ ?side1 ?side2 ?side3 ?side4 A74.out).mono ?_); (case side1 => refine (Kd.R_reads' (e := 2) (base := w.heap.size) (ok := fun k_ => (((((True ∧ some k_ ≠ (v203 : Value).ownBlock) ∧ some k_ ≠ (v208 : Value).ownBlock) ∧ some k_ ≠ (.slice Ao43 t212.length co43 : Value).ownBlock) ∧ some k_ ≠ (.slice Ao53 t219.length co53 : Value).ownBlock) ∧ some k_ ≠ (.slice Ao63 t225.length co63 : Value).ownBlock)) (n := t231.length) (c := co73) ?_).2.2; exact ((rm_ (Kd.R_far (p := ⟨gb235, 2, none⟩) (Kd.R_far (p := ⟨gb235, 1, none⟩) (Kd.R_far (p := ⟨gb235, 0, none⟩) (Kd.R_types HO233.out BK235.out (by decide)) (fun _ hk => hk.2) (.int .i64 t229)) (fun _ hk => hk.2) (.int .i64 t230)) (fun _ hk => hk.2) (.slice Ao73 t231.length co73)) (fun _ h_ => h_.1)))); (case side2 => exact (Kd.R_reads' HO233.out).2.1); (case side3 => refine (Kd.R_reads' (e := 2) (base := w.heap.size) (ok := fun k_ => ((((some k_ ≠ (v203 : Value).ownBlock ∧ some k_ ≠ (v208 : Value).ownBlock) ∧ some k_ ≠ (.slice Ao53 t219.length co53 : Value).ownBlock) ∧ some k_ ≠ (.slice Ao63 t225.length co63 : Value).ownBlock) ∧ some k_ ≠ (.slice Ao73 t231.length co73 : Value).ownBlock)) (n := t212.length) (c := co43) ?_).2.2; exact ((rm_ (Kd.R_far (p := ⟨gb235, 2, none⟩) (Kd.R_far (p := ⟨gb235, 1, none⟩) (Kd.R_far (p := ⟨gb235, 0, none⟩) (Kd.R_types HO214.out BK235.out (by decide)) (fun _ hk => hk.2) (.int .i64 t229)) (fun _ hk => hk.2) (.int .i64 t230)) (fun _ hk => hk.2) (.slice Ao73 t231.length co73)) (fun _ h_ => h_.1)))); (case side4 => exact (Kd.R_reads' HO214.out).2.1); rintro e w87 ⟨rfl, hb⟩; refine ⟨_, rfl, ?_⟩; have n0_ := am_ (Kd.R_below ((rm_ (Kd.R_far (p := ⟨gb235, 2, none⟩) (Kd.R_far (p := ⟨gb235, 1, none⟩) (Kd.R_far (p := ⟨gb235, 0, none⟩) (Kd.R_types HO204.out BK235.out (by decide)) (fun _ hk => hk.2) (.int .i64 t229)) (fun _ hk => hk.2) (.int .i64 t230)) (fun _ hk => hk.2) (.slice Ao73 t231.length co73)) (fun _ h_ => h_.1))) hb); have n1_ := am_ (Kd.R_below ((rm_ (Kd.R_far (p := ⟨gb235, 2, none⟩) (Kd.R_far (p := ⟨gb235, 1, none⟩) (Kd.R_far (p := ⟨gb235, 0, none⟩) (Kd.R_types HO209.out BK235.out (by decide)) (fun _ hk => hk.2) (.int .i64 t229)) (fun _ hk => hk.2) (.int .i64 t230)) (fun _ hk => hk.2) (.slice Ao73 t231.length co73)) (fun _ h_ => h_.1))) hb); have n2_ := am_ (Kd.R_below ((rm_ (Kd.R_far (p := ⟨gb235, 2, none⟩) (Kd.R_far (p := ⟨gb235, 1, none⟩) (Kd.R_far (p := ⟨gb235, 0, none⟩) (Kd.R_types HO214.out BK235.out (by decide)) (fun _ hk => hk.2) (.int .i64 t229)) (fun _ hk => hk.2) (.int .i64 t230)) (fun _ hk => hk.2) (.slice Ao73 t231.length co73)) (fun _ h_ => h_.1))) hb); have n3_ := am_ (Kd.R_below ((rm_ (Kd.R_far (p := ⟨gb235, 2, none⟩) (Kd.R_far (p := ⟨gb235, 1, none⟩) (Kd.R_far (p := ⟨gb235, 0, none⟩) (Kd.R_types HO221.out BK235.out (by decide)) (fun _ hk => hk.2) (.int .i64 t229)) (fun _ hk => hk.2) (.int .i64 t230)) (fun _ hk => hk.2) (.slice Ao73 t231.length co73)) (fun _ h_ => h_.1))) hb); have n4_ := am_ (Kd.R_below ((rm_ (Kd.R_far (p := ⟨gb235, 2, none⟩) (Kd.R_far (p := ⟨gb235, 1, none⟩) (Kd.R_far (p := ⟨gb235, 0, none⟩) (Kd.R_types HO227.out BK235.out (by decide)) (fun _ hk => hk.2) (.int .i64 t229)) (fun _ hk => hk.2) (.int .i64 t230)) (fun _ hk => hk.2) (.slice Ao73 t231.length co73)) (fun _ h_ => h_.1))) hb); have n5_ := am_ (Kd.R_below ((rm_ (Kd.R_far (p := ⟨gb235, 2, none⟩) (Kd.R_far (p := ⟨gb235, 1, none⟩) (Kd.R_far (p := ⟨gb235, 0, none⟩) (Kd.R_types HO233.out BK235.out (by decide)) (fun _ hk => hk.2) (.int .i64 t229)) (fun _ hk => hk.2) (.int .i64 t230)) (fun _ hk => hk.2) (.slice Ao73 t231.length co73)) (fun _ h_ => h_.1))) hb); have n6_ := am_ (bw_ BK196 hb); have n7_ := am_ (bw_ BK197 hb); have n8_ := am_ (bw_ BK216 hb); have n9_ := am_ (bw_ BK222 hb); have n10_ := am_ (bw_ BK228 hb); have n11_ := am_ (blk_below (g := gb235) (o := .cells #[.int .i64 t229, .int .i64 t230, .slice Ao73 t231.length co73] 27 (0, 0)) (by (with_reducible repeat (first | refine blk_drewN ?_ _ | refine blk_drew ?_ | refine blk_alloc ?_ _)); refine blk_put (cs := #[.int .i64 t229, .int .i64 t230, .slice none 0 0]) ?_ 2 _ rfl; (with_reducible repeat (first | refine blk_drewN ?_ _ | refine blk_drew ?_ | refine blk_alloc ?_ _)); refine blk_put (cs := #[.int .i64 t229, .int .i64 0, .slice none 0 0]) ?_ 1 _ rfl; (with_reducible repeat (first | refine blk_drewN ?_ _ | refine blk_drew ?_ | refine blk_alloc ?_ _)); refine blk_put (cs := #[.int .i64 0, .int .i64 0, .slice none 0 0]) ?_ 0 _ rfl; (with_reducible repeat (first | refine blk_drewN ?_ _ | refine blk_drew ?_ | refine blk_alloc ?_ _)); exact BK235.out) hb); have n12_ := am_ (below_step (bb_ HB.out) hb); clear HO204 HO209 HO214 HO221 HO227 HO233 BK196 BK197 BK216 BK222 BK228 BK235 HB; revert n0_ n1_ n2_ n3_ n4_ n5_ n6_ n7_ n8_ n9_ n10_ n11_ n12_; intro HO204 HO209 HO214 HO221 HO227 HO233 BK196 BK197 BK216 BK222 BK228 BK235 HB; (try clear hb); (try clear hb2); (try clear hk); (try clear hi)))
     go_meet
     case rel => exact ⟨_, ((t234 != t215)), (by first | rfl | (simp; done) | (simp [*]; done)), H', ⟨by first | omega | exact Nat.le_refl _⟩, ⟨rm_ HO214.out (fun _ hk => ⟨hk.1.1.2, ⟨hk.1.2, hk.2⟩⟩)⟩, ⟨rm_ HO221.out (fun _ hk => ⟨hk.1.1.2, ⟨hk.1.2, hk.2⟩⟩)⟩, ⟨rm_ HO227.out (fun _ hk => ⟨hk.1.1.2, ⟨hk.1.2, hk.2⟩⟩)⟩, ⟨rm_ HO233.out (fun _ hk => ⟨hk.1.1.2, ⟨hk.1.2, hk.2⟩⟩)⟩, ⟨bk_ BK196.out⟩, ⟨bk_ BK197.out⟩, ⟨bk_ BK216.out⟩, ⟨bk_ BK222.out⟩, ⟨bk_ BK228.out⟩, ⟨bk_ BK235.out⟩, ⟨bb_ HB.out⟩⟩
    ·replace c75 := Bool.eq_false_iff.mpr c75
     subst c75
     have H1 : (laws_FnExactMultiplyMatrices.j0 k t215 t234 true a0_0 a0_1 l0_2 a1_0 a1_1 l1_2 t210 t211 t212 t217 t218 t219 t223 t224 t225 t229 t230 t231) = some r := by rw [if_neg (show ¬ (false = true) by decide)] at H; exact H
     clear H
     have H := H1
     clear H1
     have H' := am_ H
     clear H
     have hnb88 := NB235_196.out
     have hnc88 := NB196_235.out
     have hnb89 := NB235_197.out
     have hnc89 := NB197_235.out
     have hnb90 := NB235_216.out
     have hnc90 := NB216_235.out
     have hnb91 := NB235_222.out
     have hnc91 := NB222_235.out
     have hnb92 := NB235_228.out
     have hnc92 := NB228_235.out
     have hcz93_0 : w66.cell? ⟨gb235, 0, none⟩ = some (.int .i64 0) := bc_ BK235 0
     have hcz93_1 : w66.cell? ⟨gb235, 1, none⟩ = some (.int .i64 0) := bc_ BK235 1
     have hcz93_2 : w66.cell? ⟨gb235, 2, none⟩ = some (.slice none 0 0) := bc_ BK235 2
     have hfz93_0 := blk_frozen BK235.out 0
     have hfz93_1 := blk_frozen BK235.out 1
     have hfz93_2 := blk_frozen BK235.out 2
     have hnb94 := NB216_196.out
     have hnc94 := NB196_216.out
     have hnb95 := NB216_197.out
     have hnc95 := NB197_216.out
     have hnb96 := NB216_222.out
     have hnc96 := NB222_216.out
     have hnb97 := NB216_228.out
     have hnc97 := NB228_216.out
     have hcz98_0 : w66.cell? ⟨gb216, 0, none⟩ = some (.int .i64 t210) := bc_ BK216 0
     have hcz98_1 : w66.cell? ⟨gb216, 1, none⟩ = some (.int .i64 t211) := bc_ BK216 1
     have hcz98_2 : w66.cell? ⟨gb216, 2, none⟩ = some (.slice Ao43 t212.length co43) := bc_ BK216 2
     have hfz98_0 := blk_frozen BK216.out 0
     have hfz98_1 := blk_frozen BK216.out 1
     have hfz98_2 := blk_frozen BK216.out 2
     go_wp2_with (first | ((with_reducible refine gate_callee (f := 17) rfl ?_); refine goesL_ (some 47) rfl rfl Try.func17 (by kernel_rfl) rfl #[.agg #[.int .i64 t229, .int .i64 t230, .slice Ao73 t231.length co73], .agg #[.int .i64 t210, .int .i64 t211, .slice Ao43 t212.length co43]] rfl lm_ ?_; (with_reducible refine (laws_eqMatrix.calls k t229 t230 _ _ t231 t210 t211 _ _ t212 false _ ?side1 ?side2 ?side3 ?side4 A74.out).mono ?_); (case side1 => refine (Kd.R_reads' (e := 2) (base := w.heap.size) (ok := fun k_ => (((((True ∧ some k_ ≠ (v203 : Value).ownBlock) ∧ some k_ ≠ (v208 : Value).ownBlock) ∧ some k_ ≠ (.slice Ao43 t212.length co43 : Value).ownBlock) ∧ some k_ ≠ (.slice Ao53 t219.length co53 : Value).ownBlock) ∧ some k_ ≠ (.slice Ao63 t225.length co63 : Value).ownBlock)) (n := t231.length) (c := co73) ?_).2.2; exact ((rm_ (Kd.R_far (p := ⟨gb235, 2, none⟩) (Kd.R_far (p := ⟨gb235, 1, none⟩) (Kd.R_far (p := ⟨gb235, 0, none⟩) (Kd.R_types HO233.out BK235.out (by decide)) (fun _ hk => hk.2) (.int .i64 t229)) (fun _ hk => hk.2) (.int .i64 t230)) (fun _ hk => hk.2) (.slice Ao73 t231.length co73)) (fun _ h_ => h_.1)))); (case side2 => exact (Kd.R_reads' HO233.out).2.1); (case side3 => refine (Kd.R_reads' (e := 2) (base := w.heap.size) (ok := fun k_ => ((((some k_ ≠ (v203 : Value).ownBlock ∧ some k_ ≠ (v208 : Value).ownBlock) ∧ some k_ ≠ (.slice Ao53 t219.length co53 : Value).ownBlock) ∧ some k_ ≠ (.slice Ao63 t225.length co63 : Value).ownBlock) ∧ some k_ ≠ (.slice Ao73 t231.length co73 : Value).ownBlock)) (n := t212.length) (c := co43) ?_).2.2; exact ((rm_ (Kd.R_far (p := ⟨gb235, 2, none⟩) (Kd.R_far (p := ⟨gb235, 1, none⟩) (Kd.R_far (p := ⟨gb235, 0, none⟩) (Kd.R_types HO214.out BK235.out (by decide)) (fun _ hk => hk.2) (.int .i64 t229)) (fun _ hk => hk.2) (.int .i64 t230)) (fun _ hk => hk.2) (.slice Ao73 t231.length co73)) (fun _ h_ => h_.1)))); (case side4 => exact (Kd.R_reads' HO214.out).2.1); rintro e w99 ⟨rfl, hb⟩; refine ⟨_, rfl, ?_⟩; have n0_ := am_ (Kd.R_below ((rm_ (Kd.R_far (p := ⟨gb235, 2, none⟩) (Kd.R_far (p := ⟨gb235, 1, none⟩) (Kd.R_far (p := ⟨gb235, 0, none⟩) (Kd.R_types HO204.out BK235.out (by decide)) (fun _ hk => hk.2) (.int .i64 t229)) (fun _ hk => hk.2) (.int .i64 t230)) (fun _ hk => hk.2) (.slice Ao73 t231.length co73)) (fun _ h_ => h_.1))) hb); have n1_ := am_ (Kd.R_below ((rm_ (Kd.R_far (p := ⟨gb235, 2, none⟩) (Kd.R_far (p := ⟨gb235, 1, none⟩) (Kd.R_far (p := ⟨gb235, 0, none⟩) (Kd.R_types HO209.out BK235.out (by decide)) (fun _ hk => hk.2) (.int .i64 t229)) (fun _ hk => hk.2) (.int .i64 t230)) (fun _ hk => hk.2) (.slice Ao73 t231.length co73)) (fun _ h_ => h_.1))) hb); have n2_ := am_ (Kd.R_below ((rm_ (Kd.R_far (p := ⟨gb235, 2, none⟩) (Kd.R_far (p := ⟨gb235, 1, none⟩) (Kd.R_far (p := ⟨gb235, 0, none⟩) (Kd.R_types HO214.out BK235.out (by decide)) (fun _ hk => hk.2) (.int .i64 t229)) (fun _ hk => hk.2) (.int .i64 t230)) (fun _ hk => hk.2) (.slice Ao73 t231.length co73)) (fun _ h_ => h_.1))) hb); have n3_ := am_ (Kd.R_below ((rm_ (Kd.R_far (p := ⟨gb235, 2, none⟩) (Kd.R_far (p := ⟨gb235, 1, none⟩) (Kd.R_far (p := ⟨gb235, 0, none⟩) (Kd.R_types HO221.out BK235.out (by decide)) (fun _ hk => hk.2) (.int .i64 t229)) (fun _ hk => hk.2) (.int .i64 t230)) (fun _ hk => hk.2) (.slice Ao73 t231.length co73)) (fun _ h_ => h_.1))) hb); have n4_ := am_ (Kd.R_below ((rm_ (Kd.R_far (p := ⟨gb235, 2, none⟩) (Kd.R_far (p := ⟨gb235, 1, none⟩) (Kd.R_far (p := ⟨gb235, 0, none⟩) (Kd.R_types HO227.out BK235.out (by decide)) (fun _ hk => hk.2) (.int .i64 t229)) (fun _ hk => hk.2) (.int .i64 t230)) (fun _ hk => hk.2) (.slice Ao73 t231.length co73)) (fun _ h_ => h_.1))) hb); have n5_ := am_ (Kd.R_below ((rm_ (Kd.R_far (p := ⟨gb235, 2, none⟩) (Kd.R_far (p := ⟨gb235, 1, none⟩) (Kd.R_far (p := ⟨gb235, 0, none⟩) (Kd.R_types HO233.out BK235.out (by decide)) (fun _ hk => hk.2) (.int .i64 t229)) (fun _ hk => hk.2) (.int .i64 t230)) (fun _ hk => hk.2) (.slice Ao73 t231.length co73)) (fun _ h_ => h_.1))) hb); have n6_ := am_ (bw_ BK196 hb); have n7_ := am_ (bw_ BK197 hb); have n8_ := am_ (bw_ BK216 hb); have n9_ := am_ (bw_ BK222 hb); have n10_ := am_ (bw_ BK228 hb); have n11_ := am_ (blk_below (g := gb235) (o := .cells #[.int .i64 t229, .int .i64 t230, .slice Ao73 t231.length co73] 27 (0, 0)) (by (with_reducible repeat (first | refine blk_drewN ?_ _ | refine blk_drew ?_ | refine blk_alloc ?_ _)); refine blk_put (cs := #[.int .i64 t229, .int .i64 t230, .slice none 0 0]) ?_ 2 _ rfl; (with_reducible repeat (first | refine blk_drewN ?_ _ | refine blk_drew ?_ | refine blk_alloc ?_ _)); refine blk_put (cs := #[.int .i64 t229, .int .i64 0, .slice none 0 0]) ?_ 1 _ rfl; (with_reducible repeat (first | refine blk_drewN ?_ _ | refine blk_drew ?_ | refine blk_alloc ?_ _)); refine blk_put (cs := #[.int .i64 0, .int .i64 0, .slice none 0 0]) ?_ 0 _ rfl; (with_reducible repeat (first | refine blk_drewN ?_ _ | refine blk_drew ?_ | refine blk_alloc ?_ _)); exact BK235.out) hb); have n12_ := am_ (below_step (bb_ HB.out) hb); clear HO204 HO209 HO214 HO221 HO227 HO233 BK196 BK197 BK216 BK222 BK228 BK235 HB; revert n0_ n1_ n2_ n3_ n4_ n5_ n6_ n7_ n8_ n9_ n10_ n11_ n12_; intro HO204 HO209 HO214 HO221 HO227 HO233 BK196 BK197 BK216 BK222 BK228 BK235 HB; (try clear hb); (try clear hb2); (try clear hk); (try clear hi)))
     go_meet
     case rel => exact ⟨_, (true), (by first | rfl | (simp; done) | (simp [*]; done)), H', ⟨by first | omega | exact Nat.le_refl _⟩, ⟨rm_ HO214.out (fun _ hk => ⟨hk.1.1.2, ⟨hk.1.2, hk.2⟩⟩)⟩, ⟨rm_ HO221.out (fun _ hk => ⟨hk.1.1.2, ⟨hk.1.2, hk.2⟩⟩)⟩, ⟨rm_ HO227.out (fun _ hk => ⟨hk.1.1.2, ⟨hk.1.2, hk.2⟩⟩)⟩, ⟨rm_ HO233.out (fun _ hk => ⟨hk.1.1.2, ⟨hk.1.2, hk.2⟩⟩)⟩, ⟨bk_ BK196.out⟩, ⟨bk_ BK197.out⟩, ⟨bk_ BK216.out⟩, ⟨bk_ BK222.out⟩, ⟨bk_ BK228.out⟩, ⟨bk_ BK235.out⟩, ⟨bb_ HB.out⟩⟩
   case rest =>
    clear HC25
    try clear c1
    try clear c2
    try clear p2
    try clear c4
    try clear c5
    try clear c6
    try clear c7
    try clear c8
    try clear c9
    try clear c15
    try clear c17
    try clear c28
    try clear c29
    try clear c45
    try clear c49
    try clear c50
    try clear c51
    try clear c54
    try clear c58
    try clear c59
    try clear c60
    try clear c61
    try clear c67
    try clear c68
    try clear c69
    try clear c70
    try clear c71
    try clear c75
    try clear c76
    try clear c77
    try clear c78
    try clear c79
    try clear c80
    try clear c82
    try clear c83
    try clear c84
    try clear c85
    try clear c88
    try clear c89
    try clear c90
    try clear c91
    try clear c92
    try clear c94
    try clear c95
    try clear c96
    try clear c97
    try clear hcz46_0
    try clear hcz46_1
    try clear hcz46_2
    try clear hcz52_0
    try clear hcz52_1
    try clear hcz52_2
    try clear hcz55_0
    try clear hcz55_1
    try clear hcz55_2
    try clear hcz62_0
    try clear hcz62_1
    try clear hcz62_2
    try clear hcz64_0
    try clear hcz64_1
    try clear hcz64_2
    try clear hcz72_0
    try clear hcz72_1
    try clear hcz72_2
    try clear hcz81_0
    try clear hcz81_1
    try clear hcz81_2
    try clear hcz86_0
    try clear hcz86_1
    try clear hcz86_2
    try clear hcz93_0
    try clear hcz93_1
    try clear hcz93_2
    try clear hcz98_0
    try clear hcz98_1
    try clear hcz98_2
    try clear hfz46_0
    try clear hfz46_1
    try clear hfz46_2
    try clear hfz52_0
    try clear hfz52_1
    try clear hfz52_2
    try clear hfz55_0
    try clear hfz55_1
    try clear hfz55_2
    try clear hfz62_0
    try clear hfz62_1
    try clear hfz62_2
    try clear hfz64_0
    try clear hfz64_1
    try clear hfz64_2
    try clear hfz72_0
    try clear hfz72_1
    try clear hfz72_2
    try clear hfz81_0
    try clear hfz81_1
    try clear hfz81_2
    try clear hfz86_0
    try clear hfz86_1
    try clear hfz86_2
    try clear hfz93_0
    try clear hfz93_1
    try clear hfz93_2
    try clear hfz98_0
    try clear hfz98_1
    try clear hfz98_2
    obtain ⟨kq, x53_24, rfl, HA, HJ24, HO_217002, HO_223002, HO_229002, HO_236002, BK196, BK197, BK216, BK222, BK228, BK235, HB⟩ := hcut
    cases kq with
    | zero => exact absurd HA.out (by simp [laws_FnExactMultiplyMatrices.j0])
    | succ kj24 =>
     have H := HA.out
     clear HA
     simp only [laws_FnExactMultiplyMatrices.j0] at H
     by_cases c100 : x53_24 = true
     ·subst c100
      have H1 : (some false) = some r := by rw [if_pos rfl] at H; exact H
      clear H
      have H := H1
      clear H1
      exact absurd ((Option.some.inj H).trans HTRUE_.out) (by simp)
     ·replace c100 := Bool.eq_false_iff.mpr c100
      subst c100
      have H1 : ((laws_toMatrix.f kj24 a0_0 a0_1 l0_2).bind fun bt237 => ((laws_eqMatrix.f kj24 t217 t218 t219 bt237.1 bt237.2.1 bt237.2.2).bind fun t242 => (if t242 = true then ((laws_toMatrix.f kj24 a1_0 a1_1 l1_2).bind fun bt243 => ((laws_eqMatrix.f kj24 t223 t224 t225 bt243.1 bt243.2.1 bt243.2.2).bind fun t248 => (if t248 = true then ((laws_markMatrix.f kj24 t217 t218 t219 1).bind fun bt249 => ((laws_markMatrix.f kj24 t223 t224 t225 bt249.1).bind fun bt251 => (if bt251.1 < 0 then (laws_FnExactMultiplyMatrices.j1 kj24 t215 true a0_0 a0_1 l0_2 a1_0 a1_1 l1_2 t210 t211 t212 t229 t230 t231) else ((laws_eqMatrix.f kj24 t229 t230 t231 t210 t211 t212).bind fun t253 => (if t253 = true then (laws_FnExactMultiplyMatrices.j1 kj24 t215 (t234 != t215) a0_0 a0_1 l0_2 a1_0 a1_1 l1_2 t210 t211 t212 t229 t230 t231) else (laws_FnExactMultiplyMatrices.j1 kj24 t215 true a0_0 a0_1 l0_2 a1_0 a1_1 l1_2 t210 t211 t212 t229 t230 t231)))))) else (some false)))) else (some false)))) = some r := by rw [if_neg (show ¬ (false = true) by decide)] at H; exact H
      clear H
      have H := H1
      clear H1
      replace H := Option.bind_eq_some_iff.mp H
      obtain ⟨⟨t237, t238, t239⟩, A1010, H⟩ := H
      replace H : ((laws_eqMatrix.f kj24 t217 t218 t219 t237 t238 t239).bind fun t242 => (if t242 = true then ((laws_toMatrix.f kj24 a1_0 a1_1 l1_2).bind fun bt243 => ((laws_eqMatrix.f kj24 t223 t224 t225 bt243.1 bt243.2.1 bt243.2.2).bind fun t248 => (if t248 = true then ((laws_markMatrix.f kj24 t217 t218 t219 1).bind fun bt249 => ((laws_markMatrix.f kj24 t223 t224 t225 bt249.1).bind fun bt251 => (if bt251.1 < 0 then (laws_FnExactMultiplyMatrices.j1 kj24 t215 true a0_0 a0_1 l0_2 a1_0 a1_1 l1_2 t210 t211 t212 t229 t230 t231) else ((laws_eqMatrix.f kj24 t229 t230 t231 t210 t211 t212).bind fun t253 => (if t253 = true then (laws_FnExactMultiplyMatrices.j1 kj24 t215 (t234 != t215) a0_0 a0_1 l0_2 a1_0 a1_1 l1_2 t210 t211 t212 t229 t230 t231) else (laws_FnExactMultiplyMatrices.j1 kj24 t215 true a0_0 a0_1 l0_2 a1_0 a1_1 l1_2 t210 t211 t212 t229 t230 t231)))))) else (some false)))) else (some false))) = some r := H
      have A101 := am_ A1010
      clear A1010
      replace H := Option.bind_eq_some_iff.mp H
      obtain ⟨t242, A1020, H⟩ := H
      replace H : (if t242 = true then ((laws_toMatrix.f kj24 a1_0 a1_1 l1_2).bind fun bt243 => ((laws_eqMatrix.f kj24 t223 t224 t225 bt243.1 bt243.2.1 bt243.2.2).bind fun t248 => (if t248 = true then ((laws_markMatrix.f kj24 t217 t218 t219 1).bind fun bt249 => ((laws_markMatrix.f kj24 t223 t224 t225 bt249.1).bind fun bt251 => (if bt251.1 < 0 then (laws_FnExactMultiplyMatrices.j1 kj24 t215 true a0_0 a0_1 l0_2 a1_0 a1_1 l1_2 t210 t211 t212 t229 t230 t231) else ((laws_eqMatrix.f kj24 t229 t230 t231 t210 t211 t212).bind fun t253 => (if t253 = true then (laws_FnExactMultiplyMatrices.j1 kj24 t215 (t234 != t215) a0_0 a0_1 l0_2 a1_0 a1_1 l1_2 t210 t211 t212 t229 t230 t231) else (laws_FnExactMultiplyMatrices.j1 kj24 t215 true a0_0 a0_1 l0_2 a1_0 a1_1 l1_2 t210 t211 t212 t229 t230 t231)))))) else (some false)))) else (some false)) = some r := H
      have A102 := am_ A1020
      clear A1020
      by_cases c103 : t242 = true
      ·subst c103
       have H1 : ((laws_toMatrix.f kj24 a1_0 a1_1 l1_2).bind fun bt243 => ((laws_eqMatrix.f kj24 t223 t224 t225 bt243.1 bt243.2.1 bt243.2.2).bind fun t248 => (if t248 = true then ((laws_markMatrix.f kj24 t217 t218 t219 1).bind fun bt249 => ((laws_markMatrix.f kj24 t223 t224 t225 bt249.1).bind fun bt251 => (if bt251.1 < 0 then (laws_FnExactMultiplyMatrices.j1 kj24 t215 true a0_0 a0_1 l0_2 a1_0 a1_1 l1_2 t210 t211 t212 t229 t230 t231) else ((laws_eqMatrix.f kj24 t229 t230 t231 t210 t211 t212).bind fun t253 => (if t253 = true then (laws_FnExactMultiplyMatrices.j1 kj24 t215 (t234 != t215) a0_0 a0_1 l0_2 a1_0 a1_1 l1_2 t210 t211 t212 t229 t230 t231) else (laws_FnExactMultiplyMatrices.j1 kj24 t215 true a0_0 a0_1 l0_2 a1_0 a1_1 l1_2 t210 t211 t212 t229 t230 t231)))))) else (some false)))) = some r := by rw [if_pos rfl] at H; exact H
       clear H
       have H := H1
       clear H1
       replace H := Option.bind_eq_some_iff.mp H
       obtain ⟨⟨t243, t244, t245⟩, A1040, H⟩ := H
       replace H : ((laws_eqMatrix.f kj24 t223 t224 t225 t243 t244 t245).bind fun t248 => (if t248 = true then ((laws_markMatrix.f kj24 t217 t218 t219 1).bind fun bt249 => ((laws_markMatrix.f kj24 t223 t224 t225 bt249.1).bind fun bt251 => (if bt251.1 < 0 then (laws_FnExactMultiplyMatrices.j1 kj24 t215 true a0_0 a0_1 l0_2 a1_0 a1_1 l1_2 t210 t211 t212 t229 t230 t231) else ((laws_eqMatrix.f kj24 t229 t230 t231 t210 t211 t212).bind fun t253 => (if t253 = true then (laws_FnExactMultiplyMatrices.j1 kj24 t215 (t234 != t215) a0_0 a0_1 l0_2 a1_0 a1_1 l1_2 t210 t211 t212 t229 t230 t231) else (laws_FnExactMultiplyMatrices.j1 kj24 t215 true a0_0 a0_1 l0_2 a1_0 a1_1 l1_2 t210 t211 t212 t229 t230 t231)))))) else (some false))) = some r := H
       have A104 := am_ A1040
       clear A1040
       replace H := Option.bind_eq_some_iff.mp H
       obtain ⟨t248, A1050, H⟩ := H
       replace H : (if t248 = true then ((laws_markMatrix.f kj24 t217 t218 t219 1).bind fun bt249 => ((laws_markMatrix.f kj24 t223 t224 t225 bt249.1).bind fun bt251 => (if bt251.1 < 0 then (laws_FnExactMultiplyMatrices.j1 kj24 t215 true a0_0 a0_1 l0_2 a1_0 a1_1 l1_2 t210 t211 t212 t229 t230 t231) else ((laws_eqMatrix.f kj24 t229 t230 t231 t210 t211 t212).bind fun t253 => (if t253 = true then (laws_FnExactMultiplyMatrices.j1 kj24 t215 (t234 != t215) a0_0 a0_1 l0_2 a1_0 a1_1 l1_2 t210 t211 t212 t229 t230 t231) else (laws_FnExactMultiplyMatrices.j1 kj24 t215 true a0_0 a0_1 l0_2 a1_0 a1_1 l1_2 t210 t211 t212 t229 t230 t231)))))) else (some false)) = some r := H
       have A105 := am_ A1050
       clear A1050
       by_cases c106 : t248 = true
       ·subst c106
        have H1 : ((laws_markMatrix.f kj24 t217 t218 t219 1).bind fun bt249 => ((laws_markMatrix.f kj24 t223 t224 t225 bt249.1).bind fun bt251 => (if bt251.1 < 0 then (laws_FnExactMultiplyMatrices.j1 kj24 t215 true a0_0 a0_1 l0_2 a1_0 a1_1 l1_2 t210 t211 t212 t229 t230 t231) else ((laws_eqMatrix.f kj24 t229 t230 t231 t210 t211 t212).bind fun t253 => (if t253 = true then (laws_FnExactMultiplyMatrices.j1 kj24 t215 (t234 != t215) a0_0 a0_1 l0_2 a1_0 a1_1 l1_2 t210 t211 t212 t229 t230 t231) else (laws_FnExactMultiplyMatrices.j1 kj24 t215 true a0_0 a0_1 l0_2 a1_0 a1_1 l1_2 t210 t211 t212 t229 t230 t231)))))) = some r := by rw [if_pos rfl] at H; exact H
        clear H
        have H := H1
        clear H1
        replace H := Option.bind_eq_some_iff.mp H
        obtain ⟨⟨t249, t250⟩, A1070, H⟩ := H
        replace H : ((laws_markMatrix.f kj24 t223 t224 t225 t249).bind fun bt251 => (if bt251.1 < 0 then (laws_FnExactMultiplyMatrices.j1 kj24 t215 true a0_0 a0_1 l0_2 a1_0 a1_1 l1_2 t210 t211 t212 t229 t230 t231) else ((laws_eqMatrix.f kj24 t229 t230 t231 t210 t211 t212).bind fun t253 => (if t253 = true then (laws_FnExactMultiplyMatrices.j1 kj24 t215 (t234 != t215) a0_0 a0_1 l0_2 a1_0 a1_1 l1_2 t210 t211 t212 t229 t230 t231) else (laws_FnExactMultiplyMatrices.j1 kj24 t215 true a0_0 a0_1 l0_2 a1_0 a1_1 l1_2 t210 t211 t212 t229 t230 t231))))) = some r := H
        have A107 := am_ A1070
        clear A1070
        replace H := Option.bind_eq_some_iff.mp H
        obtain ⟨⟨t251, t252⟩, A1080, H⟩ := H
        replace H : (if t251 < 0 then (laws_FnExactMultiplyMatrices.j1 kj24 t215 true a0_0 a0_1 l0_2 a1_0 a1_1 l1_2 t210 t211 t212 t229 t230 t231) else ((laws_eqMatrix.f kj24 t229 t230 t231 t210 t211 t212).bind fun t253 => (if t253 = true then (laws_FnExactMultiplyMatrices.j1 kj24 t215 (t234 != t215) a0_0 a0_1 l0_2 a1_0 a1_1 l1_2 t210 t211 t212 t229 t230 t231) else (laws_FnExactMultiplyMatrices.j1 kj24 t215 true a0_0 a0_1 l0_2 a1_0 a1_1 l1_2 t210 t211 t212 t229 t230 t231)))) = some r := H
        have A108 := am_ A1080
        clear A1080
        have HC109 := am_ H
        clear H
        try go_wp2
        have n0_ := am_ (Kd.R_drew HO_217002.out)
        have n1_ := am_ (Kd.R_drew HO_223002.out)
        have n2_ := am_ (Kd.R_drew HO_229002.out)
        have n3_ := am_ (Kd.R_drew HO_236002.out)
        have n4_ := am_ (blk_drew BK196.out)
        have n5_ := am_ (blk_drew BK197.out)
        have n6_ := am_ (blk_drew BK216.out)
        have n7_ := am_ (blk_drew BK222.out)
        have n8_ := am_ (blk_drew BK228.out)
        have n9_ := am_ (blk_drew BK235.out)
        have n10_ := am_ (below_drew1 HB.out)
        clear HO_217002 HO_223002 HO_229002 HO_236002 BK196 BK197 BK216 BK222 BK228 BK235 HB; revert n0_ n1_ n2_ n3_ n4_ n5_ n6_ n7_ n8_ n9_ n10_; intro HO_217002 HO_223002 HO_229002 HO_236002 BK196 BK197 BK216 BK222 BK228 BK235 HB
        refine start_ (n := 5) (S := fun w' => w'.cell? ⟨gb222, 0, none⟩ = some (.int .i64 t217) ∧ w'.cell? ⟨gb222, 1, none⟩ = some (.int .i64 t218) ∧ w'.cell? ⟨gb222, 2, none⟩ = some (.slice Ao53 t219.length co53) ∧ w'.cell? ⟨gb196, 0, none⟩ = some (.int .i64 a0_0) ∧ w'.cell? ⟨gb196, 1, none⟩ = some (.int .i64 a0_1) ∧ w'.cell? ⟨gb196, 2, none⟩ = some (.slice A0_2 l0_2.length c0_2)) (ds := []) #[false, false, false, false, false] (by kernel_rfl) rfl rfl ⟨bc_ BK222 0, bc_ BK222 1, bc_ BK222 2, bc_ BK196 0, bc_ BK196 1, bc_ BK196 2⟩ (fun hHeld => ?_)
        generalize wc.drew = w110 at HO_217002 HO_223002 HO_229002 HO_236002 BK196 BK197 BK216 BK222 BK228 BK235 HB hHeld ⊢
        refine take_ (i := 0) (N := some 54) (v := ?_) (a' := ?_) #[true, false, false, false, false] rfl rfl (by kernel_rfl) (fun _ _ _ h => h) (Or.inl ⟨by rfl, ?_⟩) hHeld ?_ ?_
        rotate_left
        ·rintro w' ⟨s0, s1, s2, s3, s4, s5⟩
         go_simp
         with_reducible rfl
        rotate_left
        ·simp only [Act.put, List.setIfInBounds_toArray, List.set_cons_zero, List.set_cons_succ, i64_w, i32_w]
         rfl
        refine take_ (i := 1) (N := some 55) (v := ?_) (a' := ?_) #[true, true, false, false, false] rfl rfl (by kernel_rfl) (fun _ _ _ h => h) (Or.inl ⟨by rfl, ?_⟩) hHeld ?_ ?_
        rotate_left
        ·rintro w' ⟨s0, s1, s2, s3, s4, s5⟩
         go_simp
         with_reducible rfl
        rotate_left
        ·simp only [Act.put, List.setIfInBounds_toArray, List.set_cons_zero, List.set_cons_succ, i64_w, i32_w]
         rfl
        refine one_ (i := 2) (N := some 56) #[true, true, true, false, false] rfl rfl (by kernel_rfl) (by decide) (fun K hK => ?_)
        refine goes_ Try.func15 (by kernel_rfl) rfl #[.agg #[.int .i64 a0_0, .int .i64 a0_1, .slice A0_2 l0_2.length c0_2]] (by rfl) rfl rfl lm_ ?_
        with_reducible refine (laws_toMatrix.calls kj24 a0_0 a0_1 _ _ l0_2 t237 t238 t239 _ ?side1 ?side2 A101.out).mono ?_
        (case side1 => repeat (first | exact (Kd.C_below HR0_2.out HB.out) | (with_reducible refine Kd.C_alloc ?_ _) | (with_reducible refine Kd.C_drewN ?_ _) | (with_reducible refine Kd.C_drew ?_)))
        (case side2 => exact HC0_2.out)
        rintro e w111 ⟨v240, rfl, ho0, hb⟩
        refine ⟨_, rfl, ?_⟩
        have n0_ := am_ (Kd.R_elder' (rk_ HO_217002.out) (Kd.R_base ho0) hb)
        have n1_ := am_ (Kd.R_elder' (rk_ HO_223002.out) (Kd.R_base ho0) hb)
        have n2_ := am_ (Kd.R_elder' (rk_ HO_229002.out) (Kd.R_base ho0) hb)
        have n3_ := am_ (Kd.R_elder' (rk_ HO_236002.out) (Kd.R_base ho0) hb)
        have n4_ := am_ (Kd.R_lower (Kd.R_new' (Kd.R_new' (Kd.R_new' (Kd.R_new' ho0 (Kd.R_lt (rk_ HO_217002.out))) (Kd.R_lt (rk_ HO_223002.out))) (Kd.R_lt (rk_ HO_229002.out))) (Kd.R_lt (rk_ HO_236002.out))) (below_size (bb_ HB.out)))
        have n5_ := am_ (bw_ BK196 hb)
        have n6_ := am_ (bw_ BK197 hb)
        have n7_ := am_ (bw_ BK216 hb)
        have n8_ := am_ (bw_ BK222 hb)
        have n9_ := am_ (bw_ BK228 hb)
        have n10_ := am_ (bw_ BK235 hb)
        have n11_ := am_ (below_step (bb_ HB.out) hb)
        clear HO_217002 HO_223002 HO_229002 HO_236002 BK196 BK197 BK216 BK222 BK228 BK235 HB; revert n0_ n1_ n2_ n3_ n4_ n5_ n6_ n7_ n8_ n9_ n10_ n11_; intro HO_217002 HO_223002 HO_229002 HO_236002 HO241 BK196 BK197 BK216 BK222 BK228 BK235 HB
        (try clear hb)
        (try clear hb2)
        (try clear hk)
        (try clear hi)
        (try clear ho0)
        obtain ⟨Ao112, co112, eo112⟩ := Kd.R_slice HO241.out
        (first | subst eo112 | (injection eo112 with f1_ f2_ f3_; have f4_ := f1_.symm; have f5_ := f3_.symm; clear f1_ f2_ f3_; subst f4_; subst f5_))
        refine hK.out _ _ ⟨bc_ BK222 0, bc_ BK222 1, bc_ BK222 2, bc_ BK196 0, bc_ BK196 1, bc_ BK196 2⟩ (fun hHeld => ?_)
        clear hK K
        refine norm_ (a' := ?_) ?_ ?_
        rotate_left
        ·show Act.put _ (some 56) _ = _
         simp only [Act.put, List.setIfInBounds_toArray, List.set_cons_zero, List.set_cons_succ, i64_w, i32_w]
         rfl
        refine one_ (i := 3) (N := some 57) #[true, true, true, true, false] rfl rfl (by kernel_rfl) (by decide) (fun K hK => ?_)
        refine goes_ Try.func17 (by kernel_rfl) rfl #[.agg #[.int .i64 t217, .int .i64 t218, .slice Ao53 t219.length co53], .agg #[.int .i64 t237, .int .i64 t238, .slice Ao112 t239.length co112]] (by rfl) rfl rfl lm_ ?_
        with_reducible refine (laws_eqMatrix.calls kj24 t217 t218 _ _ t219 t237 t238 _ _ t239 true _ ?side1 ?side2 ?side3 ?side4 A102.out).mono ?_
        (case side1 => repeat (first | exact (Kd.R_reads' HO_223002.out).2.2 | (with_reducible refine Kd.C_alloc ?_ _) | (with_reducible refine Kd.C_drewN ?_ _) | (with_reducible refine Kd.C_drew ?_)))
        (case side2 => exact (Kd.R_reads' HO_223002.out).2.1)
        (case side3 => repeat (first | exact (Kd.R_reads' HO241.out).2.2 | (with_reducible refine Kd.C_alloc ?_ _) | (with_reducible refine Kd.C_drewN ?_ _) | (with_reducible refine Kd.C_drew ?_)))
        (case side4 => exact (Kd.R_reads' HO241.out).2.1)
        rintro e w113 ⟨rfl, hb⟩
        refine ⟨_, rfl, ?_⟩
        have n0_ := am_ (Kd.R_below (rk_ HO_217002.out) hb)
        have n1_ := am_ (Kd.R_below (rk_ HO_223002.out) hb)
        have n2_ := am_ (Kd.R_below (rk_ HO_229002.out) hb)
        have n3_ := am_ (Kd.R_below (rk_ HO_236002.out) hb)
        have n4_ := am_ (Kd.R_below (rk_ HO241.out) hb)
        have n5_ := am_ (bw_ BK196 hb)
        have n6_ := am_ (bw_ BK197 hb)
        have n7_ := am_ (bw_ BK216 hb)
        have n8_ := am_ (bw_ BK222 hb)
        have n9_ := am_ (bw_ BK228 hb)
        have n10_ := am_ (bw_ BK235 hb)
        have n11_ := am_ (below_step (bb_ HB.out) hb)
        clear HO_217002 HO_223002 HO_229002 HO_236002 HO241 BK196 BK197 BK216 BK222 BK228 BK235 HB; revert n0_ n1_ n2_ n3_ n4_ n5_ n6_ n7_ n8_ n9_ n10_ n11_; intro HO_217002 HO_223002 HO_229002 HO_236002 HO241 BK196 BK197 BK216 BK222 BK228 BK235 HB
        (try clear hb)
        (try clear hb2)
        (try clear hk)
        (try clear hi)
        refine hK.out _ _ ⟨bc_ BK222 0, bc_ BK222 1, bc_ BK222 2, bc_ BK196 0, bc_ BK196 1, bc_ BK196 2⟩ (fun hHeld => ?_)
        clear hK K
        refine norm_ (a' := ?_) ?_ ?_
        rotate_left
        ·show Act.put _ (some 57) _ = _
         simp only [Act.put, List.setIfInBounds_toArray, List.set_cons_zero, List.set_cons_succ, i64_w, i32_w]
         rfl
        refine pure_ (i := 4) (N := some 58) (v := ?_) (a' := ?_) #[true, true, true, true, true] rfl rfl (by kernel_rfl) (fun _ _ _ h => h) (Or.inl ⟨by rfl, ?_⟩) ?_ ?_
        rotate_left
        ·intro w'
         go_simp
         with_reducible rfl
        rotate_left
        ·simp only [Act.put, List.setIfInBounds_toArray, List.set_cons_zero, List.set_cons_succ, i64_w, i32_w]
         rfl
        refine done_ (by kernel_rfl) ?_
        try go_wp2
        have n0_ := am_ (Kd.R_drew HO_217002.out)
        have n1_ := am_ (Kd.R_drew HO_223002.out)
        have n2_ := am_ (Kd.R_drew HO_229002.out)
        have n3_ := am_ (Kd.R_drew HO_236002.out)
        have n4_ := am_ (Kd.R_drew HO241.out)
        have n5_ := am_ (blk_drew BK196.out)
        have n6_ := am_ (blk_drew BK197.out)
        have n7_ := am_ (blk_drew BK216.out)
        have n8_ := am_ (blk_drew BK222.out)
        have n9_ := am_ (blk_drew BK228.out)
        have n10_ := am_ (blk_drew BK235.out)
        have n11_ := am_ (below_drew1 HB.out)
        clear HO_217002 HO_223002 HO_229002 HO_236002 HO241 BK196 BK197 BK216 BK222 BK228 BK235 HB; revert n0_ n1_ n2_ n3_ n4_ n5_ n6_ n7_ n8_ n9_ n10_ n11_; intro HO_217002 HO_223002 HO_229002 HO_236002 HO241 BK196 BK197 BK216 BK222 BK228 BK235 HB
        refine start_ (n := 5) (S := fun w' => w'.cell? ⟨gb228, 0, none⟩ = some (.int .i64 t223) ∧ w'.cell? ⟨gb228, 1, none⟩ = some (.int .i64 t224) ∧ w'.cell? ⟨gb228, 2, none⟩ = some (.slice Ao63 t225.length co63) ∧ w'.cell? ⟨gb197, 0, none⟩ = some (.int .i64 a1_0) ∧ w'.cell? ⟨gb197, 1, none⟩ = some (.int .i64 a1_1) ∧ w'.cell? ⟨gb197, 2, none⟩ = some (.slice A1_2 l1_2.length c1_2)) (ds := []) #[false, false, false, false, false] (by kernel_rfl) rfl rfl ⟨bc_ BK228 0, bc_ BK228 1, bc_ BK228 2, bc_ BK197 0, bc_ BK197 1, bc_ BK197 2⟩ (fun hHeld => ?_)
        generalize w113.drew = w114 at HO_217002 HO_223002 HO_229002 HO_236002 HO241 BK196 BK197 BK216 BK222 BK228 BK235 HB hHeld ⊢
        refine take_ (i := 0) (N := some 59) (v := ?_) (a' := ?_) #[true, false, false, false, false] rfl rfl (by kernel_rfl) (fun _ _ _ h => h) (Or.inl ⟨by rfl, ?_⟩) hHeld ?_ ?_
        rotate_left
        ·rintro w' ⟨s0, s1, s2, s3, s4, s5⟩
         go_simp
         with_reducible rfl
        rotate_left
        ·simp only [Act.put, List.setIfInBounds_toArray, List.set_cons_zero, List.set_cons_succ, i64_w, i32_w]
         rfl
        refine take_ (i := 1) (N := some 60) (v := ?_) (a' := ?_) #[true, true, false, false, false] rfl rfl (by kernel_rfl) (fun _ _ _ h => h) (Or.inl ⟨by rfl, ?_⟩) hHeld ?_ ?_
        rotate_left
        ·rintro w' ⟨s0, s1, s2, s3, s4, s5⟩
         go_simp
         with_reducible rfl
        rotate_left
        ·simp only [Act.put, List.setIfInBounds_toArray, List.set_cons_zero, List.set_cons_succ, i64_w, i32_w]
         rfl
        refine one_ (i := 2) (N := some 61) #[true, true, true, false, false] rfl rfl (by kernel_rfl) (by decide) (fun K hK => ?_)
        refine goes_ Try.func15 (by kernel_rfl) rfl #[.agg #[.int .i64 a1_0, .int .i64 a1_1, .slice A1_2 l1_2.length c1_2]] (by rfl) rfl rfl lm_ ?_
        with_reducible refine (laws_toMatrix.calls kj24 a1_0 a1_1 _ _ l1_2 t243 t244 t245 _ ?side1 ?side2 A104.out).mono ?_
        (case side1 => repeat (first | exact (Kd.C_below HR1_2.out HB.out) | (with_reducible refine Kd.C_alloc ?_ _) | (with_reducible refine Kd.C_drewN ?_ _) | (with_reducible refine Kd.C_drew ?_)))
        (case side2 => exact HC1_2.out)
        rintro e w115 ⟨v246, rfl, ho0, hb⟩
        refine ⟨_, rfl, ?_⟩
        have n0_ := am_ (Kd.R_elder' (rk_ HO_217002.out) (Kd.R_base ho0) hb)
        have n1_ := am_ (Kd.R_elder' (rk_ HO_223002.out) (Kd.R_base ho0) hb)
        have n2_ := am_ (Kd.R_elder' (rk_ HO_229002.out) (Kd.R_base ho0) hb)
        have n3_ := am_ (Kd.R_elder' (rk_ HO_236002.out) (Kd.R_base ho0) hb)
        have n4_ := am_ (Kd.R_elder' (rk_ HO241.out) (Kd.R_base ho0) hb)
        have n5_ := am_ (Kd.R_lower (Kd.R_new' (Kd.R_new' (Kd.R_new' (Kd.R_new' (Kd.R_new' ho0 (Kd.R_lt (rk_ HO_217002.out))) (Kd.R_lt (rk_ HO_223002.out))) (Kd.R_lt (rk_ HO_229002.out))) (Kd.R_lt (rk_ HO_236002.out))) (Kd.R_lt (rk_ HO241.out))) (below_size (bb_ HB.out)))
        have n6_ := am_ (bw_ BK196 hb)
        have n7_ := am_ (bw_ BK197 hb)
        have n8_ := am_ (bw_ BK216 hb)
        have n9_ := am_ (bw_ BK222 hb)
        have n10_ := am_ (bw_ BK228 hb)
        have n11_ := am_ (bw_ BK235 hb)
        have n12_ := am_ (below_step (bb_ HB.out) hb)
        clear HO_217002 HO_223002 HO_229002 HO_236002 HO241 BK196 BK197 BK216 BK222 BK228 BK235 HB; revert n0_ n1_ n2_ n3_ n4_ n5_ n6_ n7_ n8_ n9_ n10_ n11_ n12_; intro HO_217002 HO_223002 HO_229002 HO_236002 HO241 HO247 BK196 BK197 BK216 BK222 BK228 BK235 HB
        (try clear hb)
        (try clear hb2)
        (try clear hk)
        (try clear hi)
        (try clear ho0)
        obtain ⟨Ao116, co116, eo116⟩ := Kd.R_slice HO247.out
        (first | subst eo116 | (injection eo116 with f1_ f2_ f3_; have f4_ := f1_.symm; have f5_ := f3_.symm; clear f1_ f2_ f3_; subst f4_; subst f5_))
        refine hK.out _ _ ⟨bc_ BK228 0, bc_ BK228 1, bc_ BK228 2, bc_ BK197 0, bc_ BK197 1, bc_ BK197 2⟩ (fun hHeld => ?_)
        clear hK K
        refine norm_ (a' := ?_) ?_ ?_
        rotate_left
        ·show Act.put _ (some 61) _ = _
         simp only [Act.put, List.setIfInBounds_toArray, List.set_cons_zero, List.set_cons_succ, i64_w, i32_w]
         rfl
        refine one_ (i := 3) (N := some 62) #[true, true, true, true, false] rfl rfl (by kernel_rfl) (by decide) (fun K hK => ?_)
        refine goes_ Try.func17 (by kernel_rfl) rfl #[.agg #[.int .i64 t223, .int .i64 t224, .slice Ao63 t225.length co63], .agg #[.int .i64 t243, .int .i64 t244, .slice Ao116 t245.length co116]] (by rfl) rfl rfl lm_ ?_
        with_reducible refine (laws_eqMatrix.calls kj24 t223 t224 _ _ t225 t243 t244 _ _ t245 true _ ?side1 ?side2 ?side3 ?side4 A105.out).mono ?_
        (case side1 => repeat (first | exact (Kd.R_reads' HO_229002.out).2.2 | (with_reducible refine Kd.C_alloc ?_ _) | (with_reducible refine Kd.C_drewN ?_ _) | (with_reducible refine Kd.C_drew ?_)))
        (case side2 => exact (Kd.R_reads' HO_229002.out).2.1)
        (case side3 => repeat (first | exact (Kd.R_reads' HO247.out).2.2 | (with_reducible refine Kd.C_alloc ?_ _) | (with_reducible refine Kd.C_drewN ?_ _) | (with_reducible refine Kd.C_drew ?_)))
        (case side4 => exact (Kd.R_reads' HO247.out).2.1)
        rintro e w117 ⟨rfl, hb⟩
        refine ⟨_, rfl, ?_⟩
        have n0_ := am_ (Kd.R_below (rk_ HO_217002.out) hb)
        have n1_ := am_ (Kd.R_below (rk_ HO_223002.out) hb)
        have n2_ := am_ (Kd.R_below (rk_ HO_229002.out) hb)
        have n3_ := am_ (Kd.R_below (rk_ HO_236002.out) hb)
        have n4_ := am_ (Kd.R_below (rk_ HO241.out) hb)
        have n5_ := am_ (Kd.R_below (rk_ HO247.out) hb)
        have n6_ := am_ (bw_ BK196 hb)
        have n7_ := am_ (bw_ BK197 hb)
        have n8_ := am_ (bw_ BK216 hb)
        have n9_ := am_ (bw_ BK222 hb)
        have n10_ := am_ (bw_ BK228 hb)
        have n11_ := am_ (bw_ BK235 hb)
        have n12_ := am_ (below_step (bb_ HB.out) hb)
        clear HO_217002 HO_223002 HO_229002 HO_236002 HO241 HO247 BK196 BK197 BK216 BK222 BK228 BK235 HB; revert n0_ n1_ n2_ n3_ n4_ n5_ n6_ n7_ n8_ n9_ n10_ n11_ n12_; intro HO_217002 HO_223002 HO_229002 HO_236002 HO241 HO247 BK196 BK197 BK216 BK222 BK228 BK235 HB
        (try clear hb)
        (try clear hb2)
        (try clear hk)
        (try clear hi)
        refine hK.out _ _ ⟨bc_ BK228 0, bc_ BK228 1, bc_ BK228 2, bc_ BK197 0, bc_ BK197 1, bc_ BK197 2⟩ (fun hHeld => ?_)
        clear hK K
        refine norm_ (a' := ?_) ?_ ?_
        rotate_left
        ·show Act.put _ (some 62) _ = _
         simp only [Act.put, List.setIfInBounds_toArray, List.set_cons_zero, List.set_cons_succ, i64_w, i32_w]
         rfl
        refine pure_ (i := 4) (N := some 63) (v := ?_) (a' := ?_) #[true, true, true, true, true] rfl rfl (by kernel_rfl) (fun _ _ _ h => h) (Or.inl ⟨by rfl, ?_⟩) ?_ ?_
        rotate_left
        ·intro w'
         go_simp
         with_reducible rfl
        rotate_left
        ·simp only [Act.put, List.setIfInBounds_toArray, List.set_cons_zero, List.set_cons_succ, i64_w, i32_w]
         rfl
        refine done_ (by kernel_rfl) ?_
        have hnb118 := NB222_196.out
        have hnc118 := NB196_222.out
        have hnb119 := NB222_197.out
        have hnc119 := NB197_222.out
        have hnb120 := NB222_216.out
        have hnc120 := NB216_222.out
        have hnb121 := NB222_228.out
        have hnc121 := NB228_222.out
        have hnb122 := NB222_235.out
        have hnc122 := NB235_222.out
        have hcz123_0 : w117.cell? ⟨gb222, 0, none⟩ = some (.int .i64 t217) := bc_ BK222 0
        have hcz123_1 : w117.cell? ⟨gb222, 1, none⟩ = some (.int .i64 t218) := bc_ BK222 1
        have hcz123_2 : w117.cell? ⟨gb222, 2, none⟩ = some (.slice Ao53 t219.length co53) := bc_ BK222 2
        have hfz123_0 := blk_frozen BK222.out 0
        have hfz123_1 := blk_frozen BK222.out 1
        have hfz123_2 := blk_frozen BK222.out 2
        go_upto_region 21 with (first | ((with_reducible refine gate_callee (f := 20) rfl ?_); refine goesL_ (some 66) rfl rfl Try.func20 (by kernel_rfl) rfl #[.agg #[.int .i64 t217, .int .i64 t218, .slice Ao53 t219.length co53], .int .i64 1] rfl lm_ ?_; (with_reducible refine (laws_markMatrix.calls kj24 t217 t218 (fun k_ => some k_ = (.slice Ao53 t219.length co53 : Value).ownBlock) (.slice Ao53 t219.length co53) t219 1 t249 t250 w _ ?side1 ?side2 A107.out).mono ?_); (case side1 => repeat (first | (with_reducible first | exact HB.out | apply below_alloc | apply pw_below_drewN | apply below_drew1 | refine below_set ?_ GE196.out | refine below_set ?_ GE197.out | refine below_set ?_ GE216.out | refine below_set ?_ GE222.out | refine below_set ?_ GE228.out | refine below_set ?_ GE235.out) | exact HB.out)); (case side2 => exact Kd.R_tight rfl HO_223002.out); rintro e w124 ⟨rfl, hy0, hb, hkp⟩; refine ⟨_, rfl, ?_⟩; have n0_ := am_ (Kd.R_mono (ok' := fun k_ => some k_ ≠ (.slice Ao53 t219.length co53 : Value).ownBlock ∧ some k_ ≠ (.slice Ao63 t225.length co63 : Value).ownBlock ∧ some k_ ≠ (.slice Ao73 t231.length co73 : Value).ownBlock ∧ some k_ ≠ (.slice Ao112 t239.length co112 : Value).ownBlock ∧ some k_ ≠ (.slice Ao116 t245.length co116 : Value).ownBlock) (Kd.R_keptB (HO_217002.out) hkp (fun k_ hk_ hs_ => (hk_.1.1.1) hs_)) (fun k_ hk_ => ⟨hk_.1.1.1.1, hk_.1.1.1.2.1, hk_.1.1.1.2.2, hk_.1.1.2, hk_.1.2⟩)); have n1_ := am_ (Kd.R_reok rfl hy0 (fun k_ e_ => HO_223002.out.1 k_ e_)); have n2_ := am_ (Kd.R_mono (ok' := fun k_ => some k_ ≠ (.slice Ao43 t212.length co43 : Value).ownBlock ∧ some k_ ≠ (.slice Ao53 t219.length co53 : Value).ownBlock ∧ some k_ ≠ (.slice Ao73 t231.length co73 : Value).ownBlock ∧ some k_ ≠ (.slice Ao112 t239.length co112 : Value).ownBlock ∧ some k_ ≠ (.slice Ao116 t245.length co116 : Value).ownBlock) (Kd.R_keptB (HO_229002.out) hkp (fun k_ hk_ hs_ => (hk_.1.1.2.1) hs_)) (fun k_ hk_ => ⟨hk_.1.1.1.1, hk_.1.1.1.2.1, hk_.1.1.1.2.2, hk_.1.1.2, hk_.1.2⟩)); have n3_ := am_ (Kd.R_mono (ok' := fun k_ => some k_ ≠ (.slice Ao43 t212.length co43 : Value).ownBlock ∧ some k_ ≠ (.slice Ao53 t219.length co53 : Value).ownBlock ∧ some k_ ≠ (.slice Ao63 t225.length co63 : Value).ownBlock ∧ some k_ ≠ (.slice Ao112 t239.length co112 : Value).ownBlock ∧ some k_ ≠ (.slice Ao116 t245.length co116 : Value).ownBlock) (Kd.R_keptB (HO_236002.out) hkp (fun k_ hk_ hs_ => (hk_.1.1.2.1) hs_)) (fun k_ hk_ => ⟨hk_.1.1.1.1, hk_.1.1.1.2.1, hk_.1.1.1.2.2, hk_.1.1.2, hk_.1.2⟩)); have n4_ := am_ (blk_kept (bk_ BK196.out) hkp (fun hs_ => (fun e_ => (Kd.R_ne HO_223002.out BK196.out (by decide)) e_) hs_)); have n5_ := am_ (blk_kept (bk_ BK197.out) hkp (fun hs_ => (fun e_ => (Kd.R_ne HO_223002.out BK197.out (by decide)) e_) hs_)); have n6_ := am_ (blk_kept (bk_ BK216.out) hkp (fun hs_ => (fun e_ => (Kd.R_ne HO_223002.out BK216.out (by decide)) e_) hs_)); have n7_ := am_ (blk_kept (bk_ BK222.out) hkp (fun hs_ => (fun e_ => (Kd.R_ne HO_223002.out BK222.out (by decide)) e_) hs_)); have n8_ := am_ (blk_kept (bk_ BK228.out) hkp (fun hs_ => (fun e_ => (Kd.R_ne HO_223002.out BK228.out (by decide)) e_) hs_)); have n9_ := am_ (blk_kept (bk_ BK235.out) hkp (fun hs_ => (fun e_ => (Kd.R_ne HO_223002.out BK235.out (by decide)) e_) hs_)); have n10_ := am_ (Kd.R_mono (ok' := fun k_ => some k_ ≠ (.slice Ao43 t212.length co43 : Value).ownBlock ∧ some k_ ≠ (.slice Ao53 t219.length co53 : Value).ownBlock ∧ some k_ ≠ (.slice Ao63 t225.length co63 : Value).ownBlock ∧ some k_ ≠ (.slice Ao73 t231.length co73 : Value).ownBlock ∧ some k_ ≠ (.slice Ao116 t245.length co116 : Value).ownBlock) (Kd.R_keptB (HO241.out) hkp (fun k_ hk_ hs_ => (hk_.1.1.1.2) hs_)) (fun k_ hk_ => ⟨hk_.1.1.1.1.1.2, hk_.1.1.1.1.2, hk_.1.1.1.2, hk_.1.1.2, hk_.1.2⟩)); have n11_ := am_ (Kd.R_mono (ok' := fun k_ => some k_ ≠ (.slice Ao43 t212.length co43 : Value).ownBlock ∧ some k_ ≠ (.slice Ao53 t219.length co53 : Value).ownBlock ∧ some k_ ≠ (.slice Ao63 t225.length co63 : Value).ownBlock ∧ some k_ ≠ (.slice Ao73 t231.length co73 : Value).ownBlock ∧ some k_ ≠ (.slice Ao112 t239.length co112 : Value).ownBlock) (Kd.R_keptB (HO247.out) hkp (fun k_ hk_ hs_ => (hk_.1.1.1.2) hs_)) (fun k_ hk_ => ⟨hk_.1.1.1.1.1.2, hk_.1.1.1.1.2, hk_.1.1.1.2, hk_.1.1.2, hk_.1.2⟩)); have n12_ := am_ (hb); clear HO_217002 HO_223002 HO_229002 HO_236002 BK196 BK197 BK216 BK222 BK228 BK235 HO241 HO247 HB; revert n0_ n1_ n2_ n3_ n4_ n5_ n6_ n7_ n8_ n9_ n10_ n11_ n12_; intro HO_217002 HO_223002 HO_229002 HO_236002 BK196 BK197 BK216 BK222 BK228 BK235 HO241 HO247 HB; (try clear hb); (try clear hkp); (try clear hy0); have hnb125 := NB228_196.out; have hnc125 := NB196_228.out; have hnb126 := NB228_197.out; have hnc126 := NB197_228.out; have hnb127 := NB228_216.out; have hnc127 := NB216_228.out; have hnb128 := NB228_235.out; have hnc128 := NB235_228.out; have hcz129_0 : w124.cell? ⟨gb228, 0, none⟩ = some (.int .i64 t223) := bc_ BK228 0; have hcz129_1 : w124.cell? ⟨gb228, 1, none⟩ = some (.int .i64 t224) := bc_ BK228 1; have hcz129_2 : w124.cell? ⟨gb228, 2, none⟩ = some (.slice Ao63 t225.length co63) := bc_ BK228 2; have hfz129_0 := blk_frozen BK228.out 0; have hfz129_1 := blk_frozen BK228.out 1; have hfz129_2 := blk_frozen BK228.out 2) | ((with_reducible refine gate_callee (f := 20) rfl ?_); refine goesL_ (some 69) rfl rfl Try.func20 (by kernel_rfl) rfl #[.agg #[.int .i64 t223, .int .i64 t224, .slice Ao63 t225.length co63], .int .i64 t249] rfl lm_ ?_; (with_reducible refine (laws_markMatrix.calls kj24 t223 t224 (fun k_ => some k_ = (.slice Ao63 t225.length co63 : Value).ownBlock) (.slice Ao63 t225.length co63) t225 t249 t251 t252 w _ ?side1 ?side2 A108.out).mono ?_); (case side1 => repeat (first | (with_reducible first | exact HB.out | apply below_alloc | apply pw_below_drewN | apply below_drew1 | refine below_set ?_ GE196.out | refine below_set ?_ GE197.out | refine below_set ?_ GE216.out | refine below_set ?_ GE222.out | refine below_set ?_ GE228.out | refine below_set ?_ GE235.out) | exact HB.out)); (case side2 => exact Kd.R_tight rfl HO_229002.out); rintro e w130 ⟨rfl, hy0, hb, hkp⟩; refine ⟨_, rfl, ?_⟩; have n0_ := am_ (Kd.R_mono (ok' := fun k_ => some k_ ≠ (.slice Ao53 t219.length co53 : Value).ownBlock ∧ some k_ ≠ (.slice Ao63 t225.length co63 : Value).ownBlock ∧ some k_ ≠ (.slice Ao73 t231.length co73 : Value).ownBlock ∧ some k_ ≠ (.slice Ao112 t239.length co112 : Value).ownBlock ∧ some k_ ≠ (.slice Ao116 t245.length co116 : Value).ownBlock) (Kd.R_keptB (HO_217002.out) hkp (fun k_ hk_ hs_ => (hk_.2.1) hs_)) (fun k_ hk_ => ⟨hk_.1.1, hk_.1.2.1, hk_.1.2.2.1, hk_.1.2.2.2.1, hk_.1.2.2.2.2⟩)); have n1_ := am_ (Kd.R_mono (ok' := fun k_ => some k_ ≠ (.slice Ao43 t212.length co43 : Value).ownBlock ∧ some k_ ≠ (.slice Ao63 t225.length co63 : Value).ownBlock ∧ some k_ ≠ (.slice Ao73 t231.length co73 : Value).ownBlock ∧ some k_ ≠ (.slice Ao112 t239.length co112 : Value).ownBlock ∧ some k_ ≠ (.slice Ao116 t245.length co116 : Value).ownBlock) (Kd.R_keptB (HO_223002.out) hkp (fun k_ hk_ hs_ => (hk_.1.1.2.1) hs_)) (fun k_ hk_ => ⟨hk_.1.1.1.1, hk_.1.1.1.2.1, hk_.1.1.1.2.2, hk_.1.1.2, hk_.1.2⟩)); have n2_ := am_ (Kd.R_reok rfl hy0 (fun k_ e_ => HO_229002.out.1 k_ e_)); have n3_ := am_ (Kd.R_mono (ok' := fun k_ => some k_ ≠ (.slice Ao43 t212.length co43 : Value).ownBlock ∧ some k_ ≠ (.slice Ao53 t219.length co53 : Value).ownBlock ∧ some k_ ≠ (.slice Ao63 t225.length co63 : Value).ownBlock ∧ some k_ ≠ (.slice Ao112 t239.length co112 : Value).ownBlock ∧ some k_ ≠ (.slice Ao116 t245.length co116 : Value).ownBlock) (Kd.R_keptB (HO_236002.out) hkp (fun k_ hk_ hs_ => (hk_.2.2.1) hs_)) (fun k_ hk_ => ⟨hk_.1.1, hk_.1.2.1, hk_.1.2.2.1, hk_.1.2.2.2.1, hk_.1.2.2.2.2⟩)); have n4_ := am_ (blk_kept (bk_ BK196.out) hkp (fun hs_ => (fun e_ => (Kd.R_ne HO_229002.out BK196.out (by decide)) e_) hs_)); have n5_ := am_ (blk_kept (bk_ BK197.out) hkp (fun hs_ => (fun e_ => (Kd.R_ne HO_229002.out BK197.out (by decide)) e_) hs_)); have n6_ := am_ (blk_kept (bk_ BK216.out) hkp (fun hs_ => (fun e_ => (Kd.R_ne HO_229002.out BK216.out (by decide)) e_) hs_)); have n7_ := am_ (blk_kept (bk_ BK222.out) hkp (fun hs_ => (fun e_ => (Kd.R_ne HO_229002.out BK222.out (by decide)) e_) hs_)); have n8_ := am_ (blk_kept (bk_ BK228.out) hkp (fun hs_ => (fun e_ => (Kd.R_ne HO_229002.out BK228.out (by decide)) e_) hs_)); have n9_ := am_ (blk_kept (bk_ BK235.out) hkp (fun hs_ => (fun e_ => (Kd.R_ne HO_229002.out BK235.out (by decide)) e_) hs_)); have n10_ := am_ (Kd.R_mono (ok' := fun k_ => some k_ ≠ (.slice Ao43 t212.length co43 : Value).ownBlock ∧ some k_ ≠ (.slice Ao53 t219.length co53 : Value).ownBlock ∧ some k_ ≠ (.slice Ao63 t225.length co63 : Value).ownBlock ∧ some k_ ≠ (.slice Ao73 t231.length co73 : Value).ownBlock ∧ some k_ ≠ (.slice Ao116 t245.length co116 : Value).ownBlock) (Kd.R_keptB (HO241.out) hkp (fun k_ hk_ hs_ => (hk_.2.2.1) hs_)) (fun k_ hk_ => ⟨hk_.1.1, hk_.1.2.1, hk_.1.2.2.1, hk_.1.2.2.2.1, hk_.1.2.2.2.2⟩)); have n11_ := am_ (Kd.R_mono (ok' := fun k_ => some k_ ≠ (.slice Ao43 t212.length co43 : Value).ownBlock ∧ some k_ ≠ (.slice Ao53 t219.length co53 : Value).ownBlock ∧ some k_ ≠ (.slice Ao63 t225.length co63 : Value).ownBlock ∧ some k_ ≠ (.slice Ao73 t231.length co73 : Value).ownBlock ∧ some k_ ≠ (.slice Ao112 t239.length co112 : Value).ownBlock) (Kd.R_keptB (HO247.out) hkp (fun k_ hk_ hs_ => (hk_.2.2.1) hs_)) (fun k_ hk_ => ⟨hk_.1.1, hk_.1.2.1, hk_.1.2.2.1, hk_.1.2.2.2.1, hk_.1.2.2.2.2⟩)); have n12_ := am_ (hb); clear HO_217002 HO_223002 HO_229002 HO_236002 BK196 BK197 BK216 BK222 BK228 BK235 HO241 HO247 HB; revert n0_ n1_ n2_ n3_ n4_ n5_ n6_ n7_ n8_ n9_ n10_ n11_ n12_; intro HO_217002 HO_223002 HO_229002 HO_236002 BK196 BK197 BK216 BK222 BK228 BK235 HO241 HO247 HB; (try clear hb); (try clear hkp); (try clear hy0)))
        (try simp only [Act.put, List.setIfInBounds_toArray, List.set_cons_zero, List.set_cons_succ])
        go_cut [82] (fun v82 wc => ∃ (kq : Nat) (x82_108 : Bool), v82 = .bool x82_108 ∧ Aside0 (laws_FnExactMultiplyMatrices.j1 kq t215 x82_108 a0_0 a0_1 l0_2 a1_0 a1_1 l1_2 t210 t211 t212 t229 t230 t231 = some r) ∧ Aside0 (kq ≤ kj24) ∧ Aside0 (Kd.R (Kd.int .i64) 2 wc w.heap.size (fun k_ => some k_ ≠ ((.slice Ao53 t219.length co53) : Value).ownBlock ∧ some k_ ≠ ((.slice Ao63 t225.length co63) : Value).ownBlock ∧ some k_ ≠ ((.slice Ao73 t231.length co73) : Value).ownBlock) (.slice Ao43 t212.length co43) t212) ∧ Aside0 (Kd.R (Kd.int .i64) 2 wc w.heap.size (fun k_ => some k_ ≠ ((.slice Ao43 t212.length co43) : Value).ownBlock ∧ some k_ ≠ ((.slice Ao63 t225.length co63) : Value).ownBlock ∧ some k_ ≠ ((.slice Ao73 t231.length co73) : Value).ownBlock) (.slice Ao53 t219.length co53) t250) ∧ Aside0 (Kd.R (Kd.int .i64) 2 wc w.heap.size (fun k_ => some k_ ≠ ((.slice Ao43 t212.length co43) : Value).ownBlock ∧ some k_ ≠ ((.slice Ao53 t219.length co53) : Value).ownBlock ∧ some k_ ≠ ((.slice Ao73 t231.length co73) : Value).ownBlock) (.slice Ao63 t225.length co63) t252) ∧ Aside0 (Kd.R (Kd.int .i64) 2 wc w.heap.size (fun k_ => some k_ ≠ ((.slice Ao43 t212.length co43) : Value).ownBlock ∧ some k_ ≠ ((.slice Ao53 t219.length co53) : Value).ownBlock ∧ some k_ ≠ ((.slice Ao63 t225.length co63) : Value).ownBlock) (.slice Ao73 t231.length co73) t231) ∧ Aside0 (wc.heap[gb196]? = some (.cells #[.int .i64 a0_0, .int .i64 a0_1, (.slice A0_2 l0_2.length c0_2)] 24 (0, 0))) ∧ Aside0 (wc.heap[gb197]? = some (.cells #[.int .i64 a1_0, .int .i64 a1_1, (.slice A1_2 l1_2.length c1_2)] 24 (0, 0))) ∧ Aside0 (wc.heap[gb216]? = some (.cells #[.int .i64 t210, .int .i64 t211, (.slice Ao43 t212.length co43)] 27 (0, 0))) ∧ Aside0 (wc.heap[gb222]? = some (.cells #[.int .i64 t217, .int .i64 t218, (.slice Ao53 t219.length co53)] 27 (0, 0))) ∧ Aside0 (wc.heap[gb228]? = some (.cells #[.int .i64 t223, .int .i64 t224, (.slice Ao63 t225.length co63)] 27 (0, 0))) ∧ Aside0 (wc.heap[gb235]? = some (.cells #[.int .i64 t229, .int .i64 t230, (.slice Ao73 t231.length co73)] 27 (0, 0))) ∧ Aside0 (Below w.heap.size w wc))
        case first =>
         have H := HC109.out
         clear HC109
         by_cases c131 : t251 < 0
         ·rw [if_pos c131] at H
          have c131b0 : decide (t251 < 0) = true := decide_eq_true c131
          clear c131
          (first | rw [c131b0] | (simp only [i64_w, i32_w]; rw [c131b0]) | skip)
          have H' := am_ H
          clear H
          go_wp2
          go_meet
          case rel => exact ⟨_, (true), (by first | rfl | (simp; done) | (simp [*]; done)), H', ⟨by have := HJ24.out; first | omega | exact Nat.le_refl _⟩, ⟨rm_ HO_217002.out (fun _ hk => ⟨hk.1, ⟨hk.2.1, hk.2.2.1⟩⟩)⟩, ⟨rm_ HO_223002.out (fun _ hk => ⟨hk.1, ⟨hk.2.1, hk.2.2.1⟩⟩)⟩, ⟨rm_ HO_229002.out (fun _ hk => ⟨hk.1, ⟨hk.2.1, hk.2.2.1⟩⟩)⟩, ⟨rm_ HO_236002.out (fun _ hk => ⟨hk.1, ⟨hk.2.1, hk.2.2.1⟩⟩)⟩, ⟨bk_ BK196.out⟩, ⟨bk_ BK197.out⟩, ⟨bk_ BK216.out⟩, ⟨bk_ BK222.out⟩, ⟨bk_ BK228.out⟩, ⟨bk_ BK235.out⟩, ⟨bb_ HB.out⟩⟩
         ·rw [if_neg c131] at H
          have c131b0 : decide (t251 < 0) = false := decide_eq_false c131
          clear c131
          (first | rw [c131b0] | (simp only [i64_w, i32_w]; rw [c131b0]) | skip)
          replace H := Option.bind_eq_some_iff.mp H
          obtain ⟨t253, A1320, H⟩ := H
          replace H : (if t253 = true then (laws_FnExactMultiplyMatrices.j1 kj24 t215 (t234 != t215) a0_0 a0_1 l0_2 a1_0 a1_1 l1_2 t210 t211 t212 t229 t230 t231) else (laws_FnExactMultiplyMatrices.j1 kj24 t215 true a0_0 a0_1 l0_2 a1_0 a1_1 l1_2 t210 t211 t212 t229 t230 t231)) = some r := H
          have A132 := am_ A1320
          clear A1320
          by_cases c133 : t253 = true
          ·subst c133
           have H1 : (laws_FnExactMultiplyMatrices.j1 kj24 t215 (t234 != t215) a0_0 a0_1 l0_2 a1_0 a1_1 l1_2 t210 t211 t212 t229 t230 t231) = some r := by rw [if_pos rfl] at H; exact H
           clear H
           have H := H1
           clear H1
           have H' := am_ H
           clear H
           have hnb134 := NB235_196.out
           have hnc134 := NB196_235.out
           have hnb135 := NB235_197.out
           have hnc135 := NB197_235.out
           have hnb136 := NB235_216.out
           have hnc136 := NB216_235.out
           have hnb137 := NB235_222.out
           have hnc137 := NB222_235.out
           have hnb138 := NB235_228.out
           have hnc138 := NB228_235.out
           have hcz139_0 : w130.cell? ⟨gb235, 0, none⟩ = some (.int .i64 t229) := bc_ BK235 0
           have hcz139_1 : w130.cell? ⟨gb235, 1, none⟩ = some (.int .i64 t230) := bc_ BK235 1
           have hcz139_2 : w130.cell? ⟨gb235, 2, none⟩ = some (.slice Ao73 t231.length co73) := bc_ BK235 2
           have hfz139_0 := blk_frozen BK235.out 0
           have hfz139_1 := blk_frozen BK235.out 1
           have hfz139_2 := blk_frozen BK235.out 2
           have hnb140 := NB216_196.out
           have hnc140 := NB196_216.out
           have hnb141 := NB216_197.out
           have hnc141 := NB197_216.out
           have hnb142 := NB216_222.out
           have hnc142 := NB222_216.out
           have hnb143 := NB216_228.out
           have hnc143 := NB228_216.out
           have hcz144_0 : w130.cell? ⟨gb216, 0, none⟩ = some (.int .i64 t210) := bc_ BK216 0
           have hcz144_1 : w130.cell? ⟨gb216, 1, none⟩ = some (.int .i64 t211) := bc_ BK216 1
           have hcz144_2 : w130.cell? ⟨gb216, 2, none⟩ = some (.slice Ao43 t212.length co43) := bc_ BK216 2
           have hfz144_0 := blk_frozen BK216.out 0
           have hfz144_1 := blk_frozen BK216.out 1
           have hfz144_2 := blk_frozen BK216.out 2
           go_wp2_with (first | (go_at_call 17; (with_reducible refine (laws_eqMatrix.calls kj24 t229 t230 _ _ t231 t210 t211 _ _ t212 true _ ?side1 ?side2 ?side3 ?side4 A132.out).mono ?_); (case side1 => repeat (first | exact (Kd.R_reads' HO_236002.out).2.2 | (with_reducible refine Kd.C_alloc ?_ _) | (with_reducible refine Kd.C_drewN ?_ _) | (with_reducible refine Kd.C_drew ?_))); (case side2 => exact (Kd.R_reads' HO_236002.out).2.1); (case side3 => repeat (first | exact (Kd.R_reads' HO_217002.out).2.2 | (with_reducible refine Kd.C_alloc ?_ _) | (with_reducible refine Kd.C_drewN ?_ _) | (with_reducible refine Kd.C_drew ?_))); (case side4 => exact (Kd.R_reads' HO_217002.out).2.1); rintro e w145 ⟨rfl, hb⟩; have n0_ := am_ (Kd.R_below (rk_ HO_217002.out) hb); have n1_ := am_ (Kd.R_below (rk_ HO_223002.out) hb); have n2_ := am_ (Kd.R_below (rk_ HO_229002.out) hb); have n3_ := am_ (Kd.R_below (rk_ HO_236002.out) hb); have n4_ := am_ (Kd.R_below (rk_ HO241.out) hb); have n5_ := am_ (Kd.R_below (rk_ HO247.out) hb); have n6_ := am_ (bw_ BK196 hb); have n7_ := am_ (bw_ BK197 hb); have n8_ := am_ (bw_ BK216 hb); have n9_ := am_ (bw_ BK222 hb); have n10_ := am_ (bw_ BK228 hb); have n11_ := am_ (bw_ BK235 hb); have n12_ := am_ (below_step (bb_ HB.out) hb); clear HO_217002 HO_223002 HO_229002 HO_236002 HO241 HO247 BK196 BK197 BK216 BK222 BK228 BK235 HB; revert n0_ n1_ n2_ n3_ n4_ n5_ n6_ n7_ n8_ n9_ n10_ n11_ n12_; intro HO_217002 HO_223002 HO_229002 HO_236002 HO241 HO247 BK196 BK197 BK216 BK222 BK228 BK235 HB; (try clear hb); (try clear hb2); (try clear hk); (try clear hi)))
           go_meet
           case rel => exact ⟨_, ((t234 != t215)), (by first | rfl | (simp; done) | (simp [*]; done)), H', ⟨by have := HJ24.out; first | omega | exact Nat.le_refl _⟩, ⟨rm_ HO_217002.out (fun _ hk => ⟨hk.1, ⟨hk.2.1, hk.2.2.1⟩⟩)⟩, ⟨rm_ HO_223002.out (fun _ hk => ⟨hk.1, ⟨hk.2.1, hk.2.2.1⟩⟩)⟩, ⟨rm_ HO_229002.out (fun _ hk => ⟨hk.1, ⟨hk.2.1, hk.2.2.1⟩⟩)⟩, ⟨rm_ HO_236002.out (fun _ hk => ⟨hk.1, ⟨hk.2.1, hk.2.2.1⟩⟩)⟩, ⟨bk_ BK196.out⟩, ⟨bk_ BK197.out⟩, ⟨bk_ BK216.out⟩, ⟨bk_ BK222.out⟩, ⟨bk_ BK228.out⟩, ⟨bk_ BK235.out⟩, ⟨bb_ HB.out⟩⟩
          ·replace c133 := Bool.eq_false_iff.mpr c133
           subst c133
           have H1 : (laws_FnExactMultiplyMatrices.j1 kj24 t215 true a0_0 a0_1 l0_2 a1_0 a1_1 l1_2 t210 t211 t212 t229 t230 t231) = some r := by rw [if_neg (show ¬ (false = true) by decide)] at H; exact H
           clear H
           have H := H1
           clear H1
           have H' := am_ H
           clear H
           have hnb146 := NB235_196.out
           have hnc146 := NB196_235.out
           have hnb147 := NB235_197.out
           have hnc147 := NB197_235.out
           have hnb148 := NB235_216.out
           have hnc148 := NB216_235.out
           have hnb149 := NB235_222.out
           have hnc149 := NB222_235.out
           have hnb150 := NB235_228.out
           have hnc150 := NB228_235.out
           have hcz151_0 : w130.cell? ⟨gb235, 0, none⟩ = some (.int .i64 t229) := bc_ BK235 0
           have hcz151_1 : w130.cell? ⟨gb235, 1, none⟩ = some (.int .i64 t230) := bc_ BK235 1
           have hcz151_2 : w130.cell? ⟨gb235, 2, none⟩ = some (.slice Ao73 t231.length co73) := bc_ BK235 2
           have hfz151_0 := blk_frozen BK235.out 0
           have hfz151_1 := blk_frozen BK235.out 1
           have hfz151_2 := blk_frozen BK235.out 2
           have hnb152 := NB216_196.out
           have hnc152 := NB196_216.out
           have hnb153 := NB216_197.out
           have hnc153 := NB197_216.out
           have hnb154 := NB216_222.out
           have hnc154 := NB222_216.out
           have hnb155 := NB216_228.out
           have hnc155 := NB228_216.out
           have hcz156_0 : w130.cell? ⟨gb216, 0, none⟩ = some (.int .i64 t210) := bc_ BK216 0
           have hcz156_1 : w130.cell? ⟨gb216, 1, none⟩ = some (.int .i64 t211) := bc_ BK216 1
           have hcz156_2 : w130.cell? ⟨gb216, 2, none⟩ = some (.slice Ao43 t212.length co43) := bc_ BK216 2
           have hfz156_0 := blk_frozen BK216.out 0
           have hfz156_1 := blk_frozen BK216.out 1
           have hfz156_2 := blk_frozen BK216.out 2
           go_wp2_with (first | (go_at_call 17; (with_reducible refine (laws_eqMatrix.calls kj24 t229 t230 _ _ t231 t210 t211 _ _ t212 false _ ?side1 ?side2 ?side3 ?side4 A132.out).mono ?_); (case side1 => repeat (first | exact (Kd.R_reads' HO_236002.out).2.2 | (with_reducible refine Kd.C_alloc ?_ _) | (with_reducible refine Kd.C_drewN ?_ _) | (with_reducible refine Kd.C_drew ?_))); (case side2 => exact (Kd.R_reads' HO_236002.out).2.1); (case side3 => repeat (first | exact (Kd.R_reads' HO_217002.out).2.2 | (with_reducible refine Kd.C_alloc ?_ _) | (with_reducible refine Kd.C_drewN ?_ _) | (with_reducible refine Kd.C_drew ?_))); (case side4 => exact (Kd.R_reads' HO_217002.out).2.1); rintro e w157 ⟨rfl, hb⟩; have n0_ := am_ (Kd.R_below (rk_ HO_217002.out) hb); have n1_ := am_ (Kd.R_below (rk_ HO_223002.out) hb); have n2_ := am_ (Kd.R_below (rk_ HO_229002.out) hb); have n3_ := am_ (Kd.R_below (rk_ HO_236002.out) hb); have n4_ := am_ (Kd.R_below (rk_ HO241.out) hb); have n5_ := am_ (Kd.R_below (rk_ HO247.out) hb); have n6_ := am_ (bw_ BK196 hb); have n7_ := am_ (bw_ BK197 hb); have n8_ := am_ (bw_ BK216 hb); have n9_ := am_ (bw_ BK222 hb); have n10_ := am_ (bw_ BK228 hb); have n11_ := am_ (bw_ BK235 hb); have n12_ := am_ (below_step (bb_ HB.out) hb); clear HO_217002 HO_223002 HO_229002 HO_236002 HO241 HO247 BK196 BK197 BK216 BK222 BK228 BK235 HB; revert n0_ n1_ n2_ n3_ n4_ n5_ n6_ n7_ n8_ n9_ n10_ n11_ n12_; intro HO_217002 HO_223002 HO_229002 HO_236002 HO241 HO247 BK196 BK197 BK216 BK222 BK228 BK235 HB; (try clear hb); (try clear hb2); (try clear hk); (try clear hi)))
           go_meet
           case rel => exact ⟨_, (true), (by first | rfl | (simp; done) | (simp [*]; done)), H', ⟨by have := HJ24.out; first | omega | exact Nat.le_refl _⟩, ⟨rm_ HO_217002.out (fun _ hk => ⟨hk.1, ⟨hk.2.1, hk.2.2.1⟩⟩)⟩, ⟨rm_ HO_223002.out (fun _ hk => ⟨hk.1, ⟨hk.2.1, hk.2.2.1⟩⟩)⟩, ⟨rm_ HO_229002.out (fun _ hk => ⟨hk.1, ⟨hk.2.1, hk.2.2.1⟩⟩)⟩, ⟨rm_ HO_236002.out (fun _ hk => ⟨hk.1, ⟨hk.2.1, hk.2.2.1⟩⟩)⟩, ⟨bk_ BK196.out⟩, ⟨bk_ BK197.out⟩, ⟨bk_ BK216.out⟩, ⟨bk_ BK222.out⟩, ⟨bk_ BK228.out⟩, ⟨bk_ BK235.out⟩, ⟨bb_ HB.out⟩⟩
        case rest =>
         clear HC109
         try clear c1
         try clear c2
         try clear p2
         try clear c10
         try clear c11
         try clear c12
         try clear c13
         try clear c14
         try clear c15
         try clear c17
         try clear c20
         try clear c100
         try clear c103
         try clear c106
         try clear c118
         try clear c119
         try clear c120
         try clear c121
         try clear c122
         try clear c125
         try clear c126
         try clear c127
         try clear c128
         try clear c131
         try clear c131b0
         try clear c133
         try clear c134
         try clear c135
         try clear c136
         try clear c137
         try clear c138
         try clear c140
         try clear c141
         try clear c142
         try clear c143
         try clear c146
         try clear c147
         try clear c148
         try clear c149
         try clear c150
         try clear c152
         try clear c153
         try clear c154
         try clear c155
         try clear hcz123_0
         try clear hcz123_1
         try clear hcz123_2
         try clear hcz129_0
         try clear hcz129_1
         try clear hcz129_2
         try clear hcz139_0
         try clear hcz139_1
         try clear hcz139_2
         try clear hcz144_0
         try clear hcz144_1
         try clear hcz144_2
         try clear hcz151_0
         try clear hcz151_1
         try clear hcz151_2
         try clear hcz156_0
         try clear hcz156_1
         try clear hcz156_2
         try clear hcz62_1
         try clear hcz62_2
         try clear hcz64_0
         try clear hcz64_1
         try clear hcz64_2
         try clear hcz72_0
         try clear hcz72_1
         try clear hcz72_2
         try clear hcz81_0
         try clear hcz81_1
         try clear hcz81_2
         try clear hcz86_0
         try clear hcz86_1
         try clear hcz86_2
         try clear hcz93_0
         try clear hcz93_1
         try clear hcz93_2
         try clear hcz98_0
         try clear hcz98_1
         try clear hcz98_2
         try clear hfz123_0
         try clear hfz123_1
         try clear hfz123_2
         try clear hfz129_0
         try clear hfz129_1
         try clear hfz129_2
         try clear hfz139_0
         try clear hfz139_1
         try clear hfz139_2
         try clear hfz144_0
         try clear hfz144_1
         try clear hfz144_2
         try clear hfz151_0
         try clear hfz151_1
         try clear hfz151_2
         try clear hfz156_0
         try clear hfz156_1
         try clear hfz156_2
         try clear hfz46_0
         try clear hfz46_1
         try clear hfz46_2
         try clear hfz52_0
         try clear hfz52_1
         try clear hfz52_2
         try clear hfz55_0
         try clear hfz55_1
         try clear hfz55_2
         try clear hfz62_0
         try clear hfz62_1
         try clear hfz62_2
         try clear hfz64_0
         try clear hfz64_1
         try clear hfz64_2
         try clear hfz72_0
         try clear hfz72_1
         try clear hfz72_2
         try clear hfz81_0
         try clear hfz81_1
         try clear hfz81_2
         try clear hfz86_0
         try clear hfz86_1
         try clear hfz86_2
         try clear hfz93_0
         try clear hfz93_1
         try clear hfz93_2
         try clear hfz98_0
         try clear hfz98_1
         try clear hfz98_2
         obtain ⟨kq, x82_108, rfl, HA, HJ108, HO_217002, HO_223002, HO_229002, HO_236002, BK196, BK197, BK216, BK222, BK228, BK235, HB⟩ := hcut
         have hl223002_108 := (Kd.R_reads' HO_223002.out).1
         rw [hl223002_108] at HO_223002
         (try simp only [hl223002_108])
         (try simp only [hl223002_108] at BK196)
         (try simp only [hl223002_108] at BK197)
         (try simp only [hl223002_108] at BK216)
         (try simp only [hl223002_108] at BK222)
         (try simp only [hl223002_108] at BK228)
         (try simp only [hl223002_108] at BK235)
         (try simp only [hl223002_108] at HO_217002)
         (try simp only [hl223002_108] at HO_229002)
         (try simp only [hl223002_108] at HO_236002)
         have hl229002_108 := (Kd.R_reads' HO_229002.out).1
         rw [hl229002_108] at HO_229002
         (try simp only [hl229002_108])
         (try simp only [hl229002_108] at BK196)
         (try simp only [hl229002_108] at BK197)
         (try simp only [hl229002_108] at BK216)
         (try simp only [hl229002_108] at BK222)
         (try simp only [hl229002_108] at BK228)
         (try simp only [hl229002_108] at BK235)
         (try simp only [hl229002_108] at HO_217002)
         (try simp only [hl229002_108] at HO_223002)
         (try simp only [hl229002_108] at HO_236002)
         cases kq with
         | zero => exact absurd HA.out (by simp [laws_FnExactMultiplyMatrices.j1])
         | succ kj108 =>
          have H := HA.out
          clear HA
          simp only [laws_FnExactMultiplyMatrices.j1] at H
          by_cases c158 : x82_108 = true
          ·subst c158
           have H1 : (some false) = some r := by rw [if_pos rfl] at H; exact H
           clear H
           have H := H1
           clear H1
           exact absurd ((Option.some.inj H).trans HTRUE_.out) (by simp)
          ·replace c158 := Bool.eq_false_iff.mpr c158
           subst c158
           have H1 : ((laws_markMatrix.f kj108 t229 t230 t231 1).bind fun bt254 => ((laws_heldMatrix.f kj108 t229 t230 bt254.2 1).bind fun t256 => (if t256 < 0 then (some false) else (if t256 = bt254.1 then ((laws_toMatrix.f kj108 a0_0 a0_1 l0_2).bind fun bt257 => ((laws_toMatrix.f kj108 a1_0 a1_1 l1_2).bind fun bt262 => ((impl_MultiplyMatrices.f kj108 bt257.1 bt257.2.1 bt257.2.2 bt262.1 bt262.2.1 bt262.2.2).bind fun bt267 => ((laws_eqMatrix.f kj108 bt267.1 bt267.2.1 bt267.2.2.1 t210 t211 t212).bind fun t274 => (if t274 = true then (laws_FnExactMultiplyMatrices.j2 kj108 bt254.1 (bt267.2.2.2 != t215) t229 t230 bt254.2) else (laws_FnExactMultiplyMatrices.j2 kj108 bt254.1 true t229 t230 bt254.2)))))) else (some false))))) = some r := by rw [if_neg (show ¬ (false = true) by decide)] at H; exact H
           clear H
           have H := H1
           clear H1
           replace H := Option.bind_eq_some_iff.mp H
           obtain ⟨⟨t254, t255⟩, A1590, H⟩ := H
           replace H : ((laws_heldMatrix.f kj108 t229 t230 t255 1).bind fun t256 => (if t256 < 0 then (some false) else (if t256 = t254 then ((laws_toMatrix.f kj108 a0_0 a0_1 l0_2).bind fun bt257 => ((laws_toMatrix.f kj108 a1_0 a1_1 l1_2).bind fun bt262 => ((impl_MultiplyMatrices.f kj108 bt257.1 bt257.2.1 bt257.2.2 bt262.1 bt262.2.1 bt262.2.2).bind fun bt267 => ((laws_eqMatrix.f kj108 bt267.1 bt267.2.1 bt267.2.2.1 t210 t211 t212).bind fun t274 => (if t274 = true then (laws_FnExactMultiplyMatrices.j2 kj108 t254 (bt267.2.2.2 != t215) t229 t230 t255) else (laws_FnExactMultiplyMatrices.j2 kj108 t254 true t229 t230 t255)))))) else (some false)))) = some r := H
           have A159 := am_ A1590
           clear A1590
           replace H := Option.bind_eq_some_iff.mp H
           obtain ⟨t256, A1600, H⟩ := H
           replace H : (if t256 < 0 then (some false) else (if t256 = t254 then ((laws_toMatrix.f kj108 a0_0 a0_1 l0_2).bind fun bt257 => ((laws_toMatrix.f kj108 a1_0 a1_1 l1_2).bind fun bt262 => ((impl_MultiplyMatrices.f kj108 bt257.1 bt257.2.1 bt257.2.2 bt262.1 bt262.2.1 bt262.2.2).bind fun bt267 => ((laws_eqMatrix.f kj108 bt267.1 bt267.2.1 bt267.2.2.1 t210 t211 t212).bind fun t274 => (if t274 = true then (laws_FnExactMultiplyMatrices.j2 kj108 t254 (bt267.2.2.2 != t215) t229 t230 t255) else (laws_FnExactMultiplyMatrices.j2 kj108 t254 true t229 t230 t255)))))) else (some false))) = some r := H
           have A160 := am_ A1600
           clear A1600
           by_cases c161 : t256 < 0
           ·rw [if_pos c161] at H
            have c161b0 : decide (t256 < 0) = true := decide_eq_true c161
            clear c161
            exact absurd ((Option.some.inj H).trans HTRUE_.out) (by simp)
           ·rw [if_neg c161] at H
            have c161b0 : decide (t256 < 0) = false := decide_eq_false c161
            clear c161
            by_cases c162 : t256 = t254
            ·rw [if_pos c162] at H
             have c162b0 : (t256 == t254) = true := beq_iff_eq.mpr c162
             have c162b1 : (t256 != t254) = false := bne_eq_false_iff_eq.mpr c162
             clear c162
             replace H := Option.bind_eq_some_iff.mp H
             obtain ⟨⟨t257, t258, t259⟩, A1630, H⟩ := H
             replace H : ((laws_toMatrix.f kj108 a1_0 a1_1 l1_2).bind fun bt262 => ((impl_MultiplyMatrices.f kj108 t257 t258 t259 bt262.1 bt262.2.1 bt262.2.2).bind fun bt267 => ((laws_eqMatrix.f kj108 bt267.1 bt267.2.1 bt267.2.2.1 t210 t211 t212).bind fun t274 => (if t274 = true then (laws_FnExactMultiplyMatrices.j2 kj108 t254 (bt267.2.2.2 != t215) t229 t230 t255) else (laws_FnExactMultiplyMatrices.j2 kj108 t254 true t229 t230 t255))))) = some r := H
             have A163 := am_ A1630
             clear A1630
             replace H := Option.bind_eq_some_iff.mp H
             obtain ⟨⟨t262, t263, t264⟩, A1640, H⟩ := H
             replace H : ((impl_MultiplyMatrices.f kj108 t257 t258 t259 t262 t263 t264).bind fun bt267 => ((laws_eqMatrix.f kj108 bt267.1 bt267.2.1 bt267.2.2.1 t210 t211 t212).bind fun t274 => (if t274 = true then (laws_FnExactMultiplyMatrices.j2 kj108 t254 (bt267.2.2.2 != t215) t229 t230 t255) else (laws_FnExactMultiplyMatrices.j2 kj108 t254 true t229 t230 t255)))) = some r := H
             have A164 := am_ A1640
             clear A1640
             replace H := Option.bind_eq_some_iff.mp H
             obtain ⟨⟨t267, t268, t269, t272⟩, A1650, H⟩ := H
             replace H : ((laws_eqMatrix.f kj108 t267 t268 t269 t210 t211 t212).bind fun t274 => (if t274 = true then (laws_FnExactMultiplyMatrices.j2 kj108 t254 (t272 != t215) t229 t230 t255) else (laws_FnExactMultiplyMatrices.j2 kj108 t254 true t229 t230 t255))) = some r := H
             have A165 := am_ A1650
             clear A1650
             have HC166 := am_ H
             clear H
             have hnb167 := NB235_196.out
             have hnc167 := NB196_235.out
             have hnb168 := NB235_197.out
             have hnc168 := NB197_235.out
             have hnb169 := NB235_216.out
             have hnc169 := NB216_235.out
             have hnb170 := NB235_222.out
             have hnc170 := NB222_235.out
             have hnb171 := NB235_228.out
             have hnc171 := NB228_235.out
             have hcz172_0 : wc.cell? ⟨gb235, 0, none⟩ = some (.int .i64 t229) := bc_ BK235 0
             have hcz172_1 : wc.cell? ⟨gb235, 1, none⟩ = some (.int .i64 t230) := bc_ BK235 1
             have hcz172_2 : wc.cell? ⟨gb235, 2, none⟩ = some (.slice Ao73 t231.length co73) := bc_ BK235 2
             have hfz172_0 := blk_frozen BK235.out 0
             have hfz172_1 := blk_frozen BK235.out 1
             have hfz172_2 := blk_frozen BK235.out 2
             try go_wp2_with (first | ((with_reducible refine gate_callee (f := 20) rfl ?_); refine goesL_ (some 85) rfl rfl Try.func20 (by kernel_rfl) rfl #[.agg #[.int .i64 t229, .int .i64 t230, .slice Ao73 t231.length co73], .int .i64 1] rfl lm_ ?_; (with_reducible refine (laws_markMatrix.calls kj108 t229 t230 (fun k_ => some k_ = (.slice Ao73 t231.length co73 : Value).ownBlock) (.slice Ao73 t231.length co73) t231 1 t254 t255 w _ ?side1 ?side2 A159.out).mono ?_); (case side1 => repeat (first | (with_reducible first | exact HB.out | apply below_alloc | apply pw_below_drewN | apply below_drew1 | refine below_set ?_ GE196.out | refine below_set ?_ GE197.out | refine below_set ?_ GE216.out | refine below_set ?_ GE222.out | refine below_set ?_ GE228.out | refine below_set ?_ GE235.out) | exact HB.out)); (case side2 => exact Kd.R_tight rfl HO_236002.out); rintro e w173 ⟨rfl, hy0, hb, hkp⟩; refine ⟨_, rfl, ?_⟩; have n0_ := am_ (Kd.R_mono (ok' := fun k_ => some k_ ≠ (.slice Ao53 t250.length co53 : Value).ownBlock ∧ some k_ ≠ (.slice Ao63 t252.length co63 : Value).ownBlock ∧ some k_ ≠ (.slice Ao73 t231.length co73 : Value).ownBlock) (Kd.R_keptB (HO_217002.out) hkp (fun k_ hk_ hs_ => (hk_.2.2) hs_)) (fun k_ hk_ => ⟨hk_.1.1, hk_.1.2.1, hk_.1.2.2⟩)); have n1_ := am_ (Kd.R_mono (ok' := fun k_ => some k_ ≠ (.slice Ao43 t212.length co43 : Value).ownBlock ∧ some k_ ≠ (.slice Ao63 t252.length co63 : Value).ownBlock ∧ some k_ ≠ (.slice Ao73 t231.length co73 : Value).ownBlock) (Kd.R_keptB (HO_223002.out) hkp (fun k_ hk_ hs_ => (hk_.2.2) hs_)) (fun k_ hk_ => ⟨hk_.1.1, hk_.1.2.1, hk_.1.2.2⟩)); have n2_ := am_ (Kd.R_mono (ok' := fun k_ => some k_ ≠ (.slice Ao43 t212.length co43 : Value).ownBlock ∧ some k_ ≠ (.slice Ao53 t250.length co53 : Value).ownBlock ∧ some k_ ≠ (.slice Ao73 t231.length co73 : Value).ownBlock) (Kd.R_keptB (HO_229002.out) hkp (fun k_ hk_ hs_ => (hk_.2.2) hs_)) (fun k_ hk_ => ⟨hk_.1.1, hk_.1.2.1, hk_.1.2.2⟩)); have n3_ := am_ (Kd.R_reok rfl hy0 (fun k_ e_ => HO_236002.out.1 k_ e_)); have n4_ := am_ (blk_kept (bk_ BK196.out) hkp (fun hs_ => (fun e_ => (Kd.R_ne HO_236002.out BK196.out (by decide)) e_) hs_)); have n5_ := am_ (blk_kept (bk_ BK197.out) hkp (fun hs_ => (fun e_ => (Kd.R_ne HO_236002.out BK197.out (by decide)) e_) hs_)); have n6_ := am_ (blk_kept (bk_ BK216.out) hkp (fun hs_ => (fun e_ => (Kd.R_ne HO_236002.out BK216.out (by decide)) e_) hs_)); have n7_ := am_ (blk_kept (bk_ BK222.out) hkp (fun hs_ => (fun e_ => (Kd.R_ne HO_236002.out BK222.out (by decide)) e_) hs_)); have n8_ := am_ (blk_kept (bk_ BK228.out) hkp (fun hs_ => (fun e_ => (Kd.R_ne HO_236002.out BK228.out (by decide)) e_) hs_)); have n9_ := am_ (blk_kept (bk_ BK235.out) hkp (fun hs_ => (fun e_ => (Kd.R_ne HO_236002.out BK235.out (by decide)) e_) hs_)); have n10_ := am_ (hb); clear HO_217002 HO_223002 HO_229002 HO_236002 BK196 BK197 BK216 BK222 BK228 BK235 HB; revert n0_ n1_ n2_ n3_ n4_ n5_ n6_ n7_ n8_ n9_ n10_; intro HO_217002 HO_223002 HO_229002 HO_236002 BK196 BK197 BK216 BK222 BK228 BK235 HB; (try clear hb); (try clear hkp); (try clear hy0); have hcz174_0 : w173.cell? ⟨gb235, 0, none⟩ = some (.int .i64 t229) := bc_ BK235 0; have hcz174_1 : w173.cell? ⟨gb235, 1, none⟩ = some (.int .i64 t230) := bc_ BK235 1; have hcz174_2 : w173.cell? ⟨gb235, 2, none⟩ = some (.slice Ao73 t231.length co73) := bc_ BK235 2; have hfz174_0 := blk_frozen BK235.out 0; have hfz174_1 := blk_frozen BK235.out 1; have hfz174_2 := blk_frozen BK235.out 2) | ((with_reducible refine gate_callee (f := 21) rfl ?_); refine goesL_ (some 88) rfl rfl Try.func21 (by kernel_rfl) rfl #[.agg #[.int .i64 t229, .int .i64 t230, .slice Ao73 t255.length co73], .int .i64 1] rfl (by (try simp only [List.map_toArray, List.map_cons, List.map_nil]); first | done | (rw [show t255.length = t231.length from (Kd.R_reads' HO_236002.out).1.symm] <;> rfl) | rfl | (simp only [List.length_drop, List.length_take]; rfl)) ?_; (with_reducible refine (laws_heldMatrix.calls kj108 t229 t230 _ _ t255 1 t256 _ ?side1 ?side2 A160.out).mono ?_); (case side1 => repeat (first | exact (Kd.R_reads' HO_236002.out).2.2 | (with_reducible refine Kd.C_alloc ?_ _) | (with_reducible refine Kd.C_drewN ?_ _) | (with_reducible refine Kd.C_drew ?_))); (case side2 => rw [show t255.length = t231.length from (Kd.R_reads' HO_236002.out).1.symm]; exact (Kd.R_reads' HO_236002.out).2.1); rintro e w175 ⟨rfl, hb⟩; refine ⟨_, rfl, ?_⟩; have n0_ := am_ (Kd.R_below (rk_ HO_217002.out) hb); have n1_ := am_ (Kd.R_below (rk_ HO_223002.out) hb); have n2_ := am_ (Kd.R_below (rk_ HO_229002.out) hb); have n3_ := am_ (Kd.R_below (rk_ HO_236002.out) hb); have n4_ := am_ (bw_ BK196 hb); have n5_ := am_ (bw_ BK197 hb); have n6_ := am_ (bw_ BK216 hb); have n7_ := am_ (bw_ BK222 hb); have n8_ := am_ (bw_ BK228 hb); have n9_ := am_ (bw_ BK235 hb); have n10_ := am_ (below_step (bb_ HB.out) hb); clear HO_217002 HO_223002 HO_229002 HO_236002 BK196 BK197 BK216 BK222 BK228 BK235 HB; revert n0_ n1_ n2_ n3_ n4_ n5_ n6_ n7_ n8_ n9_ n10_; intro HO_217002 HO_223002 HO_229002 HO_236002 BK196 BK197 BK216 BK222 BK228 BK235 HB; (try clear hb); (try clear hb2); (try clear hk); (try clear hi)))
             have n0_ := am_ (Kd.R_drew HO_217002.out)
             have n1_ := am_ (Kd.R_drew HO_223002.out)
             have n2_ := am_ (Kd.R_drew HO_229002.out)
             have n3_ := am_ (Kd.R_drew HO_236002.out)
             have n4_ := am_ (blk_drew BK196.out)
             have n5_ := am_ (blk_drew BK197.out)
             have n6_ := am_ (blk_drew BK216.out)
             have n7_ := am_ (blk_drew BK222.out)
             have n8_ := am_ (blk_drew BK228.out)
             have n9_ := am_ (blk_drew BK235.out)
             have n10_ := am_ (below_drew1 HB.out)
             clear HO_217002 HO_223002 HO_229002 HO_236002 BK196 BK197 BK216 BK222 BK228 BK235 HB; revert n0_ n1_ n2_ n3_ n4_ n5_ n6_ n7_ n8_ n9_ n10_; intro HO_217002 HO_223002 HO_229002 HO_236002 BK196 BK197 BK216 BK222 BK228 BK235 HB
             refine start_ (n := 11) (S := fun w' => w'.cell? ⟨gb196, 0, none⟩ = some (.int .i64 a0_0) ∧ w'.cell? ⟨gb196, 1, none⟩ = some (.int .i64 a0_1) ∧ w'.cell? ⟨gb196, 2, none⟩ = some (.slice A0_2 l0_2.length c0_2) ∧ w'.cell? ⟨gb197, 0, none⟩ = some (.int .i64 a1_0) ∧ w'.cell? ⟨gb197, 1, none⟩ = some (.int .i64 a1_1) ∧ w'.cell? ⟨gb197, 2, none⟩ = some (.slice A1_2 l1_2.length c1_2)) (ds := []) #[false, false, false, false, false, false, false, false, false, false, false] (by kernel_rfl) rfl rfl ⟨bc_ BK196 0, bc_ BK196 1, bc_ BK196 2, bc_ BK197 0, bc_ BK197 1, bc_ BK197 2⟩ (fun hHeld => ?_); refine with_tabW laws_FnExactMultiplyMatrices.tab31 laws_FnExactMultiplyMatrices.bits31 (fun HT_ HW_ => ?_)
             generalize w175.drew = w176 at HO_217002 HO_223002 HO_229002 HO_236002 BK196 BK197 BK216 BK222 BK228 BK235 HB hHeld ⊢
             refine take_ (i := 0) (N := some 95) (v := ?_) (a' := ?_) #[true, false, false, false, false, false, false, false, false, false, false] rfl rfl (take_ofW HT_.out HW_.out (by kernel_rfl)) (fun _ _ _ h => h) (Or.inl ⟨by rfl, ?_⟩) hHeld ?_ ?_
             rotate_left
             ·rintro w' ⟨s0, s1, s2, s3, s4, s5⟩
              go_simp
              with_reducible rfl
             rotate_left
             ·simp only [Act.put, List.setIfInBounds_toArray, List.set_cons_zero, List.set_cons_succ, i64_w, i32_w]
              rfl
             refine take_ (i := 2) (N := some 97) (v := ?_) (a' := ?_) #[true, false, true, false, false, false, false, false, false, false, false] rfl rfl (take_ofW HT_.out HW_.out (by kernel_rfl)) (fun _ _ _ h => h) (Or.inl ⟨by rfl, ?_⟩) hHeld ?_ ?_
             rotate_left
             ·rintro w' ⟨s0, s1, s2, s3, s4, s5⟩
              go_simp
              with_reducible rfl
             rotate_left
             ·simp only [Act.put, List.setIfInBounds_toArray, List.set_cons_zero, List.set_cons_succ, i64_w, i32_w]
              rfl
             refine join_ (σ := Value × Value × Value × Nat) 2 #[true, true, true, true, true, true, true, true, true, false, false] (fun s_ => [(96, .agg #[.int .i64 t257, .int .i64 t258, s_.1]), (98, .agg #[.int .i64 t262, .int .i64 t263, s_.2.1]), (99, .tuple #[.agg #[.int .i64 t267, .int .i64 t268, s_.2.2.1], .int .i64 t272]), (15, .pointer (some ⟨s_.2.2.2, 0, none⟩)), (94, .tuple #[.agg #[.int .i64 t267, .int .i64 t268, s_.2.2.1], .int .i64 t272]), (100, .agg #[.int .i64 t267, .int .i64 t268, s_.2.2.1]), (101, .int .i64 t272)]) (fun s_ w' => (w'.cell? ⟨gb196, 0, none⟩ = some (.int .i64 a0_0) ∧ w'.cell? ⟨gb196, 1, none⟩ = some (.int .i64 a0_1) ∧ w'.cell? ⟨gb196, 2, none⟩ = some (.slice A0_2 l0_2.length c0_2) ∧ w'.cell? ⟨gb197, 0, none⟩ = some (.int .i64 a1_0) ∧ w'.cell? ⟨gb197, 1, none⟩ = some (.int .i64 a1_1) ∧ w'.cell? ⟨gb197, 2, none⟩ = some (.slice A1_2 l1_2.length c1_2)) ∧ (Kd.R (Kd.int .i64) 2 w' w.heap.size (fun k_ => some k_ ≠ (s_.2.1 : Value).ownBlock ∧ some k_ ≠ (s_.2.2.1 : Value).ownBlock ∧ some k_ ≠ (.slice Ao43 t212.length co43 : Value).ownBlock ∧ some k_ ≠ (.slice Ao53 t250.length co53 : Value).ownBlock ∧ some k_ ≠ (.slice Ao63 t252.length co63 : Value).ownBlock ∧ some k_ ≠ (.slice Ao73 t231.length co73 : Value).ownBlock) s_.1 t259) ∧ (Kd.R (Kd.int .i64) 2 w' w.heap.size (fun k_ => some k_ ≠ (s_.1 : Value).ownBlock ∧ some k_ ≠ (s_.2.2.1 : Value).ownBlock ∧ some k_ ≠ (.slice Ao43 t212.length co43 : Value).ownBlock ∧ some k_ ≠ (.slice Ao53 t250.length co53 : Value).ownBlock ∧ some k_ ≠ (.slice Ao63 t252.length co63 : Value).ownBlock ∧ some k_ ≠ (.slice Ao73 t231.length co73 : Value).ownBlock) s_.2.1 t264) ∧ (Kd.R (Kd.int .i64) 2 w' w.heap.size (fun k_ => some k_ ≠ (s_.1 : Value).ownBlock ∧ some k_ ≠ (s_.2.1 : Value).ownBlock ∧ some k_ ≠ (.slice Ao43 t212.length co43 : Value).ownBlock ∧ some k_ ≠ (.slice Ao53 t250.length co53 : Value).ownBlock ∧ some k_ ≠ (.slice Ao63 t252.length co63 : Value).ownBlock ∧ some k_ ≠ (.slice Ao73 t231.length co73 : Value).ownBlock) s_.2.2.1 t269) ∧ (Kd.R (Kd.int .i64) 2 w' w.heap.size (fun k_ => some k_ ≠ (s_.1 : Value).ownBlock ∧ some k_ ≠ (s_.2.1 : Value).ownBlock ∧ some k_ ≠ (s_.2.2.1 : Value).ownBlock ∧ some k_ ≠ (.slice Ao53 t250.length co53 : Value).ownBlock ∧ some k_ ≠ (.slice Ao63 t252.length co63 : Value).ownBlock ∧ some k_ ≠ (.slice Ao73 t231.length co73 : Value).ownBlock) (.slice Ao43 t212.length co43) t212) ∧ (Kd.R (Kd.int .i64) 2 w' w.heap.size (fun k_ => some k_ ≠ (s_.1 : Value).ownBlock ∧ some k_ ≠ (s_.2.1 : Value).ownBlock ∧ some k_ ≠ (s_.2.2.1 : Value).ownBlock ∧ some k_ ≠ (.slice Ao43 t212.length co43 : Value).ownBlock ∧ some k_ ≠ (.slice Ao63 t252.length co63 : Value).ownBlock ∧ some k_ ≠ (.slice Ao73 t231.length co73 : Value).ownBlock) (.slice Ao53 t250.length co53) t250) ∧ (Kd.R (Kd.int .i64) 2 w' w.heap.size (fun k_ => some k_ ≠ (s_.1 : Value).ownBlock ∧ some k_ ≠ (s_.2.1 : Value).ownBlock ∧ some k_ ≠ (s_.2.2.1 : Value).ownBlock ∧ some k_ ≠ (.slice Ao43 t212.length co43 : Value).ownBlock ∧ some k_ ≠ (.slice Ao53 t250.length co53 : Value).ownBlock ∧ some k_ ≠ (.slice Ao73 t231.length co73 : Value).ownBlock) (.slice Ao63 t252.length co63) t252) ∧ (Kd.R (Kd.int .i64) 2 w' w.heap.size (fun k_ => some k_ ≠ (s_.1 : Value).ownBlock ∧ some k_ ≠ (s_.2.1 : Value).ownBlock ∧ some k_ ≠ (s_.2.2.1 : Value).ownBlock ∧ some k_ ≠ (.slice Ao43 t212.length co43 : Value).ownBlock ∧ some k_ ≠ (.slice Ao53 t250.length co53 : Value).ownBlock ∧ some k_ ≠ (.slice Ao63 t252.length co63 : Value).ownBlock) (.slice Ao73 t231.length co73) t255) ∧ (w'.heap[gb196]? = some (.cells #[.int .i64 a0_0, .int .i64 a0_1, .slice A0_2 l0_2.length c0_2] 24 (0, 0))) ∧ (w'.heap[gb197]? = some (.cells #[.int .i64 a1_0, .int .i64 a1_1, .slice A1_2 l1_2.length c1_2] 24 (0, 0))) ∧ (w'.heap[gb216]? = some (.cells #[.int .i64 t210, .int .i64 t211, .slice Ao43 t212.length co43] 27 (0, 0))) ∧ (w'.heap[gb222]? = some (.cells #[.int .i64 t217, .int .i64 t218, .slice Ao53 t250.length co53] 27 (0, 0))) ∧ (w'.heap[gb228]? = some (.cells #[.int .i64 t223, .int .i64 t224, .slice Ao63 t252.length co63] 27 (0, 0))) ∧ (w'.heap[gb235]? = some (.cells #[.int .i64 t229, .int .i64 t230, .slice Ao73 t231.length co73] 27 (0, 0))) ∧ (w'.heap[s_.2.2.2]? = some (.cells #[.int .i64 0, .int .i64 0, .slice none 0 0] 27 (0, 0))) ∧ (w.heap.size ≤ s_.2.2.2) ∧ (w.heap.size ≤ s_.2.2.2) ∧ (gb196 ≠ s_.2.2.2) ∧ (s_.2.2.2 ≠ gb196) ∧ (gb197 ≠ s_.2.2.2) ∧ (s_.2.2.2 ≠ gb197) ∧ (gb216 ≠ s_.2.2.2) ∧ (s_.2.2.2 ≠ gb216) ∧ (gb222 ≠ s_.2.2.2) ∧ (s_.2.2.2 ≠ gb222) ∧ (gb228 ≠ s_.2.2.2) ∧ (s_.2.2.2 ≠ gb228) ∧ (gb235 ≠ s_.2.2.2) ∧ (s_.2.2.2 ≠ gb235) ∧ (Below w.heap.size w w')) ?_ ?_
             rotate_left
             ·intro hCont
              refine two_ (i := 1) (j := 8) (Ni := some 96) (Nj := some 15) #[true, true, true, false, false, false, false, false, false, false, false] #[true, false, true, false, false, false, false, false, true, false, false] rfl rfl rfl rfl (two_of HT_.out (by kernel_rfl)) (by decide) (by decide) (fun K hK => ?_) (fun K hK => ?_)
              ·skip
               refine goes_ Try.func15 (by kernel_rfl) rfl #[.agg #[.int .i64 a0_0, .int .i64 a0_1, .slice A0_2 l0_2.length c0_2]] (by rfl) rfl rfl lm_ ?_
               with_reducible refine (laws_toMatrix.calls kj108 a0_0 a0_1 _ _ l0_2 t257 t258 t259 _ ?side1 ?side2 A163.out).mono ?_
               (case side1 => repeat (first | exact (Kd.C_below HR0_2.out HB.out) | (with_reducible refine Kd.C_alloc ?_ _) | (with_reducible refine Kd.C_drewN ?_ _) | (with_reducible refine Kd.C_drew ?_)))
               (case side2 => exact HC0_2.out)
               rintro e w177 ⟨v260, rfl, ho0, hb⟩
               refine ⟨_, rfl, ?_⟩
               have n0_ := am_ (Kd.R_elder' (rk_ HO_217002.out) (Kd.R_base ho0) hb)
               have n1_ := am_ (Kd.R_elder' (rk_ HO_223002.out) (Kd.R_base ho0) hb)
               have n2_ := am_ (Kd.R_elder' (rk_ HO_229002.out) (Kd.R_base ho0) hb)
               have n3_ := am_ (Kd.R_elder' (rk_ HO_236002.out) (Kd.R_base ho0) hb)
               have n4_ := am_ (Kd.R_lower (Kd.R_new' (Kd.R_new' (Kd.R_new' (Kd.R_new' ho0 (Kd.R_lt (rk_ HO_217002.out))) (Kd.R_lt (rk_ HO_223002.out))) (Kd.R_lt (rk_ HO_229002.out))) (Kd.R_lt (rk_ HO_236002.out))) (below_size (bb_ HB.out)))
               have n5_ := am_ (bw_ BK196 hb)
               have n6_ := am_ (bw_ BK197 hb)
               have n7_ := am_ (bw_ BK216 hb)
               have n8_ := am_ (bw_ BK222 hb)
               have n9_ := am_ (bw_ BK228 hb)
               have n10_ := am_ (bw_ BK235 hb)
               have n11_ := am_ (below_step (bb_ HB.out) hb)
               clear HO_217002 HO_223002 HO_229002 HO_236002 BK196 BK197 BK216 BK222 BK228 BK235 HB; revert n0_ n1_ n2_ n3_ n4_ n5_ n6_ n7_ n8_ n9_ n10_ n11_; intro HO_217002 HO_223002 HO_229002 HO_236002 HO261 BK196 BK197 BK216 BK222 BK228 BK235 HB
               (try clear hb)
               (try clear hb2)
               (try clear hk)
               (try clear hi)
               (try clear ho0)
               refine hK.out _ _ ⟨bc_ BK196 0, bc_ BK196 1, bc_ BK196 2, bc_ BK197 0, bc_ BK197 1, bc_ BK197 2⟩ (fun hHeld => ?_)
               clear hK K
               refine norm_ (a' := ?_) ?_ ?_
               rotate_left
               ·show Act.put _ (some 96) _ = _
                simp only [Act.put, List.setIfInBounds_toArray, List.set_cons_zero, List.set_cons_succ, i64_w, i32_w]
                rfl
               refine two_ (i := 3) (j := 8) (Ni := some 98) (Nj := some 15) #[true, true, true, true, false, false, false, false, false, false, false] #[true, true, true, false, false, false, false, false, true, false, false] rfl rfl rfl rfl (two_of HT_.out (by kernel_rfl)) (by decide) (by decide) (fun K hK => ?_) (fun K hK => ?_)
               ·skip
                refine goes_ Try.func15 (by kernel_rfl) rfl #[.agg #[.int .i64 a1_0, .int .i64 a1_1, .slice A1_2 l1_2.length c1_2]] (by rfl) rfl rfl lm_ ?_
                with_reducible refine (laws_toMatrix.calls kj108 a1_0 a1_1 _ _ l1_2 t262 t263 t264 _ ?side1 ?side2 A164.out).mono ?_
                (case side1 => repeat (first | exact (Kd.C_below HR1_2.out HB.out) | (with_reducible refine Kd.C_alloc ?_ _) | (with_reducible refine Kd.C_drewN ?_ _) | (with_reducible refine Kd.C_drew ?_)))
                (case side2 => exact HC1_2.out)
                rintro e w178 ⟨v265, rfl, ho0, hb⟩
                refine ⟨_, rfl, ?_⟩
                have n0_ := am_ (Kd.R_elder' (rk_ HO_217002.out) (Kd.R_base ho0) hb)
                have n1_ := am_ (Kd.R_elder' (rk_ HO_223002.out) (Kd.R_base ho0) hb)
                have n2_ := am_ (Kd.R_elder' (rk_ HO_229002.out) (Kd.R_base ho0) hb)
                have n3_ := am_ (Kd.R_elder' (rk_ HO_236002.out) (Kd.R_base ho0) hb)
                have n4_ := am_ (Kd.R_elder' (rk_ HO261.out) (Kd.R_base ho0) hb)
                have n5_ := am_ (Kd.R_lower (Kd.R_new' (Kd.R_new' (Kd.R_new' (Kd.R_new' (Kd.R_new' ho0 (Kd.R_lt (rk_ HO_217002.out))) (Kd.R_lt (rk_ HO_223002.out))) (Kd.R_lt (rk_ HO_229002.out))) (Kd.R_lt (rk_ HO_236002.out))) (Kd.R_lt (rk_ HO261.out))) (below_size (bb_ HB.out)))
                have n6_ := am_ (bw_ BK196 hb)
                have n7_ := am_ (bw_ BK197 hb)
                have n8_ := am_ (bw_ BK216 hb)
                have n9_ := am_ (bw_ BK222 hb)
                have n10_ := am_ (bw_ BK228 hb)
                have n11_ := am_ (bw_ BK235 hb)
                have n12_ := am_ (below_step (bb_ HB.out) hb)
                clear HO_217002 HO_223002 HO_229002 HO_236002 HO261 BK196 BK197 BK216 BK222 BK228 BK235 HB; revert n0_ n1_ n2_ n3_ n4_ n5_ n6_ n7_ n8_ n9_ n10_ n11_ n12_; intro HO_217002 HO_223002 HO_229002 HO_236002 HO261 HO266 BK196 BK197 BK216 BK222 BK228 BK235 HB
                (try clear hb)
                (try clear hb2)
                (try clear hk)
                (try clear hi)
                (try clear ho0)
                obtain ⟨Ao179, co179, eo179⟩ := Kd.R_slice HO261.out
                (first | subst eo179 | (injection eo179 with f1_ f2_ f3_; have f4_ := f1_.symm; have f5_ := f3_.symm; clear f1_ f2_ f3_; subst f4_; subst f5_))
                obtain ⟨Ao180, co180, eo180⟩ := Kd.R_slice HO266.out
                (first | subst eo180 | (injection eo180 with f1_ f2_ f3_; have f4_ := f1_.symm; have f5_ := f3_.symm; clear f1_ f2_ f3_; subst f4_; subst f5_))
                refine hK.out _ _ ⟨bc_ BK196 0, bc_ BK196 1, bc_ BK196 2, bc_ BK197 0, bc_ BK197 1, bc_ BK197 2⟩ (fun hHeld => ?_)
                clear hK K
                refine norm_ (a' := ?_) ?_ ?_
                rotate_left
                ·show Act.put _ (some 98) _ = _
                 simp only [Act.put, List.setIfInBounds_toArray, List.set_cons_zero, List.set_cons_succ, i64_w, i32_w]
                 rfl
                refine two_ (i := 4) (j := 8) (Ni := some 99) (Nj := some 15) #[true, true, true, true, true, false, false, false, false, false, false] #[true, true, true, true, false, false, false, false, true, false, false] rfl rfl rfl rfl (two_of HT_.out (by kernel_rfl)) (by decide) (by decide) (fun K hK => ?_) (fun K hK => ?_)
                ·skip
                 refine goes_ Try.func29 (by kernel_rfl) rfl #[.agg #[.int .i64 t257, .int .i64 t258, .slice Ao179 t259.length co179], .agg #[.int .i64 t262, .int .i64 t263, .slice Ao180 t264.length co180]] (by rfl) rfl rfl lm_ ?_
                 with_reducible refine (impl_MultiplyMatrices.calls kj108 t257 t258 _ _ t259 t262 t263 _ _ t264 t267 t268 t269 t272 _ ?side1 ?side2 ?side3 ?side4 A165.out).mono ?_
                 (case side1 => repeat (first | exact (Kd.R_reads' HO261.out).2.2 | (with_reducible refine Kd.C_alloc ?_ _) | (with_reducible refine Kd.C_drewN ?_ _) | (with_reducible refine Kd.C_drew ?_)))
                 (case side2 => exact (Kd.R_reads' HO261.out).2.1)
                 (case side3 => repeat (first | exact (Kd.R_reads' HO266.out).2.2 | (with_reducible refine Kd.C_alloc ?_ _) | (with_reducible refine Kd.C_drewN ?_ _) | (with_reducible refine Kd.C_drew ?_)))
                 (case side4 => exact (Kd.R_reads' HO266.out).2.1)
                 rintro e w181 ⟨v270, rfl, ho0, hb⟩
                 refine ⟨_, rfl, ?_⟩
                 have n0_ := am_ (Kd.R_elder' (rk_ HO_217002.out) (Kd.R_base ho0) hb)
                 have n1_ := am_ (Kd.R_elder' (rk_ HO_223002.out) (Kd.R_base ho0) hb)
                 have n2_ := am_ (Kd.R_elder' (rk_ HO_229002.out) (Kd.R_base ho0) hb)
                 have n3_ := am_ (Kd.R_elder' (rk_ HO_236002.out) (Kd.R_base ho0) hb)
                 have n4_ := am_ (Kd.R_elder' (rk_ HO261.out) (Kd.R_base ho0) hb)
                 have n5_ := am_ (Kd.R_elder' (rk_ HO266.out) (Kd.R_base ho0) hb)
                 have n6_ := am_ (Kd.R_lower (Kd.R_new' (Kd.R_new' (Kd.R_new' (Kd.R_new' (Kd.R_new' (Kd.R_new' ho0 (Kd.R_lt (rk_ HO_217002.out))) (Kd.R_lt (rk_ HO_223002.out))) (Kd.R_lt (rk_ HO_229002.out))) (Kd.R_lt (rk_ HO_236002.out))) (Kd.R_lt (rk_ HO261.out))) (Kd.R_lt (rk_ HO266.out))) (below_size (bb_ HB.out)))
                 have n7_ := am_ (bw_ BK196 hb)
                 have n8_ := am_ (bw_ BK197 hb)
                 have n9_ := am_ (bw_ BK216 hb)
                 have n10_ := am_ (bw_ BK222 hb)
                 have n11_ := am_ (bw_ BK228 hb)
                 have n12_ := am_ (bw_ BK235 hb)
                 have n13_ := am_ (below_step (bb_ HB.out) hb)
                 clear HO_217002 HO_223002 HO_229002 HO_236002 HO261 HO266 BK196 BK197 BK216 BK222 BK228 BK235 HB; revert n0_ n1_ n2_ n3_ n4_ n5_ n6_ n7_ n8_ n9_ n10_ n11_ n12_ n13_; intro HO_217002 HO_223002 HO_229002 HO_236002 HO261 HO266 HO271 BK196 BK197 BK216 BK222 BK228 BK235 HB
                 (try clear hb)
                 (try clear hb2)
                 (try clear hk)
                 (try clear hi)
                 (try clear ho0)
                 refine hK.out _ _ ⟨bc_ BK196 0, bc_ BK196 1, bc_ BK196 2, bc_ BK197 0, bc_ BK197 1, bc_ BK197 2⟩ (fun hHeld => ?_)
                 clear hK K
                 refine norm_ (a' := ?_) ?_ ?_
                 rotate_left
                 ·show Act.put _ (some 99) _ = _
                  simp only [Act.put, List.setIfInBounds_toArray, List.set_cons_zero, List.set_cons_succ, i64_w, i32_w]
                  rfl
                 refine pure_ (i := 5) (N := some 94) (v := ?_) (a' := ?_) #[true, true, true, true, true, true, false, false, false, false, false] rfl rfl (any_of HT_.out (by kernel_rfl)) (fun _ _ _ h => h) (Or.inl ⟨by rfl, ?_⟩) ?_ ?_
                 rotate_left
                 ·intro w'
                  go_simp
                  with_reducible rfl
                 rotate_left
                 ·simp only [Act.put, List.setIfInBounds_toArray, List.set_cons_zero, List.set_cons_succ, i64_w, i32_w]
                  rfl
                 refine pure_ (i := 6) (N := some 100) (v := ?_) (a' := ?_) #[true, true, true, true, true, true, true, false, false, false, false] rfl rfl (any_of HT_.out (by kernel_rfl)) (fun _ _ _ h => h) (Or.inl ⟨by rfl, ?_⟩) ?_ ?_
                 rotate_left
                 ·intro w'
                  go_simp
                  with_reducible rfl
                 rotate_left
                 ·simp only [Act.put, List.setIfInBounds_toArray, List.set_cons_zero, List.set_cons_succ, i64_w, i32_w]
                  rfl
                 refine pure_ (i := 7) (N := some 101) (v := ?_) (a' := ?_) #[true, true, true, true, true, true, true, true, false, false, false] rfl rfl (any_of HT_.out (by kernel_rfl)) (fun _ _ _ h => h) (Or.inl ⟨by rfl, ?_⟩) ?_ ?_
                 rotate_left
                 ·intro w'
                  go_simp
                  with_reducible rfl
                 rotate_left
                 ·simp only [Act.put, List.setIfInBounds_toArray, List.set_cons_zero, List.set_cons_succ, i64_w, i32_w]
                  rfl
                 refine one_ (i := 8) (N := some 15) #[true, true, true, true, true, true, true, true, true, false, false] rfl rfl (one_of HT_.out (by kernel_rfl)) (by decide) (fun K hK => ?_)
                 refine box_step ?hg (N := 15) ?hd (cs := #[.int .i64 0, .int .i64 0, .slice none 0 0]) (t := 27) ?hr ?_; (case hd => rfl); (case hg => rfl); (case hr => first | (go_simp; done) | (go_simp; rfl))
                 intro gb273 hg w182 hbox hb
                 have n0_ := am_ (Kd.R_below (rk_ HO_217002.out) hb)
                 have n1_ := am_ (Kd.R_below (rk_ HO_223002.out) hb)
                 have n2_ := am_ (Kd.R_below (rk_ HO_229002.out) hb)
                 have n3_ := am_ (Kd.R_below (rk_ HO_236002.out) hb)
                 have n4_ := am_ (Kd.R_below (rk_ HO261.out) hb)
                 have n5_ := am_ (Kd.R_below (rk_ HO266.out) hb)
                 have n6_ := am_ (Kd.R_below (rk_ HO271.out) hb)
                 have n7_ := am_ (bw_ BK196 hb)
                 have n8_ := am_ (bw_ BK197 hb)
                 have n9_ := am_ (bw_ BK216 hb)
                 have n10_ := am_ (bw_ BK222 hb)
                 have n11_ := am_ (bw_ BK228 hb)
                 have n12_ := am_ (bw_ BK235 hb)
                 have n13_ := am_ (below_step (bb_ HB.out) hb)
                 have n14_ := am_ (hbox)
                 have n15_ := am_ ((by rw [hg]; exact (below_size (bb_ HB.out)) : w.heap.size ≤ gb273))
                 have n16_ := am_ ((by rw [hg]; exact (below_size (bb_ HB.out)) : w.heap.size ≤ gb273))
                 have n17_ := am_ ((by rw [hg]; exact Nat.ne_of_lt (bl_ BK196) : gb196 ≠ gb273))
                 have n18_ := am_ ((by rw [hg]; exact Nat.ne_of_gt (bl_ BK196) : gb273 ≠ gb196))
                 have n19_ := am_ ((by rw [hg]; exact Nat.ne_of_lt (bl_ BK197) : gb197 ≠ gb273))
                 have n20_ := am_ ((by rw [hg]; exact Nat.ne_of_gt (bl_ BK197) : gb273 ≠ gb197))
                 have n21_ := am_ ((by rw [hg]; exact Nat.ne_of_lt (bl_ BK216) : gb216 ≠ gb273))
                 have n22_ := am_ ((by rw [hg]; exact Nat.ne_of_gt (bl_ BK216) : gb273 ≠ gb216))
                 have n23_ := am_ ((by rw [hg]; exact Nat.ne_of_lt (bl_ BK222) : gb222 ≠ gb273))
                 have n24_ := am_ ((by rw [hg]; exact Nat.ne_of_gt (bl_ BK222) : gb273 ≠ gb222))
                 have n25_ := am_ ((by rw [hg]; exact Nat.ne_of_lt (bl_ BK228) : gb228 ≠ gb273))
                 have n26_ := am_ ((by rw [hg]; exact Nat.ne_of_gt (bl_ BK228) : gb273 ≠ gb228))
                 have n27_ := am_ ((by rw [hg]; exact Nat.ne_of_lt (bl_ BK235) : gb235 ≠ gb273))
                 have n28_ := am_ ((by rw [hg]; exact Nat.ne_of_gt (bl_ BK235) : gb273 ≠ gb235))
                 clear HO_217002 HO_223002 HO_229002 HO_236002 HO261 HO266 HO271 BK196 BK197 BK216 BK222 BK228 BK235 HB; revert n0_ n1_ n2_ n3_ n4_ n5_ n6_ n7_ n8_ n9_ n10_ n11_ n12_ n13_ n14_ n15_ n16_ n17_ n18_ n19_ n20_ n21_ n22_ n23_ n24_ n25_ n26_ n27_ n28_; intro HO_217002 HO_223002 HO_229002 HO_236002 HO261 HO266 HO271 BK196 BK197 BK216 BK222 BK228 BK235 HB BK273 GW273 GE273 NB196_273 NB273_196 NB197_273 NB273_197 NB216_273 NB273_216 NB222_273 NB273_222 NB228_273 NB273_228 NB235_273 NB273_235
                 clear hb hbox hg
                 refine hK.out _ _ ⟨bc_ BK196 0, bc_ BK196 1, bc_ BK196 2, bc_ BK197 0, bc_ BK197 1, bc_ BK197 2⟩ (fun hHeld => ?_)
                 clear hK K
                 refine norm_ (a' := ?_) ?_ ?_
                 rotate_left
                 ·show Act.put _ (some 15) _ = _
                  simp only [Act.put, List.setIfInBounds_toArray, List.set_cons_zero, List.set_cons_succ, i64_w, i32_w]
                  rfl
                 exact norm_ (by simp only [putAll, Act.put, List.setIfInBounds_toArray, List.set_cons_zero, List.set_cons_succ]) (hCont (.slice Ao179 t259.length co179, .slice Ao180 t264.length co180, v270, gb273) _ ⟨hHeld, (rm_ HO261.out (fun _ hk => ⟨hk.1.2, ⟨hk.2, ⟨hk.1.1.1.1.1.2, ⟨hk.1.1.1.1.2, ⟨hk.1.1.1.2, hk.1.1.2⟩⟩⟩⟩⟩)), (rm_ HO266.out (fun _ hk => ⟨hk.1.2, ⟨hk.2, ⟨hk.1.1.1.1.1.2, ⟨hk.1.1.1.1.2, ⟨hk.1.1.1.2, hk.1.1.2⟩⟩⟩⟩⟩)), (rm_ HO271.out (fun _ hk => ⟨hk.1.2, ⟨hk.2, ⟨hk.1.1.1.1.1.2, ⟨hk.1.1.1.1.2, ⟨hk.1.1.1.2, hk.1.1.2⟩⟩⟩⟩⟩)), (rm_ HO_217002.out (fun _ hk => ⟨hk.1.1.2, ⟨hk.1.2, ⟨hk.2, ⟨hk.1.1.1.1, ⟨hk.1.1.1.2.1, hk.1.1.1.2.2⟩⟩⟩⟩⟩)), (rm_ HO_223002.out (fun _ hk => ⟨hk.1.1.2, ⟨hk.1.2, ⟨hk.2, ⟨hk.1.1.1.1, ⟨hk.1.1.1.2.1, hk.1.1.1.2.2⟩⟩⟩⟩⟩)), (rm_ HO_229002.out (fun _ hk => ⟨hk.1.1.2, ⟨hk.1.2, ⟨hk.2, ⟨hk.1.1.1.1, ⟨hk.1.1.1.2.1, hk.1.1.1.2.2⟩⟩⟩⟩⟩)), (rm_ HO_236002.out (fun _ hk => ⟨hk.1.1.2, ⟨hk.1.2, ⟨hk.2, ⟨hk.1.1.1.1, ⟨hk.1.1.1.2.1, hk.1.1.1.2.2⟩⟩⟩⟩⟩)), (bk_ BK196.out), (bk_ BK197.out), (bk_ BK216.out), (bk_ BK222.out), (bk_ BK228.out), (bk_ BK235.out), (bk_ BK273.out), GW273.out, GE273.out, NB196_273.out, NB273_196.out, NB197_273.out, NB273_197.out, NB216_273.out, NB273_216.out, NB222_273.out, NB273_222.out, NB228_273.out, NB273_228.out, NB235_273.out, NB273_235.out, (bb_ HB.out)⟩)
                ·skip
                 refine box_step ?hg (N := 15) ?hd (cs := #[.int .i64 0, .int .i64 0, .slice none 0 0]) (t := 27) ?hr ?_; (case hd => rfl); (case hg => rfl); (case hr => first | (go_simp; done) | (go_simp; rfl))
                 intro gb273 hg w179 hbox hb
                 have n0_ := am_ (Kd.R_below (rk_ HO_217002.out) hb)
                 have n1_ := am_ (Kd.R_below (rk_ HO_223002.out) hb)
                 have n2_ := am_ (Kd.R_below (rk_ HO_229002.out) hb)
                 have n3_ := am_ (Kd.R_below (rk_ HO_236002.out) hb)
                 have n4_ := am_ (Kd.R_below (rk_ HO261.out) hb)
                 have n5_ := am_ (Kd.R_below (rk_ HO266.out) hb)
                 have n6_ := am_ (bw_ BK196 hb)
                 have n7_ := am_ (bw_ BK197 hb)
                 have n8_ := am_ (bw_ BK216 hb)
                 have n9_ := am_ (bw_ BK222 hb)
                 have n10_ := am_ (bw_ BK228 hb)
                 have n11_ := am_ (bw_ BK235 hb)
                 have n12_ := am_ (below_step (bb_ HB.out) hb)
                 have n13_ := am_ (hbox)
                 have n14_ := am_ ((by rw [hg]; exact (below_size (bb_ HB.out)) : w.heap.size ≤ gb273))
                 have n15_ := am_ ((by rw [hg]; exact (below_size (bb_ HB.out)) : w.heap.size ≤ gb273))
                 have n16_ := am_ ((by rw [hg]; exact Nat.ne_of_lt (bl_ BK196) : gb196 ≠ gb273))
                 have n17_ := am_ ((by rw [hg]; exact Nat.ne_of_gt (bl_ BK196) : gb273 ≠ gb196))
                 have n18_ := am_ ((by rw [hg]; exact Nat.ne_of_lt (bl_ BK197) : gb197 ≠ gb273))
                 have n19_ := am_ ((by rw [hg]; exact Nat.ne_of_gt (bl_ BK197) : gb273 ≠ gb197))
                 have n20_ := am_ ((by rw [hg]; exact Nat.ne_of_lt (bl_ BK216) : gb216 ≠ gb273))
                 have n21_ := am_ ((by rw [hg]; exact Nat.ne_of_gt (bl_ BK216) : gb273 ≠ gb216))
                 have n22_ := am_ ((by rw [hg]; exact Nat.ne_of_lt (bl_ BK222) : gb222 ≠ gb273))
                 have n23_ := am_ ((by rw [hg]; exact Nat.ne_of_gt (bl_ BK222) : gb273 ≠ gb222))
                 have n24_ := am_ ((by rw [hg]; exact Nat.ne_of_lt (bl_ BK228) : gb228 ≠ gb273))
                 have n25_ := am_ ((by rw [hg]; exact Nat.ne_of_gt (bl_ BK228) : gb273 ≠ gb228))
                 have n26_ := am_ ((by rw [hg]; exact Nat.ne_of_lt (bl_ BK235) : gb235 ≠ gb273))
                 have n27_ := am_ ((by rw [hg]; exact Nat.ne_of_gt (bl_ BK235) : gb273 ≠ gb235))
                 clear HO_217002 HO_223002 HO_229002 HO_236002 HO261 HO266 BK196 BK197 BK216 BK222 BK228 BK235 HB; revert n0_ n1_ n2_ n3_ n4_ n5_ n6_ n7_ n8_ n9_ n10_ n11_ n12_ n13_ n14_ n15_ n16_ n17_ n18_ n19_ n20_ n21_ n22_ n23_ n24_ n25_ n26_ n27_; intro HO_217002 HO_223002 HO_229002 HO_236002 HO261 HO266 BK196 BK197 BK216 BK222 BK228 BK235 HB BK273 GW273 GE273 NB196_273 NB273_196 NB197_273 NB273_197 NB216_273 NB273_216 NB222_273 NB273_222 NB228_273 NB273_228 NB235_273 NB273_235
                 clear hb hbox hg
                 obtain ⟨Ao180, co180, eo180⟩ := Kd.R_slice HO261.out
                 (first | subst eo180 | (injection eo180 with f1_ f2_ f3_; have f4_ := f1_.symm; have f5_ := f3_.symm; clear f1_ f2_ f3_; subst f4_; subst f5_))
                 obtain ⟨Ao181, co181, eo181⟩ := Kd.R_slice HO266.out
                 (first | subst eo181 | (injection eo181 with f1_ f2_ f3_; have f4_ := f1_.symm; have f5_ := f3_.symm; clear f1_ f2_ f3_; subst f4_; subst f5_))
                 refine hK.out _ _ ⟨bc_ BK196 0, bc_ BK196 1, bc_ BK196 2, bc_ BK197 0, bc_ BK197 1, bc_ BK197 2⟩ (fun hHeld => ?_)
                 clear hK K
                 refine norm_ (a' := ?_) ?_ ?_
                 rotate_left
                 ·show Act.put _ (some 15) _ = _
                  simp only [Act.put, List.setIfInBounds_toArray, List.set_cons_zero, List.set_cons_succ, i64_w, i32_w]
                  rfl
                 refine one_ (i := 4) (N := some 99) #[true, true, true, true, true, false, false, false, true, false, false] rfl rfl (one_of HT_.out (by kernel_rfl)) (by decide) (fun K hK => ?_)
                 refine goes_ Try.func29 (by kernel_rfl) rfl #[.agg #[.int .i64 t257, .int .i64 t258, .slice Ao180 t259.length co180], .agg #[.int .i64 t262, .int .i64 t263, .slice Ao181 t264.length co181]] (by rfl) rfl rfl lm_ ?_
                 with_reducible refine (impl_MultiplyMatrices.calls kj108 t257 t258 _ _ t259 t262 t263 _ _ t264 t267 t268 t269 t272 _ ?side1 ?side2 ?side3 ?side4 A165.out).mono ?_
                 (case side1 => repeat (first | exact (Kd.R_reads' HO261.out).2.2 | (with_reducible refine Kd.C_alloc ?_ _) | (with_reducible refine Kd.C_drewN ?_ _) | (with_reducible refine Kd.C_drew ?_)))
                 (case side2 => exact (Kd.R_reads' HO261.out).2.1)
                 (case side3 => repeat (first | exact (Kd.R_reads' HO266.out).2.2 | (with_reducible refine Kd.C_alloc ?_ _) | (with_reducible refine Kd.C_drewN ?_ _) | (with_reducible refine Kd.C_drew ?_)))
                 (case side4 => exact (Kd.R_reads' HO266.out).2.1)
                 rintro e w182 ⟨v270, rfl, ho0, hb⟩
                 refine ⟨_, rfl, ?_⟩
                 have n0_ := am_ (Kd.R_elder' (rk_ HO_217002.out) (Kd.R_base ho0) hb)
                 have n1_ := am_ (Kd.R_elder' (rk_ HO_223002.out) (Kd.R_base ho0) hb)
                 have n2_ := am_ (Kd.R_elder' (rk_ HO_229002.out) (Kd.R_base ho0) hb)
                 have n3_ := am_ (Kd.R_elder' (rk_ HO_236002.out) (Kd.R_base ho0) hb)
                 have n4_ := am_ (Kd.R_elder' (rk_ HO261.out) (Kd.R_base ho0) hb)
                 have n5_ := am_ (Kd.R_elder' (rk_ HO266.out) (Kd.R_base ho0) hb)
                 have n6_ := am_ (Kd.R_lower (Kd.R_new' (Kd.R_new' (Kd.R_new' (Kd.R_new' (Kd.R_new' (Kd.R_new' ho0 (Kd.R_lt (rk_ HO_217002.out))) (Kd.R_lt (rk_ HO_223002.out))) (Kd.R_lt (rk_ HO_229002.out))) (Kd.R_lt (rk_ HO_236002.out))) (Kd.R_lt (rk_ HO261.out))) (Kd.R_lt (rk_ HO266.out))) (below_size (bb_ HB.out)))
                 have n7_ := am_ (bw_ BK196 hb)
                 have n8_ := am_ (bw_ BK197 hb)
                 have n9_ := am_ (bw_ BK216 hb)
                 have n10_ := am_ (bw_ BK222 hb)
                 have n11_ := am_ (bw_ BK228 hb)
                 have n12_ := am_ (bw_ BK235 hb)
                 have n13_ := am_ (bw_ BK273 hb)
                 have n14_ := am_ (below_step (bb_ HB.out) hb)
                 clear HO_217002 HO_223002 HO_229002 HO_236002 HO261 HO266 BK196 BK197 BK216 BK222 BK228 BK235 BK273 HB; revert n0_ n1_ n2_ n3_ n4_ n5_ n6_ n7_ n8_ n9_ n10_ n11_ n12_ n13_ n14_; intro HO_217002 HO_223002 HO_229002 HO_236002 HO261 HO266 HO271 BK196 BK197 BK216 BK222 BK228 BK235 BK273 HB
                 (try clear hb)
                 (try clear hb2)
                 (try clear hk)
                 (try clear hi)
                 (try clear ho0)
                 refine hK.out _ _ ⟨bc_ BK196 0, bc_ BK196 1, bc_ BK196 2, bc_ BK197 0, bc_ BK197 1, bc_ BK197 2⟩ (fun hHeld => ?_)
                 clear hK K
                 refine norm_ (a' := ?_) ?_ ?_
                 rotate_left
                 ·show Act.put _ (some 99) _ = _
                  simp only [Act.put, List.setIfInBounds_toArray, List.set_cons_zero, List.set_cons_succ, i64_w, i32_w]
                  rfl
                 refine pure_ (i := 5) (N := some 94) (v := ?_) (a' := ?_) #[true, true, true, true, true, true, false, false, true, false, false] rfl rfl (any_of HT_.out (by kernel_rfl)) (fun _ _ _ h => h) (Or.inl ⟨by rfl, ?_⟩) ?_ ?_
                 rotate_left
                 ·intro w'
                  go_simp
                  with_reducible rfl
                 rotate_left
                 ·simp only [Act.put, List.setIfInBounds_toArray, List.set_cons_zero, List.set_cons_succ, i64_w, i32_w]
                  rfl
                 refine pure_ (i := 6) (N := some 100) (v := ?_) (a' := ?_) #[true, true, true, true, true, true, true, false, true, false, false] rfl rfl (any_of HT_.out (by kernel_rfl)) (fun _ _ _ h => h) (Or.inl ⟨by rfl, ?_⟩) ?_ ?_
                 rotate_left
                 ·intro w'
                  go_simp
                  with_reducible rfl
                 rotate_left
                 ·simp only [Act.put, List.setIfInBounds_toArray, List.set_cons_zero, List.set_cons_succ, i64_w, i32_w]
                  rfl
                 refine pure_ (i := 7) (N := some 101) (v := ?_) (a' := ?_) #[true, true, true, true, true, true, true, true, true, false, false] rfl rfl (any_of HT_.out (by kernel_rfl)) (fun _ _ _ h => h) (Or.inl ⟨by rfl, ?_⟩) ?_ ?_
                 rotate_left
                 ·intro w'
                  go_simp
                  with_reducible rfl
                 rotate_left
                 ·simp only [Act.put, List.setIfInBounds_toArray, List.set_cons_zero, List.set_cons_succ, i64_w, i32_w]
                  rfl
                 exact norm_ (by simp only [putAll, Act.put, List.setIfInBounds_toArray, List.set_cons_zero, List.set_cons_succ]) (hCont (.slice Ao180 t259.length co180, .slice Ao181 t264.length co181, v270, gb273) _ ⟨hHeld, (rm_ HO261.out (fun _ hk => ⟨hk.1.2, ⟨hk.2, ⟨hk.1.1.1.1.1.2, ⟨hk.1.1.1.1.2, ⟨hk.1.1.1.2, hk.1.1.2⟩⟩⟩⟩⟩)), (rm_ HO266.out (fun _ hk => ⟨hk.1.2, ⟨hk.2, ⟨hk.1.1.1.1.1.2, ⟨hk.1.1.1.1.2, ⟨hk.1.1.1.2, hk.1.1.2⟩⟩⟩⟩⟩)), (rm_ HO271.out (fun _ hk => ⟨hk.1.2, ⟨hk.2, ⟨hk.1.1.1.1.1.2, ⟨hk.1.1.1.1.2, ⟨hk.1.1.1.2, hk.1.1.2⟩⟩⟩⟩⟩)), (rm_ HO_217002.out (fun _ hk => ⟨hk.1.1.2, ⟨hk.1.2, ⟨hk.2, ⟨hk.1.1.1.1, ⟨hk.1.1.1.2.1, hk.1.1.1.2.2⟩⟩⟩⟩⟩)), (rm_ HO_223002.out (fun _ hk => ⟨hk.1.1.2, ⟨hk.1.2, ⟨hk.2, ⟨hk.1.1.1.1, ⟨hk.1.1.1.2.1, hk.1.1.1.2.2⟩⟩⟩⟩⟩)), (rm_ HO_229002.out (fun _ hk => ⟨hk.1.1.2, ⟨hk.1.2, ⟨hk.2, ⟨hk.1.1.1.1, ⟨hk.1.1.1.2.1, hk.1.1.1.2.2⟩⟩⟩⟩⟩)), (rm_ HO_236002.out (fun _ hk => ⟨hk.1.1.2, ⟨hk.1.2, ⟨hk.2, ⟨hk.1.1.1.1, ⟨hk.1.1.1.2.1, hk.1.1.1.2.2⟩⟩⟩⟩⟩)), (bk_ BK196.out), (bk_ BK197.out), (bk_ BK216.out), (bk_ BK222.out), (bk_ BK228.out), (bk_ BK235.out), (bk_ BK273.out), GW273.out, GE273.out, NB196_273.out, NB273_196.out, NB197_273.out, NB273_197.out, NB216_273.out, NB273_216.out, NB222_273.out, NB273_222.out, NB228_273.out, NB273_228.out, NB235_273.out, NB273_235.out, (bb_ HB.out)⟩)
               ·skip
                refine box_step ?hg (N := 15) ?hd (cs := #[.int .i64 0, .int .i64 0, .slice none 0 0]) (t := 27) ?hr ?_; (case hd => rfl); (case hg => rfl); (case hr => first | (go_simp; done) | (go_simp; rfl))
                intro gb273 hg w178 hbox hb
                have n0_ := am_ (Kd.R_below (rk_ HO_217002.out) hb)
                have n1_ := am_ (Kd.R_below (rk_ HO_223002.out) hb)
                have n2_ := am_ (Kd.R_below (rk_ HO_229002.out) hb)
                have n3_ := am_ (Kd.R_below (rk_ HO_236002.out) hb)
                have n4_ := am_ (Kd.R_below (rk_ HO261.out) hb)
                have n5_ := am_ (bw_ BK196 hb)
                have n6_ := am_ (bw_ BK197 hb)
                have n7_ := am_ (bw_ BK216 hb)
                have n8_ := am_ (bw_ BK222 hb)
                have n9_ := am_ (bw_ BK228 hb)
                have n10_ := am_ (bw_ BK235 hb)
                have n11_ := am_ (below_step (bb_ HB.out) hb)
                have n12_ := am_ (hbox)
                have n13_ := am_ ((by rw [hg]; exact (below_size (bb_ HB.out)) : w.heap.size ≤ gb273))
                have n14_ := am_ ((by rw [hg]; exact (below_size (bb_ HB.out)) : w.heap.size ≤ gb273))
                have n15_ := am_ ((by rw [hg]; exact Nat.ne_of_lt (bl_ BK196) : gb196 ≠ gb273))
                have n16_ := am_ ((by rw [hg]; exact Nat.ne_of_gt (bl_ BK196) : gb273 ≠ gb196))
                have n17_ := am_ ((by rw [hg]; exact Nat.ne_of_lt (bl_ BK197) : gb197 ≠ gb273))
                have n18_ := am_ ((by rw [hg]; exact Nat.ne_of_gt (bl_ BK197) : gb273 ≠ gb197))
                have n19_ := am_ ((by rw [hg]; exact Nat.ne_of_lt (bl_ BK216) : gb216 ≠ gb273))
                have n20_ := am_ ((by rw [hg]; exact Nat.ne_of_gt (bl_ BK216) : gb273 ≠ gb216))
                have n21_ := am_ ((by rw [hg]; exact Nat.ne_of_lt (bl_ BK222) : gb222 ≠ gb273))
                have n22_ := am_ ((by rw [hg]; exact Nat.ne_of_gt (bl_ BK222) : gb273 ≠ gb222))
                have n23_ := am_ ((by rw [hg]; exact Nat.ne_of_lt (bl_ BK228) : gb228 ≠ gb273))
                have n24_ := am_ ((by rw [hg]; exact Nat.ne_of_gt (bl_ BK228) : gb273 ≠ gb228))
                have n25_ := am_ ((by rw [hg]; exact Nat.ne_of_lt (bl_ BK235) : gb235 ≠ gb273))
                have n26_ := am_ ((by rw [hg]; exact Nat.ne_of_gt (bl_ BK235) : gb273 ≠ gb235))
                clear HO_217002 HO_223002 HO_229002 HO_236002 HO261 BK196 BK197 BK216 BK222 BK228 BK235 HB; revert n0_ n1_ n2_ n3_ n4_ n5_ n6_ n7_ n8_ n9_ n10_ n11_ n12_ n13_ n14_ n15_ n16_ n17_ n18_ n19_ n20_ n21_ n22_ n23_ n24_ n25_ n26_; intro HO_217002 HO_223002 HO_229002 HO_236002 HO261 BK196 BK197 BK216 BK222 BK228 BK235 HB BK273 GW273 GE273 NB196_273 NB273_196 NB197_273 NB273_197 NB216_273 NB273_216 NB222_273 NB273_222 NB228_273 NB273_228 NB235_273 NB273_235
                clear hb hbox hg
                refine hK.out _ _ ⟨bc_ BK196 0, bc_ BK196 1, bc_ BK196 2, bc_ BK197 0, bc_ BK197 1, bc_ BK197 2⟩ (fun hHeld => ?_)
                clear hK K
                refine norm_ (a' := ?_) ?_ ?_
                rotate_left
                ·show Act.put _ (some 15) _ = _
                 simp only [Act.put, List.setIfInBounds_toArray, List.set_cons_zero, List.set_cons_succ, i64_w, i32_w]
                 rfl
                refine one_ (i := 3) (N := some 98) #[true, true, true, true, false, false, false, false, true, false, false] rfl rfl (one_of HT_.out (by kernel_rfl)) (by decide) (fun K hK => ?_)
                refine goes_ Try.func15 (by kernel_rfl) rfl #[.agg #[.int .i64 a1_0, .int .i64 a1_1, .slice A1_2 l1_2.length c1_2]] (by rfl) rfl rfl lm_ ?_
                with_reducible refine (laws_toMatrix.calls kj108 a1_0 a1_1 _ _ l1_2 t262 t263 t264 _ ?side1 ?side2 A164.out).mono ?_
                (case side1 => repeat (first | exact (Kd.C_below HR1_2.out HB.out) | (with_reducible refine Kd.C_alloc ?_ _) | (with_reducible refine Kd.C_drewN ?_ _) | (with_reducible refine Kd.C_drew ?_)))
                (case side2 => exact HC1_2.out)
                rintro e w179 ⟨v265, rfl, ho0, hb⟩
                refine ⟨_, rfl, ?_⟩
                have n0_ := am_ (Kd.R_elder' (rk_ HO_217002.out) (Kd.R_base ho0) hb)
                have n1_ := am_ (Kd.R_elder' (rk_ HO_223002.out) (Kd.R_base ho0) hb)
                have n2_ := am_ (Kd.R_elder' (rk_ HO_229002.out) (Kd.R_base ho0) hb)
                have n3_ := am_ (Kd.R_elder' (rk_ HO_236002.out) (Kd.R_base ho0) hb)
                have n4_ := am_ (Kd.R_elder' (rk_ HO261.out) (Kd.R_base ho0) hb)
                have n5_ := am_ (Kd.R_lower (Kd.R_new' (Kd.R_new' (Kd.R_new' (Kd.R_new' (Kd.R_new' ho0 (Kd.R_lt (rk_ HO_217002.out))) (Kd.R_lt (rk_ HO_223002.out))) (Kd.R_lt (rk_ HO_229002.out))) (Kd.R_lt (rk_ HO_236002.out))) (Kd.R_lt (rk_ HO261.out))) (below_size (bb_ HB.out)))
                have n6_ := am_ (bw_ BK196 hb)
                have n7_ := am_ (bw_ BK197 hb)
                have n8_ := am_ (bw_ BK216 hb)
                have n9_ := am_ (bw_ BK222 hb)
                have n10_ := am_ (bw_ BK228 hb)
                have n11_ := am_ (bw_ BK235 hb)
                have n12_ := am_ (bw_ BK273 hb)
                have n13_ := am_ (below_step (bb_ HB.out) hb)
                clear HO_217002 HO_223002 HO_229002 HO_236002 HO261 BK196 BK197 BK216 BK222 BK228 BK235 BK273 HB; revert n0_ n1_ n2_ n3_ n4_ n5_ n6_ n7_ n8_ n9_ n10_ n11_ n12_ n13_; intro HO_217002 HO_223002 HO_229002 HO_236002 HO261 HO266 BK196 BK197 BK216 BK222 BK228 BK235 BK273 HB
                (try clear hb)
                (try clear hb2)
                (try clear hk)
                (try clear hi)
                (try clear ho0)
                obtain ⟨Ao180, co180, eo180⟩ := Kd.R_slice HO261.out
                (first | subst eo180 | (injection eo180 with f1_ f2_ f3_; have f4_ := f1_.symm; have f5_ := f3_.symm; clear f1_ f2_ f3_; subst f4_; subst f5_))
                obtain ⟨Ao181, co181, eo181⟩ := Kd.R_slice HO266.out
                (first | subst eo181 | (injection eo181 with f1_ f2_ f3_; have f4_ := f1_.symm; have f5_ := f3_.symm; clear f1_ f2_ f3_; subst f4_; subst f5_))
                refine hK.out _ _ ⟨bc_ BK196 0, bc_ BK196 1, bc_ BK196 2, bc_ BK197 0, bc_ BK197 1, bc_ BK197 2⟩ (fun hHeld => ?_)
                clear hK K
                refine norm_ (a' := ?_) ?_ ?_
                rotate_left
                ·show Act.put _ (some 98) _ = _
                 simp only [Act.put, List.setIfInBounds_toArray, List.set_cons_zero, List.set_cons_succ, i64_w, i32_w]
                 rfl
                refine one_ (i := 4) (N := some 99) #[true, true, true, true, true, false, false, false, true, false, false] rfl rfl (one_of HT_.out (by kernel_rfl)) (by decide) (fun K hK => ?_)
                refine goes_ Try.func29 (by kernel_rfl) rfl #[.agg #[.int .i64 t257, .int .i64 t258, .slice Ao180 t259.length co180], .agg #[.int .i64 t262, .int .i64 t263, .slice Ao181 t264.length co181]] (by rfl) rfl rfl lm_ ?_
                with_reducible refine (impl_MultiplyMatrices.calls kj108 t257 t258 _ _ t259 t262 t263 _ _ t264 t267 t268 t269 t272 _ ?side1 ?side2 ?side3 ?side4 A165.out).mono ?_
                (case side1 => repeat (first | exact (Kd.R_reads' HO261.out).2.2 | (with_reducible refine Kd.C_alloc ?_ _) | (with_reducible refine Kd.C_drewN ?_ _) | (with_reducible refine Kd.C_drew ?_)))
                (case side2 => exact (Kd.R_reads' HO261.out).2.1)
                (case side3 => repeat (first | exact (Kd.R_reads' HO266.out).2.2 | (with_reducible refine Kd.C_alloc ?_ _) | (with_reducible refine Kd.C_drewN ?_ _) | (with_reducible refine Kd.C_drew ?_)))
                (case side4 => exact (Kd.R_reads' HO266.out).2.1)
                rintro e w182 ⟨v270, rfl, ho0, hb⟩
                refine ⟨_, rfl, ?_⟩
                have n0_ := am_ (Kd.R_elder' (rk_ HO_217002.out) (Kd.R_base ho0) hb)
                have n1_ := am_ (Kd.R_elder' (rk_ HO_223002.out) (Kd.R_base ho0) hb)
                have n2_ := am_ (Kd.R_elder' (rk_ HO_229002.out) (Kd.R_base ho0) hb)
                have n3_ := am_ (Kd.R_elder' (rk_ HO_236002.out) (Kd.R_base ho0) hb)
                have n4_ := am_ (Kd.R_elder' (rk_ HO261.out) (Kd.R_base ho0) hb)
                have n5_ := am_ (Kd.R_elder' (rk_ HO266.out) (Kd.R_base ho0) hb)
                have n6_ := am_ (Kd.R_lower (Kd.R_new' (Kd.R_new' (Kd.R_new' (Kd.R_new' (Kd.R_new' (Kd.R_new' ho0 (Kd.R_lt (rk_ HO_217002.out))) (Kd.R_lt (rk_ HO_223002.out))) (Kd.R_lt (rk_ HO_229002.out))) (Kd.R_lt (rk_ HO_236002.out))) (Kd.R_lt (rk_ HO261.out))) (Kd.R_lt (rk_ HO266.out))) (below_size (bb_ HB.out)))
                have n7_ := am_ (bw_ BK196 hb)
                have n8_ := am_ (bw_ BK197 hb)
                have n9_ := am_ (bw_ BK216 hb)
                have n10_ := am_ (bw_ BK222 hb)
                have n11_ := am_ (bw_ BK228 hb)
                have n12_ := am_ (bw_ BK235 hb)
                have n13_ := am_ (bw_ BK273 hb)
                have n14_ := am_ (below_step (bb_ HB.out) hb)
                clear HO_217002 HO_223002 HO_229002 HO_236002 HO261 HO266 BK196 BK197 BK216 BK222 BK228 BK235 BK273 HB; revert n0_ n1_ n2_ n3_ n4_ n5_ n6_ n7_ n8_ n9_ n10_ n11_ n12_ n13_ n14_; intro HO_217002 HO_223002 HO_229002 HO_236002 HO261 HO266 HO271 BK196 BK197 BK216 BK222 BK228 BK235 BK273 HB
                (try clear hb)
                (try clear hb2)
                (try clear hk)
                (try clear hi)
                (try clear ho0)
                refine hK.out _ _ ⟨bc_ BK196 0, bc_ BK196 1, bc_ BK196 2, bc_ BK197 0, bc_ BK197 1, bc_ BK197 2⟩ (fun hHeld => ?_)
                clear hK K
                refine norm_ (a' := ?_) ?_ ?_
                rotate_left
                ·show Act.put _ (some 99) _ = _
                 simp only [Act.put, List.setIfInBounds_toArray, List.set_cons_zero, List.set_cons_succ, i64_w, i32_w]
                 rfl
                refine pure_ (i := 5) (N := some 94) (v := ?_) (a' := ?_) #[true, true, true, true, true, true, false, false, true, false, false] rfl rfl (any_of HT_.out (by kernel_rfl)) (fun _ _ _ h => h) (Or.inl ⟨by rfl, ?_⟩) ?_ ?_
                rotate_left
                ·intro w'
                 go_simp
                 with_reducible rfl
                rotate_left
                ·simp only [Act.put, List.setIfInBounds_toArray, List.set_cons_zero, List.set_cons_succ, i64_w, i32_w]
                 rfl
                refine pure_ (i := 6) (N := some 100) (v := ?_) (a' := ?_) #[true, true, true, true, true, true, true, false, true, false, false] rfl rfl (any_of HT_.out (by kernel_rfl)) (fun _ _ _ h => h) (Or.inl ⟨by rfl, ?_⟩) ?_ ?_
                rotate_left
                ·intro w'
                 go_simp
                 with_reducible rfl
                rotate_left
                ·simp only [Act.put, List.setIfInBounds_toArray, List.set_cons_zero, List.set_cons_succ, i64_w, i32_w]
                 rfl
                refine pure_ (i := 7) (N := some 101) (v := ?_) (a' := ?_) #[true, true, true, true, true, true, true, true, true, false, false] rfl rfl (any_of HT_.out (by kernel_rfl)) (fun _ _ _ h => h) (Or.inl ⟨by rfl, ?_⟩) ?_ ?_
                rotate_left
                ·intro w'
                 go_simp
                 with_reducible rfl
                rotate_left
                ·simp only [Act.put, List.setIfInBounds_toArray, List.set_cons_zero, List.set_cons_succ, i64_w, i32_w]
                 rfl
                exact norm_ (by simp only [putAll, Act.put, List.setIfInBounds_toArray, List.set_cons_zero, List.set_cons_succ]) (hCont (.slice Ao180 t259.length co180, .slice Ao181 t264.length co181, v270, gb273) _ ⟨hHeld, (rm_ HO261.out (fun _ hk => ⟨hk.1.2, ⟨hk.2, ⟨hk.1.1.1.1.1.2, ⟨hk.1.1.1.1.2, ⟨hk.1.1.1.2, hk.1.1.2⟩⟩⟩⟩⟩)), (rm_ HO266.out (fun _ hk => ⟨hk.1.2, ⟨hk.2, ⟨hk.1.1.1.1.1.2, ⟨hk.1.1.1.1.2, ⟨hk.1.1.1.2, hk.1.1.2⟩⟩⟩⟩⟩)), (rm_ HO271.out (fun _ hk => ⟨hk.1.2, ⟨hk.2, ⟨hk.1.1.1.1.1.2, ⟨hk.1.1.1.1.2, ⟨hk.1.1.1.2, hk.1.1.2⟩⟩⟩⟩⟩)), (rm_ HO_217002.out (fun _ hk => ⟨hk.1.1.2, ⟨hk.1.2, ⟨hk.2, ⟨hk.1.1.1.1, ⟨hk.1.1.1.2.1, hk.1.1.1.2.2⟩⟩⟩⟩⟩)), (rm_ HO_223002.out (fun _ hk => ⟨hk.1.1.2, ⟨hk.1.2, ⟨hk.2, ⟨hk.1.1.1.1, ⟨hk.1.1.1.2.1, hk.1.1.1.2.2⟩⟩⟩⟩⟩)), (rm_ HO_229002.out (fun _ hk => ⟨hk.1.1.2, ⟨hk.1.2, ⟨hk.2, ⟨hk.1.1.1.1, ⟨hk.1.1.1.2.1, hk.1.1.1.2.2⟩⟩⟩⟩⟩)), (rm_ HO_236002.out (fun _ hk => ⟨hk.1.1.2, ⟨hk.1.2, ⟨hk.2, ⟨hk.1.1.1.1, ⟨hk.1.1.1.2.1, hk.1.1.1.2.2⟩⟩⟩⟩⟩)), (bk_ BK196.out), (bk_ BK197.out), (bk_ BK216.out), (bk_ BK222.out), (bk_ BK228.out), (bk_ BK235.out), (bk_ BK273.out), GW273.out, GE273.out, NB196_273.out, NB273_196.out, NB197_273.out, NB273_197.out, NB216_273.out, NB273_216.out, NB222_273.out, NB273_222.out, NB228_273.out, NB273_228.out, NB235_273.out, NB273_235.out, (bb_ HB.out)⟩)
              ·skip
               refine box_step ?hg (N := 15) ?hd (cs := #[.int .i64 0, .int .i64 0, .slice none 0 0]) (t := 27) ?hr ?_; (case hd => rfl); (case hg => rfl); (case hr => first | (go_simp; done) | (go_simp; rfl))
               intro gb273 hg w177 hbox hb
               have n0_ := am_ (Kd.R_below (rk_ HO_217002.out) hb)
               have n1_ := am_ (Kd.R_below (rk_ HO_223002.out) hb)
               have n2_ := am_ (Kd.R_below (rk_ HO_229002.out) hb)
               have n3_ := am_ (Kd.R_below (rk_ HO_236002.out) hb)
               have n4_ := am_ (bw_ BK196 hb)
               have n5_ := am_ (bw_ BK197 hb)
               have n6_ := am_ (bw_ BK216 hb)
               have n7_ := am_ (bw_ BK222 hb)
               have n8_ := am_ (bw_ BK228 hb)
               have n9_ := am_ (bw_ BK235 hb)
               have n10_ := am_ (below_step (bb_ HB.out) hb)
               have n11_ := am_ (hbox)
               have n12_ := am_ ((by rw [hg]; exact (below_size (bb_ HB.out)) : w.heap.size ≤ gb273))
               have n13_ := am_ ((by rw [hg]; exact (below_size (bb_ HB.out)) : w.heap.size ≤ gb273))
               have n14_ := am_ ((by rw [hg]; exact Nat.ne_of_lt (bl_ BK196) : gb196 ≠ gb273))
               have n15_ := am_ ((by rw [hg]; exact Nat.ne_of_gt (bl_ BK196) : gb273 ≠ gb196))
               have n16_ := am_ ((by rw [hg]; exact Nat.ne_of_lt (bl_ BK197) : gb197 ≠ gb273))
               have n17_ := am_ ((by rw [hg]; exact Nat.ne_of_gt (bl_ BK197) : gb273 ≠ gb197))
               have n18_ := am_ ((by rw [hg]; exact Nat.ne_of_lt (bl_ BK216) : gb216 ≠ gb273))
               have n19_ := am_ ((by rw [hg]; exact Nat.ne_of_gt (bl_ BK216) : gb273 ≠ gb216))
               have n20_ := am_ ((by rw [hg]; exact Nat.ne_of_lt (bl_ BK222) : gb222 ≠ gb273))
               have n21_ := am_ ((by rw [hg]; exact Nat.ne_of_gt (bl_ BK222) : gb273 ≠ gb222))
               have n22_ := am_ ((by rw [hg]; exact Nat.ne_of_lt (bl_ BK228) : gb228 ≠ gb273))
               have n23_ := am_ ((by rw [hg]; exact Nat.ne_of_gt (bl_ BK228) : gb273 ≠ gb228))
               have n24_ := am_ ((by rw [hg]; exact Nat.ne_of_lt (bl_ BK235) : gb235 ≠ gb273))
               have n25_ := am_ ((by rw [hg]; exact Nat.ne_of_gt (bl_ BK235) : gb273 ≠ gb235))
               clear HO_217002 HO_223002 HO_229002 HO_236002 BK196 BK197 BK216 BK222 BK228 BK235 HB; revert n0_ n1_ n2_ n3_ n4_ n5_ n6_ n7_ n8_ n9_ n10_ n11_ n12_ n13_ n14_ n15_ n16_ n17_ n18_ n19_ n20_ n21_ n22_ n23_ n24_ n25_; intro HO_217002 HO_223002 HO_229002 HO_236002 BK196 BK197 BK216 BK222 BK228 BK235 HB BK273 GW273 GE273 NB196_273 NB273_196 NB197_273 NB273_197 NB216_273 NB273_216 NB222_273 NB273_222 NB228_273 NB273_228 NB235_273 NB273_235
               clear hb hbox hg
               refine hK.out _ _ ⟨bc_ BK196 0, bc_ BK196 1, bc_ BK196 2, bc_ BK197 0, bc_ BK197 1, bc_ BK197 2⟩ (fun hHeld => ?_)
               clear hK K
               refine norm_ (a' := ?_) ?_ ?_
               rotate_left
               ·show Act.put _ (some 15) _ = _
                simp only [Act.put, List.setIfInBounds_toArray, List.set_cons_zero, List.set_cons_succ, i64_w, i32_w]
                rfl
               refine one_ (i := 1) (N := some 96) #[true, true, true, false, false, false, false, false, true, false, false] rfl rfl (one_of HT_.out (by kernel_rfl)) (by decide) (fun K hK => ?_)
               refine goes_ Try.func15 (by kernel_rfl) rfl #[.agg #[.int .i64 a0_0, .int .i64 a0_1, .slice A0_2 l0_2.length c0_2]] (by rfl) rfl rfl lm_ ?_
               with_reducible refine (laws_toMatrix.calls kj108 a0_0 a0_1 _ _ l0_2 t257 t258 t259 _ ?side1 ?side2 A163.out).mono ?_
               (case side1 => repeat (first | exact (Kd.C_below HR0_2.out HB.out) | (with_reducible refine Kd.C_alloc ?_ _) | (with_reducible refine Kd.C_drewN ?_ _) | (with_reducible refine Kd.C_drew ?_)))
               (case side2 => exact HC0_2.out)
               rintro e w178 ⟨v260, rfl, ho0, hb⟩
               refine ⟨_, rfl, ?_⟩
               have n0_ := am_ (Kd.R_elder' (rk_ HO_217002.out) (Kd.R_base ho0) hb)
               have n1_ := am_ (Kd.R_elder' (rk_ HO_223002.out) (Kd.R_base ho0) hb)
               have n2_ := am_ (Kd.R_elder' (rk_ HO_229002.out) (Kd.R_base ho0) hb)
               have n3_ := am_ (Kd.R_elder' (rk_ HO_236002.out) (Kd.R_base ho0) hb)
               have n4_ := am_ (Kd.R_lower (Kd.R_new' (Kd.R_new' (Kd.R_new' (Kd.R_new' ho0 (Kd.R_lt (rk_ HO_217002.out))) (Kd.R_lt (rk_ HO_223002.out))) (Kd.R_lt (rk_ HO_229002.out))) (Kd.R_lt (rk_ HO_236002.out))) (below_size (bb_ HB.out)))
               have n5_ := am_ (bw_ BK196 hb)
               have n6_ := am_ (bw_ BK197 hb)
               have n7_ := am_ (bw_ BK216 hb)
               have n8_ := am_ (bw_ BK222 hb)
               have n9_ := am_ (bw_ BK228 hb)
               have n10_ := am_ (bw_ BK235 hb)
               have n11_ := am_ (bw_ BK273 hb)
               have n12_ := am_ (below_step (bb_ HB.out) hb)
               clear HO_217002 HO_223002 HO_229002 HO_236002 BK196 BK197 BK216 BK222 BK228 BK235 BK273 HB; revert n0_ n1_ n2_ n3_ n4_ n5_ n6_ n7_ n8_ n9_ n10_ n11_ n12_; intro HO_217002 HO_223002 HO_229002 HO_236002 HO261 BK196 BK197 BK216 BK222 BK228 BK235 BK273 HB
               (try clear hb)
               (try clear hb2)
               (try clear hk)
               (try clear hi)
               (try clear ho0)
               refine hK.out _ _ ⟨bc_ BK196 0, bc_ BK196 1, bc_ BK196 2, bc_ BK197 0, bc_ BK197 1, bc_ BK197 2⟩ (fun hHeld => ?_)
               clear hK K
               refine norm_ (a' := ?_) ?_ ?_
               rotate_left
               ·show Act.put _ (some 96) _ = _
                simp only [Act.put, List.setIfInBounds_toArray, List.set_cons_zero, List.set_cons_succ, i64_w, i32_w]
                rfl
               refine one_ (i := 3) (N := some 98) #[true, true, true, true, false, false, false, false, true, false, false] rfl rfl (one_of HT_.out (by kernel_rfl)) (by decide) (fun K hK => ?_)
               refine goes_ Try.func15 (by kernel_rfl) rfl #[.agg #[.int .i64 a1_0, .int .i64 a1_1, .slice A1_2 l1_2.length c1_2]] (by rfl) rfl rfl lm_ ?_
               with_reducible refine (laws_toMatrix.calls kj108 a1_0 a1_1 _ _ l1_2 t262 t263 t264 _ ?side1 ?side2 A164.out).mono ?_
               (case side1 => repeat (first | exact (Kd.C_below HR1_2.out HB.out) | (with_reducible refine Kd.C_alloc ?_ _) | (with_reducible refine Kd.C_drewN ?_ _) | (with_reducible refine Kd.C_drew ?_)))
               (case side2 => exact HC1_2.out)
               rintro e w179 ⟨v265, rfl, ho0, hb⟩
               refine ⟨_, rfl, ?_⟩
               have n0_ := am_ (Kd.R_elder' (rk_ HO_217002.out) (Kd.R_base ho0) hb)
               have n1_ := am_ (Kd.R_elder' (rk_ HO_223002.out) (Kd.R_base ho0) hb)
               have n2_ := am_ (Kd.R_elder' (rk_ HO_229002.out) (Kd.R_base ho0) hb)
               have n3_ := am_ (Kd.R_elder' (rk_ HO_236002.out) (Kd.R_base ho0) hb)
               have n4_ := am_ (Kd.R_elder' (rk_ HO261.out) (Kd.R_base ho0) hb)
               have n5_ := am_ (Kd.R_lower (Kd.R_new' (Kd.R_new' (Kd.R_new' (Kd.R_new' (Kd.R_new' ho0 (Kd.R_lt (rk_ HO_217002.out))) (Kd.R_lt (rk_ HO_223002.out))) (Kd.R_lt (rk_ HO_229002.out))) (Kd.R_lt (rk_ HO_236002.out))) (Kd.R_lt (rk_ HO261.out))) (below_size (bb_ HB.out)))
               have n6_ := am_ (bw_ BK196 hb)
               have n7_ := am_ (bw_ BK197 hb)
               have n8_ := am_ (bw_ BK216 hb)
               have n9_ := am_ (bw_ BK222 hb)
               have n10_ := am_ (bw_ BK228 hb)
               have n11_ := am_ (bw_ BK235 hb)
               have n12_ := am_ (bw_ BK273 hb)
               have n13_ := am_ (below_step (bb_ HB.out) hb)
               clear HO_217002 HO_223002 HO_229002 HO_236002 HO261 BK196 BK197 BK216 BK222 BK228 BK235 BK273 HB; revert n0_ n1_ n2_ n3_ n4_ n5_ n6_ n7_ n8_ n9_ n10_ n11_ n12_ n13_; intro HO_217002 HO_223002 HO_229002 HO_236002 HO261 HO266 BK196 BK197 BK216 BK222 BK228 BK235 BK273 HB
               (try clear hb)
               (try clear hb2)
               (try clear hk)
               (try clear hi)
               (try clear ho0)
               obtain ⟨Ao180, co180, eo180⟩ := Kd.R_slice HO261.out
               (first | subst eo180 | (injection eo180 with f1_ f2_ f3_; have f4_ := f1_.symm; have f5_ := f3_.symm; clear f1_ f2_ f3_; subst f4_; subst f5_))
               obtain ⟨Ao181, co181, eo181⟩ := Kd.R_slice HO266.out
               (first | subst eo181 | (injection eo181 with f1_ f2_ f3_; have f4_ := f1_.symm; have f5_ := f3_.symm; clear f1_ f2_ f3_; subst f4_; subst f5_))
               refine hK.out _ _ ⟨bc_ BK196 0, bc_ BK196 1, bc_ BK196 2, bc_ BK197 0, bc_ BK197 1, bc_ BK197 2⟩ (fun hHeld => ?_)
               clear hK K
               refine norm_ (a' := ?_) ?_ ?_
               rotate_left
               ·show Act.put _ (some 98) _ = _
                simp only [Act.put, List.setIfInBounds_toArray, List.set_cons_zero, List.set_cons_succ, i64_w, i32_w]
                rfl
               refine one_ (i := 4) (N := some 99) #[true, true, true, true, true, false, false, false, true, false, false] rfl rfl (one_of HT_.out (by kernel_rfl)) (by decide) (fun K hK => ?_)
               refine goes_ Try.func29 (by kernel_rfl) rfl #[.agg #[.int .i64 t257, .int .i64 t258, .slice Ao180 t259.length co180], .agg #[.int .i64 t262, .int .i64 t263, .slice Ao181 t264.length co181]] (by rfl) rfl rfl lm_ ?_
               with_reducible refine (impl_MultiplyMatrices.calls kj108 t257 t258 _ _ t259 t262 t263 _ _ t264 t267 t268 t269 t272 _ ?side1 ?side2 ?side3 ?side4 A165.out).mono ?_
               (case side1 => repeat (first | exact (Kd.R_reads' HO261.out).2.2 | (with_reducible refine Kd.C_alloc ?_ _) | (with_reducible refine Kd.C_drewN ?_ _) | (with_reducible refine Kd.C_drew ?_)))
               (case side2 => exact (Kd.R_reads' HO261.out).2.1)
               (case side3 => repeat (first | exact (Kd.R_reads' HO266.out).2.2 | (with_reducible refine Kd.C_alloc ?_ _) | (with_reducible refine Kd.C_drewN ?_ _) | (with_reducible refine Kd.C_drew ?_)))
               (case side4 => exact (Kd.R_reads' HO266.out).2.1)
               rintro e w182 ⟨v270, rfl, ho0, hb⟩
               refine ⟨_, rfl, ?_⟩
               have n0_ := am_ (Kd.R_elder' (rk_ HO_217002.out) (Kd.R_base ho0) hb)
               have n1_ := am_ (Kd.R_elder' (rk_ HO_223002.out) (Kd.R_base ho0) hb)
               have n2_ := am_ (Kd.R_elder' (rk_ HO_229002.out) (Kd.R_base ho0) hb)
               have n3_ := am_ (Kd.R_elder' (rk_ HO_236002.out) (Kd.R_base ho0) hb)
               have n4_ := am_ (Kd.R_elder' (rk_ HO261.out) (Kd.R_base ho0) hb)
               have n5_ := am_ (Kd.R_elder' (rk_ HO266.out) (Kd.R_base ho0) hb)
               have n6_ := am_ (Kd.R_lower (Kd.R_new' (Kd.R_new' (Kd.R_new' (Kd.R_new' (Kd.R_new' (Kd.R_new' ho0 (Kd.R_lt (rk_ HO_217002.out))) (Kd.R_lt (rk_ HO_223002.out))) (Kd.R_lt (rk_ HO_229002.out))) (Kd.R_lt (rk_ HO_236002.out))) (Kd.R_lt (rk_ HO261.out))) (Kd.R_lt (rk_ HO266.out))) (below_size (bb_ HB.out)))
               have n7_ := am_ (bw_ BK196 hb)
               have n8_ := am_ (bw_ BK197 hb)
               have n9_ := am_ (bw_ BK216 hb)
               have n10_ := am_ (bw_ BK222 hb)
               have n11_ := am_ (bw_ BK228 hb)
               have n12_ := am_ (bw_ BK235 hb)
               have n13_ := am_ (bw_ BK273 hb)
               have n14_ := am_ (below_step (bb_ HB.out) hb)
               clear HO_217002 HO_223002 HO_229002 HO_236002 HO261 HO266 BK196 BK197 BK216 BK222 BK228 BK235 BK273 HB; revert n0_ n1_ n2_ n3_ n4_ n5_ n6_ n7_ n8_ n9_ n10_ n11_ n12_ n13_ n14_; intro HO_217002 HO_223002 HO_229002 HO_236002 HO261 HO266 HO271 BK196 BK197 BK216 BK222 BK228 BK235 BK273 HB
               (try clear hb)
               (try clear hb2)
               (try clear hk)
               (try clear hi)
               (try clear ho0)
               refine hK.out _ _ ⟨bc_ BK196 0, bc_ BK196 1, bc_ BK196 2, bc_ BK197 0, bc_ BK197 1, bc_ BK197 2⟩ (fun hHeld => ?_)
               clear hK K
               refine norm_ (a' := ?_) ?_ ?_
               rotate_left
               ·show Act.put _ (some 99) _ = _
                simp only [Act.put, List.setIfInBounds_toArray, List.set_cons_zero, List.set_cons_succ, i64_w, i32_w]
                rfl
               refine pure_ (i := 5) (N := some 94) (v := ?_) (a' := ?_) #[true, true, true, true, true, true, false, false, true, false, false] rfl rfl (any_of HT_.out (by kernel_rfl)) (fun _ _ _ h => h) (Or.inl ⟨by rfl, ?_⟩) ?_ ?_
               rotate_left
               ·intro w'
                go_simp
                with_reducible rfl
               rotate_left
               ·simp only [Act.put, List.setIfInBounds_toArray, List.set_cons_zero, List.set_cons_succ, i64_w, i32_w]
                rfl
               refine pure_ (i := 6) (N := some 100) (v := ?_) (a' := ?_) #[true, true, true, true, true, true, true, false, true, false, false] rfl rfl (any_of HT_.out (by kernel_rfl)) (fun _ _ _ h => h) (Or.inl ⟨by rfl, ?_⟩) ?_ ?_
               rotate_left
               ·intro w'
                go_simp
                with_reducible rfl
               rotate_left
               ·simp only [Act.put, List.setIfInBounds_toArray, List.set_cons_zero, List.set_cons_succ, i64_w, i32_w]
                rfl
               refine pure_ (i := 7) (N := some 101) (v := ?_) (a' := ?_) #[true, true, true, true, true, true, true, true, true, false, false] rfl rfl (any_of HT_.out (by kernel_rfl)) (fun _ _ _ h => h) (Or.inl ⟨by rfl, ?_⟩) ?_ ?_
               rotate_left
               ·intro w'
                go_simp
                with_reducible rfl
               rotate_left
               ·simp only [Act.put, List.setIfInBounds_toArray, List.set_cons_zero, List.set_cons_succ, i64_w, i32_w]
                rfl
               exact norm_ (by simp only [putAll, Act.put, List.setIfInBounds_toArray, List.set_cons_zero, List.set_cons_succ]) (hCont (.slice Ao180 t259.length co180, .slice Ao181 t264.length co181, v270, gb273) _ ⟨hHeld, (rm_ HO261.out (fun _ hk => ⟨hk.1.2, ⟨hk.2, ⟨hk.1.1.1.1.1.2, ⟨hk.1.1.1.1.2, ⟨hk.1.1.1.2, hk.1.1.2⟩⟩⟩⟩⟩)), (rm_ HO266.out (fun _ hk => ⟨hk.1.2, ⟨hk.2, ⟨hk.1.1.1.1.1.2, ⟨hk.1.1.1.1.2, ⟨hk.1.1.1.2, hk.1.1.2⟩⟩⟩⟩⟩)), (rm_ HO271.out (fun _ hk => ⟨hk.1.2, ⟨hk.2, ⟨hk.1.1.1.1.1.2, ⟨hk.1.1.1.1.2, ⟨hk.1.1.1.2, hk.1.1.2⟩⟩⟩⟩⟩)), (rm_ HO_217002.out (fun _ hk => ⟨hk.1.1.2, ⟨hk.1.2, ⟨hk.2, ⟨hk.1.1.1.1, ⟨hk.1.1.1.2.1, hk.1.1.1.2.2⟩⟩⟩⟩⟩)), (rm_ HO_223002.out (fun _ hk => ⟨hk.1.1.2, ⟨hk.1.2, ⟨hk.2, ⟨hk.1.1.1.1, ⟨hk.1.1.1.2.1, hk.1.1.1.2.2⟩⟩⟩⟩⟩)), (rm_ HO_229002.out (fun _ hk => ⟨hk.1.1.2, ⟨hk.1.2, ⟨hk.2, ⟨hk.1.1.1.1, ⟨hk.1.1.1.2.1, hk.1.1.1.2.2⟩⟩⟩⟩⟩)), (rm_ HO_236002.out (fun _ hk => ⟨hk.1.1.2, ⟨hk.1.2, ⟨hk.2, ⟨hk.1.1.1.1, ⟨hk.1.1.1.2.1, hk.1.1.1.2.2⟩⟩⟩⟩⟩)), (bk_ BK196.out), (bk_ BK197.out), (bk_ BK216.out), (bk_ BK222.out), (bk_ BK228.out), (bk_ BK235.out), (bk_ BK273.out), GW273.out, GE273.out, NB196_273.out, NB273_196.out, NB197_273.out, NB273_197.out, NB216_273.out, NB273_216.out, NB222_273.out, NB273_222.out, NB228_273.out, NB273_228.out, NB235_273.out, NB273_235.out, (bb_ HB.out)⟩)
             rintro ⟨v260, v265, v270, gb273⟩ w183 ⟨hS_, h0_, h1_, h2_, h3_, h4_, h5_, h6_, h7_, h8_, h9_, h10_, h11_, h12_, h13_, h14_, h15_, h16_, h17_, h18_, h19_, h20_, h21_, h22_, h23_, h24_, h25_, h26_, h27_, h28_⟩
             have n0_ : Aside0 (Kd.R (Kd.int .i64) 2 w183 w.heap.size (fun k_ => some k_ ≠ (v265 : Value).ownBlock ∧ some k_ ≠ (v270 : Value).ownBlock ∧ some k_ ≠ (.slice Ao43 t212.length co43 : Value).ownBlock ∧ some k_ ≠ (.slice Ao53 t250.length co53 : Value).ownBlock ∧ some k_ ≠ (.slice Ao63 t252.length co63 : Value).ownBlock ∧ some k_ ≠ (.slice Ao73 t231.length co73 : Value).ownBlock) v260 t259) := ⟨h0_⟩
             have n1_ : Aside0 (Kd.R (Kd.int .i64) 2 w183 w.heap.size (fun k_ => some k_ ≠ (v260 : Value).ownBlock ∧ some k_ ≠ (v270 : Value).ownBlock ∧ some k_ ≠ (.slice Ao43 t212.length co43 : Value).ownBlock ∧ some k_ ≠ (.slice Ao53 t250.length co53 : Value).ownBlock ∧ some k_ ≠ (.slice Ao63 t252.length co63 : Value).ownBlock ∧ some k_ ≠ (.slice Ao73 t231.length co73 : Value).ownBlock) v265 t264) := ⟨h1_⟩
             have n2_ : Aside0 (Kd.R (Kd.int .i64) 2 w183 w.heap.size (fun k_ => some k_ ≠ (v260 : Value).ownBlock ∧ some k_ ≠ (v265 : Value).ownBlock ∧ some k_ ≠ (.slice Ao43 t212.length co43 : Value).ownBlock ∧ some k_ ≠ (.slice Ao53 t250.length co53 : Value).ownBlock ∧ some k_ ≠ (.slice Ao63 t252.length co63 : Value).ownBlock ∧ some k_ ≠ (.slice Ao73 t231.length co73 : Value).ownBlock) v270 t269) := ⟨h2_⟩
             have n3_ : Aside0 (Kd.R (Kd.int .i64) 2 w183 w.heap.size (fun k_ => some k_ ≠ (v260 : Value).ownBlock ∧ some k_ ≠ (v265 : Value).ownBlock ∧ some k_ ≠ (v270 : Value).ownBlock ∧ some k_ ≠ (.slice Ao53 t250.length co53 : Value).ownBlock ∧ some k_ ≠ (.slice Ao63 t252.length co63 : Value).ownBlock ∧ some k_ ≠ (.slice Ao73 t231.length co73 : Value).ownBlock) (.slice Ao43 t212.length co43) t212) := ⟨h3_⟩
             have n4_ : Aside0 (Kd.R (Kd.int .i64) 2 w183 w.heap.size (fun k_ => some k_ ≠ (v260 : Value).ownBlock ∧ some k_ ≠ (v265 : Value).ownBlock ∧ some k_ ≠ (v270 : Value).ownBlock ∧ some k_ ≠ (.slice Ao43 t212.length co43 : Value).ownBlock ∧ some k_ ≠ (.slice Ao63 t252.length co63 : Value).ownBlock ∧ some k_ ≠ (.slice Ao73 t231.length co73 : Value).ownBlock) (.slice Ao53 t250.length co53) t250) := ⟨h4_⟩
             have n5_ : Aside0 (Kd.R (Kd.int .i64) 2 w183 w.heap.size (fun k_ => some k_ ≠ (v260 : Value).ownBlock ∧ some k_ ≠ (v265 : Value).ownBlock ∧ some k_ ≠ (v270 : Value).ownBlock ∧ some k_ ≠ (.slice Ao43 t212.length co43 : Value).ownBlock ∧ some k_ ≠ (.slice Ao53 t250.length co53 : Value).ownBlock ∧ some k_ ≠ (.slice Ao73 t231.length co73 : Value).ownBlock) (.slice Ao63 t252.length co63) t252) := ⟨h5_⟩
             have n6_ : Aside0 (Kd.R (Kd.int .i64) 2 w183 w.heap.size (fun k_ => some k_ ≠ (v260 : Value).ownBlock ∧ some k_ ≠ (v265 : Value).ownBlock ∧ some k_ ≠ (v270 : Value).ownBlock ∧ some k_ ≠ (.slice Ao43 t212.length co43 : Value).ownBlock ∧ some k_ ≠ (.slice Ao53 t250.length co53 : Value).ownBlock ∧ some k_ ≠ (.slice Ao63 t252.length co63 : Value).ownBlock) (.slice Ao73 t231.length co73) t255) := ⟨h6_⟩
             have n7_ : Aside0 (w183.heap[gb196]? = some (.cells #[.int .i64 a0_0, .int .i64 a0_1, .slice A0_2 l0_2.length c0_2] 24 (0, 0))) := ⟨h7_⟩
             have n8_ : Aside0 (w183.heap[gb197]? = some (.cells #[.int .i64 a1_0, .int .i64 a1_1, .slice A1_2 l1_2.length c1_2] 24 (0, 0))) := ⟨h8_⟩
             have n9_ : Aside0 (w183.heap[gb216]? = some (.cells #[.int .i64 t210, .int .i64 t211, .slice Ao43 t212.length co43] 27 (0, 0))) := ⟨h9_⟩
             have n10_ : Aside0 (w183.heap[gb222]? = some (.cells #[.int .i64 t217, .int .i64 t218, .slice Ao53 t250.length co53] 27 (0, 0))) := ⟨h10_⟩
             have n11_ : Aside0 (w183.heap[gb228]? = some (.cells #[.int .i64 t223, .int .i64 t224, .slice Ao63 t252.length co63] 27 (0, 0))) := ⟨h11_⟩
             have n12_ : Aside0 (w183.heap[gb235]? = some (.cells #[.int .i64 t229, .int .i64 t230, .slice Ao73 t231.length co73] 27 (0, 0))) := ⟨h12_⟩
             have n13_ : Aside0 (w183.heap[gb273]? = some (.cells #[.int .i64 0, .int .i64 0, .slice none 0 0] 27 (0, 0))) := ⟨h13_⟩
             have n14_ : Aside0 (w.heap.size ≤ gb273) := ⟨h14_⟩
             have n15_ : Aside0 (w.heap.size ≤ gb273) := ⟨h15_⟩
             have n16_ : Aside0 (gb196 ≠ gb273) := ⟨h16_⟩
             have n17_ : Aside0 (gb273 ≠ gb196) := ⟨h17_⟩
             have n18_ : Aside0 (gb197 ≠ gb273) := ⟨h18_⟩
             have n19_ : Aside0 (gb273 ≠ gb197) := ⟨h19_⟩
             have n20_ : Aside0 (gb216 ≠ gb273) := ⟨h20_⟩
             have n21_ : Aside0 (gb273 ≠ gb216) := ⟨h21_⟩
             have n22_ : Aside0 (gb222 ≠ gb273) := ⟨h22_⟩
             have n23_ : Aside0 (gb273 ≠ gb222) := ⟨h23_⟩
             have n24_ : Aside0 (gb228 ≠ gb273) := ⟨h24_⟩
             have n25_ : Aside0 (gb273 ≠ gb228) := ⟨h25_⟩
             have n26_ : Aside0 (gb235 ≠ gb273) := ⟨h26_⟩
             have n27_ : Aside0 (gb273 ≠ gb235) := ⟨h27_⟩
             have n28_ : Aside0 (Below w.heap.size w w183) := ⟨h28_⟩
             clear HO_217002
             clear HO_223002
             clear HO_229002
             clear HO_236002
             clear BK196
             clear BK197
             clear BK216
             clear BK222
             clear BK228
             clear BK235
             clear HB
             clear h0_ h1_ h2_ h3_ h4_ h5_ h6_ h7_ h8_ h9_ h10_ h11_ h12_ h13_ h14_ h15_ h16_ h17_ h18_ h19_ h20_ h21_ h22_ h23_ h24_ h25_ h26_ h27_ h28_
             have HO261 := n0_
             have HO266 := n1_
             have HO271 := n2_
             have HO_217002 := n3_
             have HO_223002 := n4_
             have HO_229002 := n5_
             have HO_236002 := n6_
             have BK196 := n7_
             have BK197 := n8_
             have BK216 := n9_
             have BK222 := n10_
             have BK228 := n11_
             have BK235 := n12_
             have BK273 := n13_
             have GW273 := n14_
             have GE273 := n15_
             have NB196_273 := n16_
             have NB273_196 := n17_
             have NB197_273 := n18_
             have NB273_197 := n19_
             have NB216_273 := n20_
             have NB273_216 := n21_
             have NB222_273 := n22_
             have NB273_222 := n23_
             have NB228_273 := n24_
             have NB273_228 := n25_
             have NB235_273 := n26_
             have NB273_235 := n27_
             have HB := n28_
             clear n0_ n1_ n2_ n3_ n4_ n5_ n6_ n7_ n8_ n9_ n10_ n11_ n12_ n13_ n14_ n15_ n16_ n17_ n18_ n19_ n20_ n21_ n22_ n23_ n24_ n25_ n26_ n27_ n28_
             have hHeld : w183.cell? ⟨gb196, 0, none⟩ = some (.int .i64 a0_0) ∧ w183.cell? ⟨gb196, 1, none⟩ = some (.int .i64 a0_1) ∧ w183.cell? ⟨gb196, 2, none⟩ = some (.slice A0_2 l0_2.length c0_2) ∧ w183.cell? ⟨gb197, 0, none⟩ = some (.int .i64 a1_0) ∧ w183.cell? ⟨gb197, 1, none⟩ = some (.int .i64 a1_1) ∧ w183.cell? ⟨gb197, 2, none⟩ = some (.slice A1_2 l1_2.length c1_2) := hS_
             obtain ⟨Ao186, co186, eo186⟩ := Kd.R_slice HO271.out
             (first | subst eo186 | (injection eo186 with f1_ f2_ f3_; have f4_ := f1_.symm; have f5_ := f3_.symm; clear f1_ f2_ f3_; subst f4_; subst f5_))
             refine norm_ (a' := ?_) ?_ ?_
             rotate_left
             ·simp only [putAll, Act.put, List.setIfInBounds_toArray, List.set_cons_zero, List.set_cons_succ]
              rfl
             refine one_ (i := 9) (N := none) #[true, true, true, true, true, true, true, true, true, true, false] rfl rfl (one_of HT_.out (by kernel_rfl)) (by decide) (fun K hK => ?_)
             have hs184 : w183.cell? ⟨gb273, 0, none⟩ = some (.int .i64 0) := bc_ BK273 0
             have hfs184 := blk_frozen BK273.out 0
             have hns184_0 := NB196_273.out
             have hns184_1 := NB197_273.out
             have hns184_2 := NB216_273.out
             have hns184_3 := NB222_273.out
             have hns184_4 := NB228_273.out
             have hns184_5 := NB235_273.out
             have hms184_0 := NB273_196.out
             have hms184_1 := NB273_197.out
             have hms184_2 := NB273_216.out
             have hms184_3 := NB273_222.out
             have hms184_4 := NB273_228.out
             have hms184_5 := NB273_235.out
             have hs185 : w183.cell? ⟨gb273, 1, none⟩ = some (.int .i64 0) := bc_ BK273 1
             have hfs185 := blk_frozen BK273.out 1
             have hns185_0 := NB196_273.out
             have hns185_1 := NB197_273.out
             have hns185_2 := NB216_273.out
             have hns185_3 := NB222_273.out
             have hns185_4 := NB228_273.out
             have hns185_5 := NB235_273.out
             have hms185_0 := NB273_196.out
             have hms185_1 := NB273_197.out
             have hms185_2 := NB273_216.out
             have hms185_3 := NB273_222.out
             have hms185_4 := NB273_228.out
             have hms185_5 := NB273_235.out
             have hs187 : w183.cell? ⟨gb273, 2, none⟩ = some (.slice none 0 0) := bc_ BK273 2
             have hfs187 := blk_frozen BK273.out 2
             have hns187_0 := NB196_273.out
             have hns187_1 := NB197_273.out
             have hns187_2 := NB216_273.out
             have hns187_3 := NB222_273.out
             have hns187_4 := NB228_273.out
             have hns187_5 := NB235_273.out
             have hms187_0 := NB273_196.out
             have hms187_1 := NB273_197.out
             have hms187_2 := NB273_216.out
             have hms187_3 := NB273_222.out
             have hms187_4 := NB273_228.out
             have hms187_5 := NB273_235.out
             refine skip_ (w1 := ?_) (by rfl) rfl ?_ ?_
             rotate_left
             ·go_simp
              rfl
             refine hK.out _ _ ⟨((cell_far (p := ⟨gb273, _, none⟩) NB196_273.out _).trans (((cell_far (p := ⟨gb273, _, none⟩) NB196_273.out _).trans (((cell_far (p := ⟨gb273, _, none⟩) NB196_273.out _).trans (hHeld.1)))))), ((cell_far (p := ⟨gb273, _, none⟩) NB196_273.out _).trans (((cell_far (p := ⟨gb273, _, none⟩) NB196_273.out _).trans (((cell_far (p := ⟨gb273, _, none⟩) NB196_273.out _).trans (hHeld.2.1)))))), ((cell_far (p := ⟨gb273, _, none⟩) NB196_273.out _).trans (((cell_far (p := ⟨gb273, _, none⟩) NB196_273.out _).trans (((cell_far (p := ⟨gb273, _, none⟩) NB196_273.out _).trans (hHeld.2.2.1)))))), ((cell_far (p := ⟨gb273, _, none⟩) NB197_273.out _).trans (((cell_far (p := ⟨gb273, _, none⟩) NB197_273.out _).trans (((cell_far (p := ⟨gb273, _, none⟩) NB197_273.out _).trans (hHeld.2.2.2.1)))))), ((cell_far (p := ⟨gb273, _, none⟩) NB197_273.out _).trans (((cell_far (p := ⟨gb273, _, none⟩) NB197_273.out _).trans (((cell_far (p := ⟨gb273, _, none⟩) NB197_273.out _).trans (hHeld.2.2.2.2.1)))))), ((cell_far (p := ⟨gb273, _, none⟩) NB197_273.out _).trans (((cell_far (p := ⟨gb273, _, none⟩) NB197_273.out _).trans (((cell_far (p := ⟨gb273, _, none⟩) NB197_273.out _).trans (hHeld.2.2.2.2.2))))))⟩ (fun hHeld => ?_)
             clear hK K
             refine pure_ (i := 10) (N := some 16) (v := ?_) (a' := ?_) #[true, true, true, true, true, true, true, true, true, true, true] rfl rfl (any_of HT_.out (by kernel_rfl)) (fun _ _ _ h => h) (Or.inl ⟨by rfl, ?_⟩) ?_ ?_
             rotate_left
             ·intro w'
              go_simp
              with_reducible rfl
             rotate_left
             ·simp only [Act.put, List.setIfInBounds_toArray, List.set_cons_zero, List.set_cons_succ, i64_w, i32_w]
              rfl
             refine done_ (done_of HT_.out (by kernel_rfl)) ?_
             go_upto_region 32 with (fail)
             go_cut [110] (fun v110 wc => ∃ (kq : Nat) (x110_165 : Bool), v110 = .bool x110_165 ∧ Aside0 (laws_FnExactMultiplyMatrices.j2 kq t254 x110_165 t229 t230 t255 = some r) ∧ Aside0 (kq ≤ kj108) ∧ Aside0 (Kd.R (Kd.int .i64) 2 wc w.heap.size (fun k_ => some k_ ≠ ((.slice Ao53 t250.length co53) : Value).ownBlock ∧ some k_ ≠ ((.slice Ao63 t252.length co63) : Value).ownBlock ∧ some k_ ≠ ((.slice Ao73 t231.length co73) : Value).ownBlock ∧ some k_ ≠ ((.slice Ao186 t269.length co186) : Value).ownBlock) (.slice Ao43 t212.length co43) t212) ∧ Aside0 (Kd.R (Kd.int .i64) 2 wc w.heap.size (fun k_ => some k_ ≠ ((.slice Ao43 t212.length co43) : Value).ownBlock ∧ some k_ ≠ ((.slice Ao63 t252.length co63) : Value).ownBlock ∧ some k_ ≠ ((.slice Ao73 t231.length co73) : Value).ownBlock ∧ some k_ ≠ ((.slice Ao186 t269.length co186) : Value).ownBlock) (.slice Ao53 t250.length co53) t250) ∧ Aside0 (Kd.R (Kd.int .i64) 2 wc w.heap.size (fun k_ => some k_ ≠ ((.slice Ao43 t212.length co43) : Value).ownBlock ∧ some k_ ≠ ((.slice Ao53 t250.length co53) : Value).ownBlock ∧ some k_ ≠ ((.slice Ao73 t231.length co73) : Value).ownBlock ∧ some k_ ≠ ((.slice Ao186 t269.length co186) : Value).ownBlock) (.slice Ao63 t252.length co63) t252) ∧ Aside0 (Kd.R (Kd.int .i64) 2 wc w.heap.size (fun k_ => some k_ ≠ ((.slice Ao43 t212.length co43) : Value).ownBlock ∧ some k_ ≠ ((.slice Ao53 t250.length co53) : Value).ownBlock ∧ some k_ ≠ ((.slice Ao63 t252.length co63) : Value).ownBlock ∧ some k_ ≠ ((.slice Ao186 t269.length co186) : Value).ownBlock) (.slice Ao73 t231.length co73) t255) ∧ Aside0 (Kd.R (Kd.int .i64) 2 wc w.heap.size (fun k_ => some k_ ≠ ((.slice Ao43 t212.length co43) : Value).ownBlock ∧ some k_ ≠ ((.slice Ao53 t250.length co53) : Value).ownBlock ∧ some k_ ≠ ((.slice Ao63 t252.length co63) : Value).ownBlock ∧ some k_ ≠ ((.slice Ao73 t231.length co73) : Value).ownBlock) (.slice Ao186 t269.length co186) t269) ∧ Aside0 (wc.heap[gb196]? = some (.cells #[.int .i64 a0_0, .int .i64 a0_1, (.slice A0_2 l0_2.length c0_2)] 24 (0, 0))) ∧ Aside0 (wc.heap[gb197]? = some (.cells #[.int .i64 a1_0, .int .i64 a1_1, (.slice A1_2 l1_2.length c1_2)] 24 (0, 0))) ∧ Aside0 (wc.heap[gb216]? = some (.cells #[.int .i64 t210, .int .i64 t211, (.slice Ao43 t212.length co43)] 27 (0, 0))) ∧ Aside0 (wc.heap[gb222]? = some (.cells #[.int .i64 t217, .int .i64 t218, (.slice Ao53 t250.length co53)] 27 (0, 0))) ∧ Aside0 (wc.heap[gb228]? = some (.cells #[.int .i64 t223, .int .i64 t224, (.slice Ao63 t252.length co63)] 27 (0, 0))) ∧ Aside0 (wc.heap[gb235]? = some (.cells #[.int .i64 t229, .int .i64 t230, (.slice Ao73 t231.length co73)] 27 (0, 0))) ∧ Aside0 (wc.heap[gb273]? = some (.cells #[.int .i64 t267, .int .i64 t268, (.slice Ao186 t269.length co186)] 27 (0, 0))) ∧ Aside0 (Below w.heap.size w wc))
             case first =>
              have H := HC166.out
              clear HC166
              replace H := Option.bind_eq_some_iff.mp H
              obtain ⟨t274, A1880, H⟩ := H
              replace H : (if t274 = true then (laws_FnExactMultiplyMatrices.j2 kj108 t254 (t272 != t215) t229 t230 t255) else (laws_FnExactMultiplyMatrices.j2 kj108 t254 true t229 t230 t255)) = some r := H
              have A188 := am_ A1880
              clear A1880
              by_cases c189 : t274 = true
              ·subst c189
               have H1 : (laws_FnExactMultiplyMatrices.j2 kj108 t254 (t272 != t215) t229 t230 t255) = some r := by rw [if_pos rfl] at H; exact H
               clear H
               have H := H1
               clear H1
               have H' := am_ H
               clear H
               have hnb190 := NB273_196.out
               have hnc190 := NB196_273.out
               have hnb191 := NB273_197.out
               have hnc191 := NB197_273.out
               have hnb192 := NB273_216.out
               have hnc192 := NB216_273.out
               have hnb193 := NB273_222.out
               have hnc193 := NB222_273.out
               have hnb194 := NB273_228.out
               have hnc194 := NB228_273.out
               have hnb195 := NB273_235.out
               have hnc195 := NB235_273.out
               have hcz196_0 : w183.cell? ⟨gb273, 0, none⟩ = some (.int .i64 0) := bc_ BK273 0
               have hcz196_1 : w183.cell? ⟨gb273, 1, none⟩ = some (.int .i64 0) := bc_ BK273 1
               have hcz196_2 : w183.cell? ⟨gb273, 2, none⟩ = some (.slice none 0 0) := bc_ BK273 2
               have hfz196_0 := blk_frozen BK273.out 0
               have hfz196_1 := blk_frozen BK273.out 1
               have hfz196_2 := blk_frozen BK273.out 2
               have hnb197 := NB216_196.out
               have hnc197 := NB196_216.out
               have hnb198 := NB216_197.out
               have hnc198 := NB197_216.out
               have hnb199 := NB216_222.out
               have hnc199 := NB222_216.out
               have hnb200 := NB216_228.out
               have hnc200 := NB228_216.out
               have hnb201 := NB216_235.out
               have hnc201 := NB235_216.out
               have hcz202_0 : w183.cell? ⟨gb216, 0, none⟩ = some (.int .i64 t210) := bc_ BK216 0
               have hcz202_1 : w183.cell? ⟨gb216, 1, none⟩ = some (.int .i64 t211) := bc_ BK216 1
               have hcz202_2 : w183.cell? ⟨gb216, 2, none⟩ = some (.slice Ao43 t212.length co43) := bc_ BK216 2
               have hfz202_0 := blk_frozen BK216.out 0
               have hfz202_1 := blk_frozen BK216.out 1
               have hfz202_2 := blk_frozen BK216.out 2
               go_wp2_with (first | ((with_reducible refine gate_callee (f := 17) rfl ?_); refine goesL_ (some 104) rfl rfl Try.func17 (by kernel_rfl) rfl #[.agg #[.int .i64 t267, .int .i64 t268, .slice Ao186 t269.length co186], .agg #[.int .i64 t210, .int .i64 t211, .slice Ao43 t212.length co43]] rfl lm_ ?_; (with_reducible refine (laws_eqMatrix.calls kj108 t267 t268 _ _ t269 t210 t211 _ _ t212 true _ ?side1 ?side2 ?side3 ?side4 A188.out).mono ?_); (case side1 => refine (Kd.R_reads' (e := 2) (base := w.heap.size) (ok := fun k_ => (some k_ ≠ (v260 : Value).ownBlock ∧ (some k_ ≠ (v265 : Value).ownBlock ∧ (some k_ ≠ (.slice Ao43 t212.length co43 : Value).ownBlock ∧ (some k_ ≠ (.slice Ao53 t250.length co53 : Value).ownBlock ∧ (some k_ ≠ (.slice Ao63 t252.length co63 : Value).ownBlock ∧ some k_ ≠ (.slice Ao73 t231.length co73 : Value).ownBlock)))))) (n := t269.length) (c := co186) ?_).2.2; exact ((rm_ (Kd.R_far (p := ⟨gb273, 2, none⟩) (Kd.R_far (p := ⟨gb273, 1, none⟩) (Kd.R_far (p := ⟨gb273, 0, none⟩) (Kd.R_types HO271.out BK273.out (by decide)) (fun _ hk => hk.2) (.int .i64 t267)) (fun _ hk => hk.2) (.int .i64 t268)) (fun _ hk => hk.2) (.slice Ao186 t269.length co186)) (fun _ h_ => h_.1)))); (case side2 => exact (Kd.R_reads' HO271.out).2.1); (case side3 => refine (Kd.R_reads' (e := 2) (base := w.heap.size) (ok := fun k_ => (some k_ ≠ (v260 : Value).ownBlock ∧ (some k_ ≠ (v265 : Value).ownBlock ∧ (some k_ ≠ (.slice Ao186 t269.length co186 : Value).ownBlock ∧ (some k_ ≠ (.slice Ao53 t250.length co53 : Value).ownBlock ∧ (some k_ ≠ (.slice Ao63 t252.length co63 : Value).ownBlock ∧ some k_ ≠ (.slice Ao73 t231.length co73 : Value).ownBlock)))))) (n := t212.length) (c := co43) ?_).2.2; exact ((rm_ (Kd.R_far (p := ⟨gb273, 2, none⟩) (Kd.R_far (p := ⟨gb273, 1, none⟩) (Kd.R_far (p := ⟨gb273, 0, none⟩) (Kd.R_types HO_217002.out BK273.out (by decide)) (fun _ hk => hk.2) (.int .i64 t267)) (fun _ hk => hk.2) (.int .i64 t268)) (fun _ hk => hk.2) (.slice Ao186 t269.length co186)) (fun _ h_ => h_.1)))); (case side4 => exact (Kd.R_reads' HO_217002.out).2.1); rintro e w203 ⟨rfl, hb⟩; refine ⟨_, rfl, ?_⟩; have n0_ := am_ (Kd.R_below ((rm_ (Kd.R_far (p := ⟨gb273, 2, none⟩) (Kd.R_far (p := ⟨gb273, 1, none⟩) (Kd.R_far (p := ⟨gb273, 0, none⟩) (Kd.R_types HO_217002.out BK273.out (by decide)) (fun _ hk => hk.2) (.int .i64 t267)) (fun _ hk => hk.2) (.int .i64 t268)) (fun _ hk => hk.2) (.slice Ao186 t269.length co186)) (fun _ h_ => h_.1))) hb); have n1_ := am_ (Kd.R_below ((rm_ (Kd.R_far (p := ⟨gb273, 2, none⟩) (Kd.R_far (p := ⟨gb273, 1, none⟩) (Kd.R_far (p := ⟨gb273, 0, none⟩) (Kd.R_types HO_223002.out BK273.out (by decide)) (fun _ hk => hk.2) (.int .i64 t267)) (fun _ hk => hk.2) (.int .i64 t268)) (fun _ hk => hk.2) (.slice Ao186 t269.length co186)) (fun _ h_ => h_.1))) hb); have n2_ := am_ (Kd.R_below ((rm_ (Kd.R_far (p := ⟨gb273, 2, none⟩) (Kd.R_far (p := ⟨gb273, 1, none⟩) (Kd.R_far (p := ⟨gb273, 0, none⟩) (Kd.R_types HO_229002.out BK273.out (by decide)) (fun _ hk => hk.2) (.int .i64 t267)) (fun _ hk => hk.2) (.int .i64 t268)) (fun _ hk => hk.2) (.slice Ao186 t269.length co186)) (fun _ h_ => h_.1))) hb); have n3_ := am_ (Kd.R_below ((rm_ (Kd.R_far (p := ⟨gb273, 2, none⟩) (Kd.R_far (p := ⟨gb273, 1, none⟩) (Kd.R_far (p := ⟨gb273, 0, none⟩) (Kd.R_types HO_236002.out BK273.out (by decide)) (fun _ hk => hk.2) (.int .i64 t267)) (fun _ hk => hk.2) (.int .i64 t268)) (fun _ hk => hk.2) (.slice Ao186 t269.length co186)) (fun _ h_ => h_.1))) hb); have n4_ := am_ (Kd.R_below ((rm_ (Kd.R_far (p := ⟨gb273, 2, none⟩) (Kd.R_far (p := ⟨gb273, 1, none⟩) (Kd.R_far (p := ⟨gb273, 0, none⟩) (Kd.R_types HO261.out BK273.out (by decide)) (fun _ hk => hk.2) (.int .i64 t267)) (fun _ hk => hk.2) (.int .i64 t268)) (fun _ hk => hk.2) (.slice Ao186 t269.length co186)) (fun _ h_ => h_.1))) hb); have n5_ := am_ (Kd.R_below ((rm_ (Kd.R_far (p := ⟨gb273, 2, none⟩) (Kd.R_far (p := ⟨gb273, 1, none⟩) (Kd.R_far (p := ⟨gb273, 0, none⟩) (Kd.R_types HO266.out BK273.out (by decide)) (fun _ hk => hk.2) (.int .i64 t267)) (fun _ hk => hk.2) (.int .i64 t268)) (fun _ hk => hk.2) (.slice Ao186 t269.length co186)) (fun _ h_ => h_.1))) hb); have n6_ := am_ (Kd.R_below ((rm_ (Kd.R_far (p := ⟨gb273, 2, none⟩) (Kd.R_far (p := ⟨gb273, 1, none⟩) (Kd.R_far (p := ⟨gb273, 0, none⟩) (Kd.R_types HO271.out BK273.out (by decide)) (fun _ hk => hk.2) (.int .i64 t267)) (fun _ hk => hk.2) (.int .i64 t268)) (fun _ hk => hk.2) (.slice Ao186 t269.length co186)) (fun _ h_ => h_.1))) hb); have n7_ := am_ (bw_ BK196 hb); have n8_ := am_ (bw_ BK197 hb); have n9_ := am_ (bw_ BK216 hb); have n10_ := am_ (bw_ BK222 hb); have n11_ := am_ (bw_ BK228 hb); have n12_ := am_ (bw_ BK235 hb); have n13_ := am_ (blk_below (g := gb273) (o := .cells #[.int .i64 t267, .int .i64 t268, .slice Ao186 t269.length co186] 27 (0, 0)) (by (with_reducible repeat (first | refine blk_drewN ?_ _ | refine blk_drew ?_ | refine blk_alloc ?_ _)); refine blk_put (cs := #[.int .i64 t267, .int .i64 t268, .slice none 0 0]) ?_ 2 _ rfl; (with_reducible repeat (first | refine blk_drewN ?_ _ | refine blk_drew ?_ | refine blk_alloc ?_ _)); refine blk_put (cs := #[.int .i64 t267, .int .i64 0, .slice none 0 0]) ?_ 1 _ rfl; (with_reducible repeat (first | refine blk_drewN ?_ _ | refine blk_drew ?_ | refine blk_alloc ?_ _)); refine blk_put (cs := #[.int .i64 0, .int .i64 0, .slice none 0 0]) ?_ 0 _ rfl; (with_reducible repeat (first | refine blk_drewN ?_ _ | refine blk_drew ?_ | refine blk_alloc ?_ _)); exact BK273.out) hb); have n14_ := am_ (below_step (bb_ HB.out) hb); clear HO_217002 HO_223002 HO_229002 HO_236002 HO261 HO266 HO271 BK196 BK197 BK216 BK222 BK228 BK235 BK273 HB; revert n0_ n1_ n2_ n3_ n4_ n5_ n6_ n7_ n8_ n9_ n10_ n11_ n12_ n13_ n14_; intro HO_217002 HO_223002 HO_229002 HO_236002 HO261 HO266 HO271 BK196 BK197 BK216 BK222 BK228 BK235 BK273 HB; (try clear hb); (try clear hb2); (try clear hk); (try clear hi)))
               go_meet
               case rel => exact ⟨_, ((t272 != t215)), (by first | rfl | (simp; done) | (simp [*]; done)), H', ⟨by have := HJ24.out; have := HJ108.out; first | omega | exact Nat.le_refl _⟩, ⟨by (try simp only [hl223002_108]); (try simp only [hl229002_108]); (with_reducible repeat (first | apply Kd.R_alloc | apply Kd.R_drewN | apply Kd.R_drew)); exact Kd.R_mono HO_217002.out (fun _ hk => ⟨hk.2.2.2.1, ⟨hk.2.2.2.2.1, ⟨hk.2.2.2.2.2, hk.2.2.1⟩⟩⟩)⟩, ⟨by (try simp only [hl223002_108]); (try simp only [hl229002_108]); (with_reducible repeat (first | apply Kd.R_alloc | apply Kd.R_drewN | apply Kd.R_drew)); exact Kd.R_mono HO_223002.out (fun _ hk => ⟨hk.2.2.2.1, ⟨hk.2.2.2.2.1, ⟨hk.2.2.2.2.2, hk.2.2.1⟩⟩⟩)⟩, ⟨by (try simp only [hl223002_108]); (try simp only [hl229002_108]); (with_reducible repeat (first | apply Kd.R_alloc | apply Kd.R_drewN | apply Kd.R_drew)); exact Kd.R_mono HO_229002.out (fun _ hk => ⟨hk.2.2.2.1, ⟨hk.2.2.2.2.1, ⟨hk.2.2.2.2.2, hk.2.2.1⟩⟩⟩)⟩, ⟨by (try simp only [hl223002_108]); (try simp only [hl229002_108]); (with_reducible repeat (first | apply Kd.R_alloc | apply Kd.R_drewN | apply Kd.R_drew)); exact Kd.R_mono HO_236002.out (fun _ hk => ⟨hk.2.2.2.1, ⟨hk.2.2.2.2.1, ⟨hk.2.2.2.2.2, hk.2.2.1⟩⟩⟩)⟩, ⟨by (try simp only [hl223002_108]); (try simp only [hl229002_108]); (with_reducible repeat (first | apply Kd.R_alloc | apply Kd.R_drewN | apply Kd.R_drew)); exact Kd.R_mono HO271.out (fun _ hk => ⟨hk.2.2.1, ⟨hk.2.2.2.1, ⟨hk.2.2.2.2.1, hk.2.2.2.2.2⟩⟩⟩)⟩, ⟨by (try simp only [hl223002_108]); (try simp only [hl229002_108]); (with_reducible repeat (first | refine blk_drewN ?_ _ | refine blk_drew ?_ | refine blk_alloc ?_ _)); exact BK196.out⟩, ⟨by (try simp only [hl223002_108]); (try simp only [hl229002_108]); (with_reducible repeat (first | refine blk_drewN ?_ _ | refine blk_drew ?_ | refine blk_alloc ?_ _)); exact BK197.out⟩, ⟨by (try simp only [hl223002_108]); (try simp only [hl229002_108]); (with_reducible repeat (first | refine blk_drewN ?_ _ | refine blk_drew ?_ | refine blk_alloc ?_ _)); exact BK216.out⟩, ⟨by (try simp only [hl223002_108]); (try simp only [hl229002_108]); (with_reducible repeat (first | refine blk_drewN ?_ _ | refine blk_drew ?_ | refine blk_alloc ?_ _)); exact BK222.out⟩, ⟨by (try simp only [hl223002_108]); (try simp only [hl229002_108]); (with_reducible repeat (first | refine blk_drewN ?_ _ | refine blk_drew ?_ | refine blk_alloc ?_ _)); exact BK228.out⟩, ⟨by (try simp only [hl223002_108]); (try simp only [hl229002_108]); (with_reducible repeat (first | refine blk_drewN ?_ _ | refine blk_drew ?_ | refine blk_alloc ?_ _)); exact BK235.out⟩, ⟨by (try simp only [hl223002_108]); (try simp only [hl229002_108]); (with_reducible repeat (first | refine blk_drewN ?_ _ | refine blk_drew ?_ | refine blk_alloc ?_ _)); exact BK273.out⟩, ⟨bb_ HB.out⟩⟩
              ·replace c189 := Bool.eq_false_iff.mpr c189
               subst c189
               have H1 : (laws_FnExactMultiplyMatrices.j2 kj108 t254 true t229 t230 t255) = some r := by rw [if_neg (show ¬ (false = true) by decide)] at H; exact H
               clear H
               have H := H1
               clear H1
               have H' := am_ H
               clear H
               have hnb204 := NB273_196.out
               have hnc204 := NB196_273.out
               have hnb205 := NB273_197.out
               have hnc205 := NB197_273.out
               have hnb206 := NB273_216.out
               have hnc206 := NB216_273.out
               have hnb207 := NB273_222.out
               have hnc207 := NB222_273.out
               have hnb208 := NB273_228.out
               have hnc208 := NB228_273.out
               have hnb209 := NB273_235.out
               have hnc209 := NB235_273.out
               have hcz210_0 : w183.cell? ⟨gb273, 0, none⟩ = some (.int .i64 0) := bc_ BK273 0
               have hcz210_1 : w183.cell? ⟨gb273, 1, none⟩ = some (.int .i64 0) := bc_ BK273 1
               have hcz210_2 : w183.cell? ⟨gb273, 2, none⟩ = some (.slice none 0 0) := bc_ BK273 2
               have hfz210_0 := blk_frozen BK273.out 0
               have hfz210_1 := blk_frozen BK273.out 1
               have hfz210_2 := blk_frozen BK273.out 2
               have hnb211 := NB216_196.out
               have hnc211 := NB196_216.out
               have hnb212 := NB216_197.out
               have hnc212 := NB197_216.out
               have hnb213 := NB216_222.out
               have hnc213 := NB222_216.out
               have hnb214 := NB216_228.out
               have hnc214 := NB228_216.out
               have hnb215 := NB216_235.out
               have hnc215 := NB235_216.out
               have hcz216_0 : w183.cell? ⟨gb216, 0, none⟩ = some (.int .i64 t210) := bc_ BK216 0
               have hcz216_1 : w183.cell? ⟨gb216, 1, none⟩ = some (.int .i64 t211) := bc_ BK216 1
               have hcz216_2 : w183.cell? ⟨gb216, 2, none⟩ = some (.slice Ao43 t212.length co43) := bc_ BK216 2
               have hfz216_0 := blk_frozen BK216.out 0
               have hfz216_1 := blk_frozen BK216.out 1
               have hfz216_2 := blk_frozen BK216.out 2
               go_wp2_with (first | ((with_reducible refine gate_callee (f := 17) rfl ?_); refine goesL_ (some 104) rfl rfl Try.func17 (by kernel_rfl) rfl #[.agg #[.int .i64 t267, .int .i64 t268, .slice Ao186 t269.length co186], .agg #[.int .i64 t210, .int .i64 t211, .slice Ao43 t212.length co43]] rfl lm_ ?_; (with_reducible refine (laws_eqMatrix.calls kj108 t267 t268 _ _ t269 t210 t211 _ _ t212 false _ ?side1 ?side2 ?side3 ?side4 A188.out).mono ?_); (case side1 => refine (Kd.R_reads' (e := 2) (base := w.heap.size) (ok := fun k_ => (some k_ ≠ (v260 : Value).ownBlock ∧ (some k_ ≠ (v265 : Value).ownBlock ∧ (some k_ ≠ (.slice Ao43 t212.length co43 : Value).ownBlock ∧ (some k_ ≠ (.slice Ao53 t250.length co53 : Value).ownBlock ∧ (some k_ ≠ (.slice Ao63 t252.length co63 : Value).ownBlock ∧ some k_ ≠ (.slice Ao73 t231.length co73 : Value).ownBlock)))))) (n := t269.length) (c := co186) ?_).2.2; exact ((rm_ (Kd.R_far (p := ⟨gb273, 2, none⟩) (Kd.R_far (p := ⟨gb273, 1, none⟩) (Kd.R_far (p := ⟨gb273, 0, none⟩) (Kd.R_types HO271.out BK273.out (by decide)) (fun _ hk => hk.2) (.int .i64 t267)) (fun _ hk => hk.2) (.int .i64 t268)) (fun _ hk => hk.2) (.slice Ao186 t269.length co186)) (fun _ h_ => h_.1)))); (case side2 => exact (Kd.R_reads' HO271.out).2.1); (case side3 => refine (Kd.R_reads' (e := 2) (base := w.heap.size) (ok := fun k_ => (some k_ ≠ (v260 : Value).ownBlock ∧ (some k_ ≠ (v265 : Value).ownBlock ∧ (some k_ ≠ (.slice Ao186 t269.length co186 : Value).ownBlock ∧ (some k_ ≠ (.slice Ao53 t250.length co53 : Value).ownBlock ∧ (some k_ ≠ (.slice Ao63 t252.length co63 : Value).ownBlock ∧ some k_ ≠ (.slice Ao73 t231.length co73 : Value).ownBlock)))))) (n := t212.length) (c := co43) ?_).2.2; exact ((rm_ (Kd.R_far (p := ⟨gb273, 2, none⟩) (Kd.R_far (p := ⟨gb273, 1, none⟩) (Kd.R_far (p := ⟨gb273, 0, none⟩) (Kd.R_types HO_217002.out BK273.out (by decide)) (fun _ hk => hk.2) (.int .i64 t267)) (fun _ hk => hk.2) (.int .i64 t268)) (fun _ hk => hk.2) (.slice Ao186 t269.length co186)) (fun _ h_ => h_.1)))); (case side4 => exact (Kd.R_reads' HO_217002.out).2.1); rintro e w217 ⟨rfl, hb⟩; refine ⟨_, rfl, ?_⟩; have n0_ := am_ (Kd.R_below ((rm_ (Kd.R_far (p := ⟨gb273, 2, none⟩) (Kd.R_far (p := ⟨gb273, 1, none⟩) (Kd.R_far (p := ⟨gb273, 0, none⟩) (Kd.R_types HO_217002.out BK273.out (by decide)) (fun _ hk => hk.2) (.int .i64 t267)) (fun _ hk => hk.2) (.int .i64 t268)) (fun _ hk => hk.2) (.slice Ao186 t269.length co186)) (fun _ h_ => h_.1))) hb); have n1_ := am_ (Kd.R_below ((rm_ (Kd.R_far (p := ⟨gb273, 2, none⟩) (Kd.R_far (p := ⟨gb273, 1, none⟩) (Kd.R_far (p := ⟨gb273, 0, none⟩) (Kd.R_types HO_223002.out BK273.out (by decide)) (fun _ hk => hk.2) (.int .i64 t267)) (fun _ hk => hk.2) (.int .i64 t268)) (fun _ hk => hk.2) (.slice Ao186 t269.length co186)) (fun _ h_ => h_.1))) hb); have n2_ := am_ (Kd.R_below ((rm_ (Kd.R_far (p := ⟨gb273, 2, none⟩) (Kd.R_far (p := ⟨gb273, 1, none⟩) (Kd.R_far (p := ⟨gb273, 0, none⟩) (Kd.R_types HO_229002.out BK273.out (by decide)) (fun _ hk => hk.2) (.int .i64 t267)) (fun _ hk => hk.2) (.int .i64 t268)) (fun _ hk => hk.2) (.slice Ao186 t269.length co186)) (fun _ h_ => h_.1))) hb); have n3_ := am_ (Kd.R_below ((rm_ (Kd.R_far (p := ⟨gb273, 2, none⟩) (Kd.R_far (p := ⟨gb273, 1, none⟩) (Kd.R_far (p := ⟨gb273, 0, none⟩) (Kd.R_types HO_236002.out BK273.out (by decide)) (fun _ hk => hk.2) (.int .i64 t267)) (fun _ hk => hk.2) (.int .i64 t268)) (fun _ hk => hk.2) (.slice Ao186 t269.length co186)) (fun _ h_ => h_.1))) hb); have n4_ := am_ (Kd.R_below ((rm_ (Kd.R_far (p := ⟨gb273, 2, none⟩) (Kd.R_far (p := ⟨gb273, 1, none⟩) (Kd.R_far (p := ⟨gb273, 0, none⟩) (Kd.R_types HO261.out BK273.out (by decide)) (fun _ hk => hk.2) (.int .i64 t267)) (fun _ hk => hk.2) (.int .i64 t268)) (fun _ hk => hk.2) (.slice Ao186 t269.length co186)) (fun _ h_ => h_.1))) hb); have n5_ := am_ (Kd.R_below ((rm_ (Kd.R_far (p := ⟨gb273, 2, none⟩) (Kd.R_far (p := ⟨gb273, 1, none⟩) (Kd.R_far (p := ⟨gb273, 0, none⟩) (Kd.R_types HO266.out BK273.out (by decide)) (fun _ hk => hk.2) (.int .i64 t267)) (fun _ hk => hk.2) (.int .i64 t268)) (fun _ hk => hk.2) (.slice Ao186 t269.length co186)) (fun _ h_ => h_.1))) hb); have n6_ := am_ (Kd.R_below ((rm_ (Kd.R_far (p := ⟨gb273, 2, none⟩) (Kd.R_far (p := ⟨gb273, 1, none⟩) (Kd.R_far (p := ⟨gb273, 0, none⟩) (Kd.R_types HO271.out BK273.out (by decide)) (fun _ hk => hk.2) (.int .i64 t267)) (fun _ hk => hk.2) (.int .i64 t268)) (fun _ hk => hk.2) (.slice Ao186 t269.length co186)) (fun _ h_ => h_.1))) hb); have n7_ := am_ (bw_ BK196 hb); have n8_ := am_ (bw_ BK197 hb); have n9_ := am_ (bw_ BK216 hb); have n10_ := am_ (bw_ BK222 hb); have n11_ := am_ (bw_ BK228 hb); have n12_ := am_ (bw_ BK235 hb); have n13_ := am_ (blk_below (g := gb273) (o := .cells #[.int .i64 t267, .int .i64 t268, .slice Ao186 t269.length co186] 27 (0, 0)) (by (with_reducible repeat (first | refine blk_drewN ?_ _ | refine blk_drew ?_ | refine blk_alloc ?_ _)); refine blk_put (cs := #[.int .i64 t267, .int .i64 t268, .slice none 0 0]) ?_ 2 _ rfl; (with_reducible repeat (first | refine blk_drewN ?_ _ | refine blk_drew ?_ | refine blk_alloc ?_ _)); refine blk_put (cs := #[.int .i64 t267, .int .i64 0, .slice none 0 0]) ?_ 1 _ rfl; (with_reducible repeat (first | refine blk_drewN ?_ _ | refine blk_drew ?_ | refine blk_alloc ?_ _)); refine blk_put (cs := #[.int .i64 0, .int .i64 0, .slice none 0 0]) ?_ 0 _ rfl; (with_reducible repeat (first | refine blk_drewN ?_ _ | refine blk_drew ?_ | refine blk_alloc ?_ _)); exact BK273.out) hb); have n14_ := am_ (below_step (bb_ HB.out) hb); clear HO_217002 HO_223002 HO_229002 HO_236002 HO261 HO266 HO271 BK196 BK197 BK216 BK222 BK228 BK235 BK273 HB; revert n0_ n1_ n2_ n3_ n4_ n5_ n6_ n7_ n8_ n9_ n10_ n11_ n12_ n13_ n14_; intro HO_217002 HO_223002 HO_229002 HO_236002 HO261 HO266 HO271 BK196 BK197 BK216 BK222 BK228 BK235 BK273 HB; (try clear hb); (try clear hb2); (try clear hk); (try clear hi)))
               go_meet
               case rel => exact ⟨_, (true), (by first | rfl | (simp; done) | (simp [*]; done)), H', ⟨by have := HJ24.out; have := HJ108.out; first | omega | exact Nat.le_refl _⟩, ⟨by (try simp only [hl223002_108]); (try simp only [hl229002_108]); (with_reducible repeat (first | apply Kd.R_alloc | apply Kd.R_drewN | apply Kd.R_drew)); exact Kd.R_mono HO_217002.out (fun _ hk => ⟨hk.2.2.2.1, ⟨hk.2.2.2.2.1, ⟨hk.2.2.2.2.2, hk.2.2.1⟩⟩⟩)⟩, ⟨by (try simp only [hl223002_108]); (try simp only [hl229002_108]); (with_reducible repeat (first | apply Kd.R_alloc | apply Kd.R_drewN | apply Kd.R_drew)); exact Kd.R_mono HO_223002.out (fun _ hk => ⟨hk.2.2.2.1, ⟨hk.2.2.2.2.1, ⟨hk.2.2.2.2.2, hk.2.2.1⟩⟩⟩)⟩, ⟨by (try simp only [hl223002_108]); (try simp only [hl229002_108]); (with_reducible repeat (first | apply Kd.R_alloc | apply Kd.R_drewN | apply Kd.R_drew)); exact Kd.R_mono HO_229002.out (fun _ hk => ⟨hk.2.2.2.1, ⟨hk.2.2.2.2.1, ⟨hk.2.2.2.2.2, hk.2.2.1⟩⟩⟩)⟩, ⟨by (try simp only [hl223002_108]); (try simp only [hl229002_108]); (with_reducible repeat (first | apply Kd.R_alloc | apply Kd.R_drewN | apply Kd.R_drew)); exact Kd.R_mono HO_236002.out (fun _ hk => ⟨hk.2.2.2.1, ⟨hk.2.2.2.2.1, ⟨hk.2.2.2.2.2, hk.2.2.1⟩⟩⟩)⟩, ⟨by (try simp only [hl223002_108]); (try simp only [hl229002_108]); (with_reducible repeat (first | apply Kd.R_alloc | apply Kd.R_drewN | apply Kd.R_drew)); exact Kd.R_mono HO271.out (fun _ hk => ⟨hk.2.2.1, ⟨hk.2.2.2.1, ⟨hk.2.2.2.2.1, hk.2.2.2.2.2⟩⟩⟩)⟩, ⟨by (try simp only [hl223002_108]); (try simp only [hl229002_108]); (with_reducible repeat (first | refine blk_drewN ?_ _ | refine blk_drew ?_ | refine blk_alloc ?_ _)); exact BK196.out⟩, ⟨by (try simp only [hl223002_108]); (try simp only [hl229002_108]); (with_reducible repeat (first | refine blk_drewN ?_ _ | refine blk_drew ?_ | refine blk_alloc ?_ _)); exact BK197.out⟩, ⟨by (try simp only [hl223002_108]); (try simp only [hl229002_108]); (with_reducible repeat (first | refine blk_drewN ?_ _ | refine blk_drew ?_ | refine blk_alloc ?_ _)); exact BK216.out⟩, ⟨by (try simp only [hl223002_108]); (try simp only [hl229002_108]); (with_reducible repeat (first | refine blk_drewN ?_ _ | refine blk_drew ?_ | refine blk_alloc ?_ _)); exact BK222.out⟩, ⟨by (try simp only [hl223002_108]); (try simp only [hl229002_108]); (with_reducible repeat (first | refine blk_drewN ?_ _ | refine blk_drew ?_ | refine blk_alloc ?_ _)); exact BK228.out⟩, ⟨by (try simp only [hl223002_108]); (try simp only [hl229002_108]); (with_reducible repeat (first | refine blk_drewN ?_ _ | refine blk_drew ?_ | refine blk_alloc ?_ _)); exact BK235.out⟩, ⟨by (try simp only [hl223002_108]); (try simp only [hl229002_108]); (with_reducible repeat (first | refine blk_drewN ?_ _ | refine blk_drew ?_ | refine blk_alloc ?_ _)); exact BK273.out⟩, ⟨bb_ HB.out⟩⟩
             case rest =>
              clear HC166
              try clear c1
              try clear c2
              try clear p2
              try clear c15
              try clear c17
              try clear c18
              try clear c19
              try clear c20
              try clear c21
              try clear c29
              try clear c189
              try clear c190
              try clear c191
              try clear c192
              try clear c193
              try clear c194
              try clear c195
              try clear c197
              try clear c198
              try clear c199
              try clear c200
              try clear c201
              try clear c204
              try clear c205
              try clear c206
              try clear c207
              try clear c208
              try clear c209
              try clear c211
              try clear c212
              try clear c213
              try clear c214
              try clear c215
              try clear hcz196_0
              try clear hcz196_1
              try clear hcz196_2
              try clear hcz202_0
              try clear hcz202_1
              try clear hcz202_2
              try clear hcz210_0
              try clear hcz210_1
              try clear hcz210_2
              try clear hcz216_0
              try clear hcz216_1
              try clear hcz216_2
              try clear hfz196_0
              try clear hfz196_1
              try clear hfz196_2
              try clear hfz202_0
              try clear hfz202_1
              try clear hfz202_2
              try clear hfz210_0
              try clear hfz210_1
              try clear hfz210_2
              try clear hfz216_0
              try clear hfz216_1
              try clear hfz216_2
              obtain ⟨kq, x110_165, rfl, HA, HJ165, HO_217002, HO_223002, HO_229002, HO_236002, HO_274002, BK196, BK197, BK216, BK222, BK228, BK235, BK273, HB⟩ := hcut
              have hl236002_165 := (Kd.R_reads' HO_236002.out).1
              rw [hl236002_165] at HO_236002
              (try simp only [hl236002_165])
              (try simp only [hl236002_165] at BK196)
              (try simp only [hl236002_165] at BK197)
              (try simp only [hl236002_165] at BK216)
              (try simp only [hl236002_165] at BK222)
              (try simp only [hl236002_165] at BK228)
              (try simp only [hl236002_165] at BK235)
              (try simp only [hl236002_165] at BK273)
              (try simp only [hl236002_165] at HO_217002)
              (try simp only [hl236002_165] at HO_223002)
              (try simp only [hl236002_165] at HO_229002)
              (try simp only [hl236002_165] at HO_274002)
              cases kq with
              | zero => exact absurd HA.out (by simp [laws_FnExactMultiplyMatrices.j2])
              | succ kj165 =>
               have H := HA.out
               clear HA
               simp only [laws_FnExactMultiplyMatrices.j2] at H
               by_cases c218 : x110_165 = true
               ·subst c218
                have H1 : (some false) = some r := by rw [if_pos rfl] at H; exact H
                clear H
                have H := H1
                clear H1
                exact absurd ((Option.some.inj H).trans HTRUE_.out) (by simp)
               ·replace c218 := Bool.eq_false_iff.mpr c218
                subst c218
                have H1 : ((laws_heldMatrix.f kj165 t229 t230 t255 1).bind fun t275 => (if t275 < 0 then (some false) else (if t275 = t254 then (some true) else (some false)))) = some r := by rw [if_neg (show ¬ (false = true) by decide)] at H; exact H
                clear H
                have H := H1
                clear H1
                replace H := Option.bind_eq_some_iff.mp H
                obtain ⟨t275, A2190, H⟩ := H
                replace H : (if t275 < 0 then (some false) else (if t275 = t254 then (some true) else (some false))) = some r := H
                have A219 := am_ A2190
                clear A2190
                by_cases c220 : t275 < 0
                ·rw [if_pos c220] at H
                 have c220b0 : decide (t275 < 0) = true := decide_eq_true c220
                 clear c220
                 exact absurd ((Option.some.inj H).trans HTRUE_.out) (by simp)
                ·rw [if_neg c220] at H
                 have c220b0 : decide (t275 < 0) = false := decide_eq_false c220
                 clear c220
                 by_cases c221 : t275 = t254
                 ·rw [if_pos c221] at H
                  have c221b0 : (t275 == t254) = true := beq_iff_eq.mpr c221
                  have c221b1 : (t275 != t254) = false := bne_eq_false_iff_eq.mpr c221
                  clear c221
                  obtain rfl := Option.some.inj H
                  have hnb222 := NB235_196.out
                  have hnc222 := NB196_235.out
                  have hnb223 := NB235_197.out
                  have hnc223 := NB197_235.out
                  have hnb224 := NB235_216.out
                  have hnc224 := NB216_235.out
                  have hnb225 := NB235_222.out
                  have hnc225 := NB222_235.out
                  have hnb226 := NB235_228.out
                  have hnc226 := NB228_235.out
                  have hnb227 := NB235_273.out
                  have hnc227 := NB273_235.out
                  have hcz228_0 : wc.cell? ⟨gb235, 0, none⟩ = some (.int .i64 t229) := bc_ BK235 0
                  have hcz228_1 : wc.cell? ⟨gb235, 1, none⟩ = some (.int .i64 t230) := bc_ BK235 1
                  have hcz228_2 : wc.cell? ⟨gb235, 2, none⟩ = some (.slice Ao73 t255.length co73) := bc_ BK235 2
                  have hfz228_0 := blk_frozen BK235.out 0
                  have hfz228_1 := blk_frozen BK235.out 1
                  have hfz228_2 := blk_frozen BK235.out 2
                  go_wp2_with (first | ((with_reducible refine gate_callee (f := 21) rfl ?_); refine goesL_ (some 113) rfl rfl Try.func21 (by kernel_rfl) rfl #[.agg #[.int .i64 t229, .int .i64 t230, .slice Ao73 t255.length co73], .int .i64 1] rfl lm_ ?_; (with_reducible refine (laws_heldMatrix.calls kj165 t229 t230 _ _ t255 1 t275 _ ?side1 ?side2 A219.out).mono ?_); (case side1 => repeat (first | exact (Kd.R_reads' HO_236002.out).2.2 | (with_reducible refine Kd.C_alloc ?_ _) | (with_reducible refine Kd.C_drewN ?_ _) | (with_reducible refine Kd.C_drew ?_))); (case side2 => exact (Kd.R_reads' HO_236002.out).2.1); rintro e w229 ⟨rfl, hb⟩; refine ⟨_, rfl, ?_⟩; have n0_ := am_ (Kd.R_below (rk_ HO_217002.out) hb); have n1_ := am_ (Kd.R_below (rk_ HO_223002.out) hb); have n2_ := am_ (Kd.R_below (rk_ HO_229002.out) hb); have n3_ := am_ (Kd.R_below (rk_ HO_236002.out) hb); have n4_ := am_ (Kd.R_below (rk_ HO_274002.out) hb); have n5_ := am_ (bw_ BK196 hb); have n6_ := am_ (bw_ BK197 hb); have n7_ := am_ (bw_ BK216 hb); have n8_ := am_ (bw_ BK222 hb); have n9_ := am_ (bw_ BK228 hb); have n10_ := am_ (bw_ BK235 hb); have n11_ := am_ (bw_ BK273 hb); have n12_ := am_ (below_step (bb_ HB.out) hb); clear HO_217002 HO_223002 HO_229002 HO_236002 HO_274002 BK196 BK197 BK216 BK222 BK228 BK235 BK273 HB; revert n0_ n1_ n2_ n3_ n4_ n5_ n6_ n7_ n8_ n9_ n10_ n11_ n12_; intro HO_217002 HO_223002 HO_229002 HO_236002 HO_274002 BK196 BK197 BK216 BK222 BK228 BK235 BK273 HB; (try clear hb); (try clear hb2); (try clear hk); (try clear hi)))
                  go_ret
                  exact ⟨by first | rfl | (simp [errW_none, errW_some] <;> rfl) | (simp [*, errW_none, errW_some] <;> rfl), by repeat (first | (with_reducible first | exact HB.out | apply below_alloc | apply pw_below_drewN | apply below_drew1 | refine below_set ?_ GE196.out | refine below_set ?_ GE197.out | refine below_set ?_ GE216.out | refine below_set ?_ GE222.out | refine below_set ?_ GE228.out | refine below_set ?_ GE235.out | refine below_set ?_ GE273.out) | exact HB.out)⟩
                 ·rw [if_neg c221] at H
                  have c221b0 : (t275 == t254) = false := beq_eq_false_iff_ne.mpr c221
                  have c221b1 : (t275 != t254) = true := bne_iff_ne.mpr c221
                  exact absurd ((Option.some.inj H).trans HTRUE_.out) (by simp)
            ·rw [if_neg c162] at H
             have c162b0 : (t256 == t254) = false := beq_eq_false_iff_ne.mpr c162
             have c162b1 : (t256 != t254) = true := bne_iff_ne.mpr c162
             exact absurd ((Option.some.inj H).trans HTRUE_.out) (by simp)
       ·replace c106 := Bool.eq_false_iff.mpr c106
        subst c106
        have H1 : (some false) = some r := by rw [if_neg (show ¬ (false = true) by decide)] at H; exact H
        clear H
        have H := H1
        clear H1
        exact absurd ((Option.some.inj H).trans HTRUE_.out) (by simp)
      ·replace c103 := Bool.eq_false_iff.mpr c103
       subst c103
       have H1 : (some false) = some r := by rw [if_neg (show ¬ (false = true) by decide)] at H; exact H
       clear H
       have H := H1
       clear H1
       exact absurd ((Option.some.inj H).trans HTRUE_.out) (by simp)

end Go.Proofs.Ytkfblcpiflbkaaa.PFnExactMultiplyMatrices
