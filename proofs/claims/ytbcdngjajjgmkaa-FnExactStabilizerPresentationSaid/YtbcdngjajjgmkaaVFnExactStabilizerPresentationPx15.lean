/- Written by this session's program out of the kit's print and this session's contracts. -/
import Derived.Test.YtbcdngjajjgmkaaVFnExactStabilizerPresentationPx0
import Derived.Test.YtbcdngjajjgmkaaVFnExactStabilizerPresentationPx9
import Derived.Test.YtbcdngjajjgmkaaVFnExactStabilizerPresentationPx10
import Derived.Test.YtbcdngjajjgmkaaVFnExactStabilizerPresentationPx11
import Derived.Test.YtbcdngjajjgmkaaVFnExactStabilizerPresentationPx13
import Derived.Test.YtbcdngjajjgmkaaVFnExactStabilizerPresentationPx14
namespace Go.Proofs.Ytbcdngjajjgmkaa.PFnExactStabilizerPresentation
open Go.RowKit Go.Proofs.YtbcdngjajjgmkaaW.PrintWords Go.Proofs.YtbcdngjajjgmkaaW.PrintLast Go.Proofs.YtbcdngjajjgmkaaW.PrintMore
attribute [local go_sem] max2_int min2_int max_two min_two max_three min_three max_four min_four   -- for this text's walks alone
set_option linter.unusedVariables false
set_option linter.unusedSimpArgs false

/-! ### impl_StabilizerPresentation: function 20 -/
mutual
def impl_StabilizerPresentation.l0 : Nat → List (List Int) → List (List Int) → Int → Int → Int → List (List Int) → Int → List (List Int) → Option (Int × (List (List Int)) × Int)
 | 0, _, _, _, _, _, _, _, _ => none
 | k + 1, x2, x8, x41, x42, x342000, x342001, x350000, x350001 => if x42 < x41 then (impl_StabilizerPresentation.l1 k x2 x8 x42 x41 x42 x342001 (x342001.length : Int) 0 x342000 x342001 x350000 x350001) else ((impl_isPresentation.f k x350000 x350001).bind fun t350 => (if t350 = true then (some (x350000, x350001, 0)) else (some (0, ([] : List (List Int)), 3))))
def impl_StabilizerPresentation.l1 : Nat → List (List Int) → List (List Int) → Int → Int → Int → List (List Int) → Int → Int → Int → List (List Int) → Int → List (List Int) → Option (Int × (List (List Int)) × Int)
 | 0, _, _, _, _, _, _, _, _, _, _, _, _ => none
 | k + 1, x2, x8, x11, x41, x42, x46, x47, x48, x342000, x342001, x350000, x350001 => if x48 < x47 then (if 0 ≤ x48 then (if x48 < (x46.length : Int) then (impl_StabilizerPresentation.l2 k x2 x8 x11 ([] : List Int) x11 x41 x42 x46 x47 x48 (rd_L1 x46 x48) ((rd_L1 x46 x48).length : Int) 0 x342000 x342001 x350000 x350001) else (none)) else (none)) else (impl_StabilizerPresentation.l0 k x2 x8 x41 (wrap64 (x42 + 1)) x342000 x342001 x350000 x350001)
def impl_StabilizerPresentation.l2 : Nat → List (List Int) → List (List Int) → Int → List Int → Int → Int → Int → List (List Int) → Int → Int → List Int → Int → Int → Int → List (List Int) → Int → List (List Int) → Option (Int × (List (List Int)) × Int)
 | 0, _, _, _, _, _, _, _, _, _, _, _, _, _, _, _, _, _ => none
 | k + 1, x2, x8, x11, x14, x15, x41, x42, x46, x47, x48, x53, x54, x55, x342000, x342001, x350000, x350001 => if x55 < x54 then (if 0 ≤ x55 then (if x55 < (x53.length : Int) then ((impl_act.f k x2 (rd x53 x55) x15).bind fun t359 => (if 0 ≤ x15 then (if x15 < (x8.length : Int) then (if 0 ≤ (wrap64 ((mx (rd x53 x55) 1) - 1)) then (if (wrap64 ((mx (rd x53 x55) 1) - 1)) < ((rd_L1 x8 x15).length : Int) then (if (rd x53 x55) < 0 then (if 0 ≤ t359 then (if t359 < (x8.length : Int) then (if 0 ≤ (wrap64 ((wrap64 (-(rd x53 x55))) - 1)) then (if (wrap64 ((wrap64 (-(rd x53 x55))) - 1)) < ((rd_L1 x8 t359).length : Int) then (if (wrap64 (-(rd (rd_L1 x8 t359) (wrap64 ((wrap64 (-(rd x53 x55))) - 1))))) = 0 then (impl_StabilizerPresentation.l2 k x2 x8 x11 x14 t359 x41 x42 x46 x47 x48 x53 x54 (wrap64 (x55 + 1)) x342000 x342001 x350000 x350001) else (if x14.length < 17592186044416 then (impl_StabilizerPresentation.l2 k x2 x8 x11 (x14 ++ [wrap64 (-(rd (rd_L1 x8 t359) (wrap64 ((wrap64 (-(rd x53 x55))) - 1))))]) t359 x41 x42 x46 x47 x48 x53 x54 (wrap64 (x55 + 1)) x342000 x342001 x350000 x350001) else (none))) else (none)) else (none)) else (none)) else (none)) else (if (rd (rd_L1 x8 x15) (wrap64 ((mx (rd x53 x55) 1) - 1))) = 0 then (impl_StabilizerPresentation.l2 k x2 x8 x11 x14 t359 x41 x42 x46 x47 x48 x53 x54 (wrap64 (x55 + 1)) x342000 x342001 x350000 x350001) else (if x14.length < 17592186044416 then (impl_StabilizerPresentation.l2 k x2 x8 x11 (x14 ++ [rd (rd_L1 x8 x15) (wrap64 ((mx (rd x53 x55) 1) - 1))]) t359 x41 x42 x46 x47 x48 x53 x54 (wrap64 (x55 + 1)) x342000 x342001 x350000 x350001) else (none)))) else (none)) else (none)) else (none)) else (none))) else (none)) else (none)) else ((impl_reduced.f k x14).bind fun t352 => (if x350001.length < 5864062014805 then (impl_StabilizerPresentation.l1 k x2 x8 x11 x41 x42 x46 x47 (wrap64 (x48 + 1)) x342000 x342001 x350000 (x350001 ++ [t352])) else (none)))
end
def impl_StabilizerPresentation.f (k : Nat) (a0_0 : Int) (l0_1 : List (List Int)) (a1 : Int) (l2 : List (List Int)) : Option (Int × (List (List Int)) × Int) := (impl_IsRepresentation.f k a0_0 l0_1 a1 l2).bind fun t343 => (if t343 = true then ((impl_isTransitive.f k a1 l2).bind fun t344 => (if t344 = true then ((impl_pairLetters.f k a1 l2).bind fun bt345 => (impl_StabilizerPresentation.l0 k l2 bt345.1 a1 0 a0_0 l0_1 bt345.2 ([] : List (List Int)))) else (some (0, ([] : List (List Int)), 5)))) else (some (0, ([] : List (List Int)), 1)))
theorem impl_StabilizerPresentation.mono_l : ∀ k, (∀ y0 y1 y2 y3 y4 y5 y6 y7, LeO (impl_StabilizerPresentation.l0 k y0 y1 y2 y3 y4 y5 y6 y7) (impl_StabilizerPresentation.l0 (k + 1) y0 y1 y2 y3 y4 y5 y6 y7)) ∧ (∀ y0 y1 y2 y3 y4 y5 y6 y7 y8 y9 y10 y11, LeO (impl_StabilizerPresentation.l1 k y0 y1 y2 y3 y4 y5 y6 y7 y8 y9 y10 y11) (impl_StabilizerPresentation.l1 (k + 1) y0 y1 y2 y3 y4 y5 y6 y7 y8 y9 y10 y11)) ∧ (∀ y0 y1 y2 y3 y4 y5 y6 y7 y8 y9 y10 y11 y12 y13 y14 y15 y16, LeO (impl_StabilizerPresentation.l2 k y0 y1 y2 y3 y4 y5 y6 y7 y8 y9 y10 y11 y12 y13 y14 y15 y16) (impl_StabilizerPresentation.l2 (k + 1) y0 y1 y2 y3 y4 y5 y6 y7 y8 y9 y10 y11 y12 y13 y14 y15 y16))
 | 0 => ⟨fun _ _ _ _ _ _ _ _ r h => by simp [impl_StabilizerPresentation.l0] at h, fun _ _ _ _ _ _ _ _ _ _ _ _ r h => by simp [impl_StabilizerPresentation.l1] at h, fun _ _ _ _ _ _ _ _ _ _ _ _ _ _ _ _ _ r h => by simp [impl_StabilizerPresentation.l2] at h⟩
 | k + 1 => by
  obtain ⟨ih0, ih1, ih2⟩ := impl_StabilizerPresentation.mono_l k
  refine ⟨?_, ?_, ?_⟩
  ·intro y0 y1 y2 y3 y4 y5 y6 y7
   unfold impl_StabilizerPresentation.l0
   repeat' first
   | (with_reducible exact ih0 _ _ _ _ _ _ _ _)
   | (with_reducible exact ih1 _ _ _ _ _ _ _ _ _ _ _ _)
   | (with_reducible exact ih2 _ _ _ _ _ _ _ _ _ _ _ _ _ _ _ _ _)
   | (with_reducible exact impl_IsRepresentation.mono _ _ _ _ _)
   | (with_reducible exact impl_act.mono _ _ _ _)
   | (with_reducible exact impl_isPresentation.mono _ _ _)
   | (with_reducible exact impl_isTransitive.mono _ _ _)
   | (with_reducible exact impl_pairLetters.mono _ _ _)
   | (with_reducible exact impl_reduced.mono _ _)
   | (with_reducible exact LeO.refl _)
   | (with_reducible exact LeO.none _)
   | (with_reducible refine LeO.ite ?_ ?_)
   | (with_reducible refine LeO.bind ?_ (fun _ => ?_))
   | exact ih0 _ _ _ _ _ _ _ _
   | exact ih1 _ _ _ _ _ _ _ _ _ _ _ _
   | exact ih2 _ _ _ _ _ _ _ _ _ _ _ _ _ _ _ _ _
   | exact impl_IsRepresentation.mono _ _ _ _ _
   | exact impl_act.mono _ _ _ _
   | exact impl_isPresentation.mono _ _ _
   | exact impl_isTransitive.mono _ _ _
   | exact impl_pairLetters.mono _ _ _
   | exact impl_reduced.mono _ _
   | exact LeO.none _
   | refine LeO.ite ?_ ?_
   | refine LeO.bind ?_ (fun _ => ?_)
  ·intro y0 y1 y2 y3 y4 y5 y6 y7 y8 y9 y10 y11
   unfold impl_StabilizerPresentation.l1
   repeat' first
   | (with_reducible exact ih0 _ _ _ _ _ _ _ _)
   | (with_reducible exact ih1 _ _ _ _ _ _ _ _ _ _ _ _)
   | (with_reducible exact ih2 _ _ _ _ _ _ _ _ _ _ _ _ _ _ _ _ _)
   | (with_reducible exact impl_IsRepresentation.mono _ _ _ _ _)
   | (with_reducible exact impl_act.mono _ _ _ _)
   | (with_reducible exact impl_isPresentation.mono _ _ _)
   | (with_reducible exact impl_isTransitive.mono _ _ _)
   | (with_reducible exact impl_pairLetters.mono _ _ _)
   | (with_reducible exact impl_reduced.mono _ _)
   | (with_reducible exact LeO.refl _)
   | (with_reducible exact LeO.none _)
   | (with_reducible refine LeO.ite ?_ ?_)
   | (with_reducible refine LeO.bind ?_ (fun _ => ?_))
   | exact ih0 _ _ _ _ _ _ _ _
   | exact ih1 _ _ _ _ _ _ _ _ _ _ _ _
   | exact ih2 _ _ _ _ _ _ _ _ _ _ _ _ _ _ _ _ _
   | exact impl_IsRepresentation.mono _ _ _ _ _
   | exact impl_act.mono _ _ _ _
   | exact impl_isPresentation.mono _ _ _
   | exact impl_isTransitive.mono _ _ _
   | exact impl_pairLetters.mono _ _ _
   | exact impl_reduced.mono _ _
   | exact LeO.none _
   | refine LeO.ite ?_ ?_
   | refine LeO.bind ?_ (fun _ => ?_)
  ·intro y0 y1 y2 y3 y4 y5 y6 y7 y8 y9 y10 y11 y12 y13 y14 y15 y16
   unfold impl_StabilizerPresentation.l2
   repeat' first
   | (with_reducible exact ih0 _ _ _ _ _ _ _ _)
   | (with_reducible exact ih1 _ _ _ _ _ _ _ _ _ _ _ _)
   | (with_reducible exact ih2 _ _ _ _ _ _ _ _ _ _ _ _ _ _ _ _ _)
   | (with_reducible exact impl_IsRepresentation.mono _ _ _ _ _)
   | (with_reducible exact impl_act.mono _ _ _ _)
   | (with_reducible exact impl_isPresentation.mono _ _ _)
   | (with_reducible exact impl_isTransitive.mono _ _ _)
   | (with_reducible exact impl_pairLetters.mono _ _ _)
   | (with_reducible exact impl_reduced.mono _ _)
   | (with_reducible exact LeO.refl _)
   | (with_reducible exact LeO.none _)
   | (with_reducible refine LeO.ite ?_ ?_)
   | (with_reducible refine LeO.bind ?_ (fun _ => ?_))
   | exact ih0 _ _ _ _ _ _ _ _
   | exact ih1 _ _ _ _ _ _ _ _ _ _ _ _
   | exact ih2 _ _ _ _ _ _ _ _ _ _ _ _ _ _ _ _ _
   | exact impl_IsRepresentation.mono _ _ _ _ _
   | exact impl_act.mono _ _ _ _
   | exact impl_isPresentation.mono _ _ _
   | exact impl_isTransitive.mono _ _ _
   | exact impl_pairLetters.mono _ _ _
   | exact impl_reduced.mono _ _
   | exact LeO.none _
   | refine LeO.ite ?_ ?_
   | refine LeO.bind ?_ (fun _ => ?_)
theorem impl_StabilizerPresentation.mono : ∀ a0 a1 a2 a3 k, LeO (impl_StabilizerPresentation.f k a0 a1 a2 a3) (impl_StabilizerPresentation.f (k + 1) a0 a1 a2 a3) := by
 intro a0 a1 a2 a3 k
 obtain ⟨ih0, ih1, ih2⟩ := impl_StabilizerPresentation.mono_l k
 unfold impl_StabilizerPresentation.f
 repeat' first
   | (with_reducible exact ih0 _ _ _ _ _ _ _ _)
   | (with_reducible exact ih1 _ _ _ _ _ _ _ _ _ _ _ _)
   | (with_reducible exact ih2 _ _ _ _ _ _ _ _ _ _ _ _ _ _ _ _ _)
   | (with_reducible exact impl_IsRepresentation.mono _ _ _ _ _)
   | (with_reducible exact impl_act.mono _ _ _ _)
   | (with_reducible exact impl_isPresentation.mono _ _ _)
   | (with_reducible exact impl_isTransitive.mono _ _ _)
   | (with_reducible exact impl_pairLetters.mono _ _ _)
   | (with_reducible exact impl_reduced.mono _ _)
   | (with_reducible exact LeO.refl _)
   | (with_reducible exact LeO.none _)
   | (with_reducible refine LeO.ite ?_ ?_)
   | (with_reducible refine LeO.bind ?_ (fun _ => ?_))
   | exact ih0 _ _ _ _ _ _ _ _
   | exact ih1 _ _ _ _ _ _ _ _ _ _ _ _
   | exact ih2 _ _ _ _ _ _ _ _ _ _ _ _ _ _ _ _ _
   | exact impl_IsRepresentation.mono _ _ _ _ _
   | exact impl_act.mono _ _ _ _
   | exact impl_isPresentation.mono _ _ _
   | exact impl_isTransitive.mono _ _ _
   | exact impl_pairLetters.mono _ _ _
   | exact impl_reduced.mono _ _
   | exact LeO.none _
   | refine LeO.ite ?_ ?_
   | refine LeO.bind ?_ (fun _ => ?_)
def impl_StabilizerPresentation.T26 : Bool × List (List Nat × List Nat) := (true, [([], []), ([0], [0]), ([], []), ([2], [2]), ([3], [3]), ([1, 4, 3], [1, 4]), ([0, 1, 2, 3, 4, 5], []), ([6, 5, 5, 0, 1, 2, 3, 4, 5], [5, 6])])
def impl_StabilizerPresentation.B26 : List Nat := [0, 1, 0, 4, 12, 31, 63, 127]
theorem impl_StabilizerPresentation.tab26 : rtab .any (opsOf Try.f20 26) = impl_StabilizerPresentation.T26 := by kernel_rfl
theorem impl_StabilizerPresentation.bits26 : waitsOk impl_StabilizerPresentation.T26.2 impl_StabilizerPresentation.B26 = true := by kernel_rfl
set_option maxHeartbeats 8000000 in
set_option maxRecDepth 100000 in
theorem impl_StabilizerPresentation.calls (k : Nat) (a0_0 : Int) (A0_1 : Option Addr) (c0_1 : Nat) (l0_1 : List (List Int)) (a1 : Int) (A2 : Option Addr) (c2 : Nat) (l2 : List (List Int)) (r1 : Int) (r2 : List (List Int)) (r3 : Int) (w : World) (hr0_1 : Kd.C (Kd.slice 2 (Kd.int .i64)) w A0_1 l0_1.length l0_1) (hc0_1 : l0_1.length ≤ c0_1) (hr2 : Kd.C (Kd.slice 2 (Kd.int .i64)) w A2 l2.length l2) (hc2 : l2.length ≤ c2) (h : impl_StabilizerPresentation.f k a0_0 l0_1 a1 l2 = some (r1, r2, r3)) :
  Calls Try.prog 20 #[.agg #[.int .i64 a0_0, .slice A0_1 l0_1.length c0_1], .int .i64 a1, .slice A2 l2.length c2] w fun e w' => ∃ v1_ : Value, e = .returned (.tuple #[.agg #[.int .i64 r1, v1_], .int .i64 r3]) ∧ Kd.S (Kd.slice 2 (Kd.int .i64)) 39 w' w.heap.size (fun _ => True) v1_ r2 ∧ Below w.heap.size w w' := by
 have hu28 := Try.underlying28
 have HR0_1 := am_ hr0_1
 have HC0_1 := am_ hc0_1
 clear hr0_1 hc0_1
 have HR2 := am_ hr2
 have HC2 := am_ hc2
 clear hr2 hc2
 have HB := am_ (Below.refl w.heap.size w)
 have H : ((impl_IsRepresentation.f k a0_0 l0_1 a1 l2).bind fun t343 => (if t343 = true then ((impl_isTransitive.f k a1 l2).bind fun t344 => (if t344 = true then ((impl_pairLetters.f k a1 l2).bind fun bt345 => (impl_StabilizerPresentation.l0 k l2 bt345.1 a1 0 a0_0 l0_1 bt345.2 ([] : List (List Int)))) else (some (0, ([] : List (List Int)), 5)))) else (some (0, ([] : List (List Int)), 1)))) = some (r1, r2, r3) := h
 clear h
 replace H := Option.bind_eq_some_iff.mp H
 obtain ⟨t343, A40, H⟩ := H
 replace H : (if t343 = true then ((impl_isTransitive.f k a1 l2).bind fun t344 => (if t344 = true then ((impl_pairLetters.f k a1 l2).bind fun bt345 => (impl_StabilizerPresentation.l0 k l2 bt345.1 a1 0 a0_0 l0_1 bt345.2 ([] : List (List Int)))) else (some (0, ([] : List (List Int)), 5)))) else (some (0, ([] : List (List Int)), 1))) = some (r1, r2, r3) := H
 have A4 := am_ A40
 clear A40
 by_cases c5 : t343 = true
 ·subst c5
  have H1 : ((impl_isTransitive.f k a1 l2).bind fun t344 => (if t344 = true then ((impl_pairLetters.f k a1 l2).bind fun bt345 => (impl_StabilizerPresentation.l0 k l2 bt345.1 a1 0 a0_0 l0_1 bt345.2 ([] : List (List Int)))) else (some (0, ([] : List (List Int)), 5)))) = some (r1, r2, r3) := by rw [if_pos rfl] at H; exact H
  clear H
  have H := H1
  clear H1
  replace H := Option.bind_eq_some_iff.mp H
  obtain ⟨t344, A60, H⟩ := H
  replace H : (if t344 = true then ((impl_pairLetters.f k a1 l2).bind fun bt345 => (impl_StabilizerPresentation.l0 k l2 bt345.1 a1 0 a0_0 l0_1 bt345.2 ([] : List (List Int)))) else (some (0, ([] : List (List Int)), 5))) = some (r1, r2, r3) := H
  have A6 := am_ A60
  clear A60
  by_cases c7 : t344 = true
  ·subst c7
   have H1 : ((impl_pairLetters.f k a1 l2).bind fun bt345 => (impl_StabilizerPresentation.l0 k l2 bt345.1 a1 0 a0_0 l0_1 bt345.2 ([] : List (List Int)))) = some (r1, r2, r3) := by rw [if_pos rfl] at H; exact H
   clear H
   have H := H1
   clear H1
   replace H := Option.bind_eq_some_iff.mp H
   obtain ⟨⟨t345, t346⟩, A80, H⟩ := H
   replace H : (impl_StabilizerPresentation.l0 k l2 t345 a1 0 a0_0 l0_1 t346 ([] : List (List Int))) = some (r1, r2, r3) := H
   have A8 := am_ A80
   clear A80
   have H' := am_ H
   clear H
   go_enter Try.func20, Try.ntmps20
   go_wp2_with (first | ((with_reducible refine gate_dst (N := 3) rfl ?_); refine box_event ?hg (N := 3) ?hd (cs := #[.int .i64 a0_0, .slice A0_1 l0_1.length c0_1]) (t := 28) ?hr ?_; (case hd => rfl); (case hg => rfl); (case hr => first | (go_simp; done) | (go_simp; rfl)); intro gb341 hg w9 hbox hb; have n0_ := am_ (below_step (bb_ HB.out) hb); have n1_ := am_ (hbox); have n2_ := am_ ((by rw [hg]; exact (below_size (bb_ HB.out)) : w.heap.size ≤ gb341)); have n3_ := am_ ((by rw [hg]; exact (below_size (bb_ HB.out)) : w.heap.size ≤ gb341)); clear HB; revert n0_ n1_ n2_ n3_; intro HB BK341 GW341 GE341; clear hb hbox hg) | ((with_reducible refine gate_dst (N := 6) rfl ?_); refine box_event ?hg (N := 6) ?hd (cs := #[.int .i64 0, .slice none 0 0]) (t := 28) ?hr ?_; (case hd => rfl); (case hg => rfl); (case hr => first | (go_simp; done) | (go_simp; rfl)); intro gb342 hg w10 hbox hb; have n0_ := am_ (bw_ BK341 hb); have n1_ := am_ (below_step (bb_ HB.out) hb); have n2_ := am_ (hbox); have n3_ := am_ ((by rw [hg]; exact (below_size (bb_ HB.out)) : w.heap.size ≤ gb342)); have n4_ := am_ ((by rw [hg]; exact (below_size (bb_ HB.out)) : w.heap.size ≤ gb342)); have n5_ := am_ (nl_ BK341 hg); have n6_ := am_ (ng_ BK341 hg); clear BK341 HB; revert n0_ n1_ n2_ n3_ n4_ n5_ n6_; intro BK341 HB BK342 GW342 GE342 NB341_342 NB342_341; clear hb hbox hg; have hnb11 := NB341_342.out; have hnc11 := NB342_341.out; obtain ⟨hcz12_0, hcz12_1, hfz12_0, hfz12_1⟩ := bx2_ BK341) | ((with_reducible refine gate_callee (f := 54) rfl ?_); refine goesL_ (some 24) rfl rfl Try.func54 (by kernel_rfl) rfl #[.agg #[.int .i64 a0_0, .slice A0_1 l0_1.length c0_1], .int .i64 a1, .slice A2 l2.length c2] rfl lm_ ?_; (with_reducible refine (impl_IsRepresentation.calls k a0_0 _ _ l0_1 a1 _ _ l2 true _ ?side1 ?side2 ?side3 ?side4 A4.out).mono ?_); (case side1 => repeat (first | exact (Kd.C_below HR0_1.out HB.out) | (with_reducible refine Kd.C_alloc ?_ _) | (with_reducible refine Kd.C_drewN ?_ _) | (with_reducible refine Kd.C_drew ?_))); (case side2 => exact HC0_1.out); (case side3 => repeat (first | exact (Kd.C_below HR2.out HB.out) | (with_reducible refine Kd.C_alloc ?_ _) | (with_reducible refine Kd.C_drewN ?_ _) | (with_reducible refine Kd.C_drew ?_))); (case side4 => exact HC2.out); rintro e w13 ⟨rfl, hb⟩; refine ⟨_, rfl, ?_⟩; have n0_ := am_ (bw_ BK341 hb); have n1_ := am_ (bw_ BK342 hb); have n2_ := am_ (below_step (bb_ HB.out) hb); clear BK341 BK342 HB; revert n0_ n1_ n2_; intro BK341 BK342 HB; (try clear hb); (try clear hb2); (try clear hk); (try clear hi)) | ((with_reducible refine gate_callee (f := 55) rfl ?_); refine goesL_ (some 30) rfl rfl Try.func55 (by kernel_rfl) rfl #[.int .i64 a1, .slice A2 l2.length c2] rfl lm_ ?_; (with_reducible refine (impl_isTransitive.calls k a1 _ _ l2 true _ ?side1 ?side2 A6.out).mono ?_); (case side1 => repeat (first | exact (Kd.C_below HR2.out HB.out) | (with_reducible refine Kd.C_alloc ?_ _) | (with_reducible refine Kd.C_drewN ?_ _) | (with_reducible refine Kd.C_drew ?_))); (case side2 => exact HC2.out); rintro e w14 ⟨rfl, hb⟩; refine ⟨_, rfl, ?_⟩; have n0_ := am_ (bw_ BK341 hb); have n1_ := am_ (bw_ BK342 hb); have n2_ := am_ (below_step (bb_ HB.out) hb); clear BK341 BK342 HB; revert n0_ n1_ n2_; intro BK341 BK342 HB; (try clear hb); (try clear hb2); (try clear hk); (try clear hi)) | ((with_reducible refine gate_callee (f := 56) rfl ?_); refine goesL_ (some 36) rfl rfl Try.func56 (by kernel_rfl) rfl #[.int .i64 a1, .slice A2 l2.length c2] rfl lm_ ?_; (with_reducible refine (impl_pairLetters.calls k a1 _ _ l2 t345 t346 _ ?side1 ?side2 A8.out).mono ?_); (case side1 => repeat (first | exact (Kd.C_below HR2.out HB.out) | (with_reducible refine Kd.C_alloc ?_ _) | (with_reducible refine Kd.C_drewN ?_ _) | (with_reducible refine Kd.C_drew ?_))); (case side2 => exact HC2.out); rintro e w15 ⟨v347, rfl, ho0, hb⟩; refine ⟨_, rfl, ?_⟩; have n0_ := am_ (Kd.S_lower ho0 (below_size (bb_ HB.out))); have n1_ := am_ (bw_ BK341 hb); have n2_ := am_ (bw_ BK342 hb); have n3_ := am_ (below_step (bb_ HB.out) hb); clear BK341 BK342 HB; revert n0_ n1_ n2_ n3_; intro HO348 BK341 BK342 HB; (try clear hb); (try clear hb2); (try clear hk); (try clear hi); (try clear ho0)) | ((with_reducible refine gate_dst (N := 10) rfl ?_); refine box_event ?hg (N := 10) ?hd (cs := #[.int .i64 0, .slice none 0 0]) (t := 28) ?hr ?_; (case hd => rfl); (case hg => rfl); (case hr => first | (go_simp; done) | (go_simp; rfl)); intro gb349 hg w16 hbox hb; have n0_ := am_ (Kd.S_below (by (with_reducible repeat (first | apply Kd.S_alloc | apply Kd.S_drewN | apply Kd.S_drew)); exact HO348.out) hb); have n1_ := am_ (bw_ BK341 hb); have n2_ := am_ (bw_ BK342 hb); have n3_ := am_ (below_step (bb_ HB.out) hb); have n4_ := am_ (hbox); have n5_ := am_ ((by rw [hg]; exact (below_size (bb_ HB.out)) : w.heap.size ≤ gb349)); have n6_ := am_ ((by rw [hg]; exact (below_size (bb_ HB.out)) : w.heap.size ≤ gb349)); have n7_ := am_ (nl_ BK341 hg); have n8_ := am_ (ng_ BK341 hg); have n9_ := am_ (nl_ BK342 hg); have n10_ := am_ (ng_ BK342 hg); clear HO348 BK341 BK342 HB; revert n0_ n1_ n2_ n3_ n4_ n5_ n6_ n7_ n8_ n9_ n10_; intro HO348 BK341 BK342 HB BK349 GW349 GE349 NB341_349 NB349_341 NB342_349 NB349_342; clear hb hbox hg; have hnb17 := NB349_341.out; have hnc17 := NB341_349.out; have hnb18 := NB349_342.out; have hnc18 := NB342_349.out; obtain ⟨hcz19_0, hcz19_1, hfz19_0, hfz19_1⟩ := bx2_ BK349))
   go_loopg [42] k (fun kq v42 w' => ∃ (x42_1 : Int) (x350001_1 : List (List Int)) (u350001 : Value), v42 = .int .i64 x42_1 ∧ Aside0 (impl_StabilizerPresentation.l0 kq l2 t345 a1 x42_1 a0_0 l0_1 t346 x350001_1 = some (r1, r2, r3)) ∧ Aside0 (kq ≤ k) ∧ Aside0 (Kd.S (Kd.slice 2 (Kd.int .i64)) 39 w' w.heap.size (fun k_ => some k_ ≠ (u350001 : Value).ownBlock) v347 t345) ∧ Aside0 (Kd.S (Kd.slice 2 (Kd.int .i64)) 39 w' w.heap.size (fun k_ => some k_ ≠ (v347 : Value).ownBlock) u350001 x350001_1) ∧ Aside0 (w'.heap[gb341]? = some (.cells #[.int .i64 a0_0, (.slice A0_1 l0_1.length c0_1)] 28 (0, 0))) ∧ Aside0 (w'.heap[gb342]? = some (.cells #[.int .i64 0, (.slice none 0 0)] 28 (0, 0))) ∧ Aside0 (w'.heap[gb349]? = some (.cells #[.int .i64 t346, u350001] 28 (0, 0))) ∧ Aside0 (Below w.heap.size w w'))
   case atStart => exact ⟨(0), (([] : List (List Int))), (.slice none 0 0), (by first | rfl | (simp; done) | (simp [*]; done)), H', ⟨Nat.le_refl _⟩, ⟨by (with_reducible repeat (first | apply Kd.S_alloc | apply Kd.S_drewN | apply Kd.S_drew)); exact Kd.S_mono (Kd.S_far (p := ⟨gb349, 1, none⟩) (Kd.S_far (p := ⟨gb349, 0, none⟩) (Kd.S_types HO348.out BK349.out (by decide)) (fun _ hk => hk.2) (.int .i64 t346)) (fun _ hk => hk.2) (.slice none 0 0)) (fun _ hk => (by simp [Value.ownBlock]))⟩, ⟨by first | exact Kd.S_nil _ _ _ _ _ | exact Kd.N_nil _ _ _ _ _ | exact Kd.V_nil _ _ _ _ _ | exact Kd.Q_nil _ _ _ _ _ | exact Kd.R_nil _ _ _ _ _⟩, ⟨bk_ BK341.out⟩, ⟨bk_ BK342.out⟩, ⟨by (with_reducible repeat (first | refine blk_drewN ?_ _ | refine blk_drew ?_ | refine blk_alloc ?_ _)); refine blk_put (cs := #[.int .i64 t346, .slice none 0 0]) ?_ 1 _ rfl; (with_reducible repeat (first | refine blk_drewN ?_ _ | refine blk_drew ?_ | refine blk_alloc ?_ _)); refine blk_put (cs := #[.int .i64 0, .slice none 0 0]) ?_ 0 _ rfl; (with_reducible repeat (first | refine blk_drewN ?_ _ | refine blk_drew ?_ | refine blk_alloc ?_ _)); exact BK349.out⟩, ⟨bb_ HB.out⟩⟩
   case round =>
    clear H'
    try clear c1
    try clear c2
    try clear p2
    try clear c5
    try clear c7
    try clear c11
    try clear c17
    try clear c18
    try clear hcz12_0
    try clear hcz12_1
    try clear hcz19_0
    try clear hcz19_1
    try clear hfz12_0
    try clear hfz12_1
    try clear hfz19_0
    try clear hfz19_1
    obtain ⟨x42_1, x350001_1, u350001, rfl, HA, HK1, HO_8, HO_350001, BK341, BK342, BK349, HB⟩ := hrel
    cases gk with
    | zero => exact absurd HA.out (by simp [impl_StabilizerPresentation.l0])
    | succ k1 =>
     have H := HA.out
     clear HA
     simp only [impl_StabilizerPresentation.l0] at H
     by_cases c20 : x42_1 < a1
     ·rw [if_pos c20] at H
      have c20b0 : decide (x42_1 < a1) = true := decide_eq_true c20
      clear c20
      have H' := am_ H
      clear H
      have hnb21 := NB341_342.out
      have hnc21 := NB342_341.out
      have hnb22 := NB341_349.out
      have hnc22 := NB349_341.out
      obtain ⟨hcz23_0, hcz23_1, hfz23_0, hfz23_1⟩ := bx2_ BK341
      go_wp2
      go_loopg [48] k1 (fun kq v48 w' => ∃ (x48_2 : Int) (x350001_2 : List (List Int)) (u350001 : Value), v48 = .int .i64 x48_2 ∧ Aside0 (impl_StabilizerPresentation.l1 kq l2 t345 x42_1 a1 x42_1 l0_1 (l0_1.length : Int) x48_2 a0_0 l0_1 t346 x350001_2 = some (r1, r2, r3)) ∧ Aside0 (kq ≤ k1) ∧ Aside0 (Kd.S (Kd.slice 2 (Kd.int .i64)) 39 w' w.heap.size (fun k_ => some k_ ≠ (u350001 : Value).ownBlock) v347 t345) ∧ Aside0 (Kd.S (Kd.slice 2 (Kd.int .i64)) 39 w' w.heap.size (fun k_ => some k_ ≠ (v347 : Value).ownBlock) u350001 x350001_2) ∧ Aside0 (w'.heap[gb341]? = some (.cells #[.int .i64 a0_0, (.slice A0_1 l0_1.length c0_1)] 28 (0, 0))) ∧ Aside0 (w'.heap[gb342]? = some (.cells #[.int .i64 0, (.slice none 0 0)] 28 (0, 0))) ∧ Aside0 (w'.heap[gb349]? = some (.cells #[.int .i64 t346, u350001] 28 (0, 0))) ∧ Aside0 (Below w.heap.size w w'))
      case atStart => exact ⟨(0), (x350001_1), (u350001), (by first | rfl | (simp; done) | (simp [*]; done)), H', ⟨Nat.le_refl _⟩, ⟨by (with_reducible repeat (first | apply Kd.S_alloc | apply Kd.S_drewN | apply Kd.S_drew)); exact HO_8.out⟩, ⟨by (with_reducible repeat (first | apply Kd.S_alloc | apply Kd.S_drewN | apply Kd.S_drew)); exact HO_350001.out⟩, ⟨bk_ BK341.out⟩, ⟨bk_ BK342.out⟩, ⟨bk_ BK349.out⟩, ⟨bb_ HB.out⟩⟩
      case round =>
       clear H'
       try clear c1
       try clear c2
       try clear p2
       try clear c5
       try clear c7
       try clear c11
       try clear c17
       try clear c18
       try clear c20
       try clear c20b0
       try clear c21
       try clear c22
       try clear hcz12_0
       try clear hcz12_1
       try clear hcz19_0
       try clear hcz19_1
       try clear hcz23_0
       try clear hcz23_1
       try clear hfz12_0
       try clear hfz12_1
       try clear hfz19_0
       try clear hfz19_1
       try clear hfz23_0
       try clear hfz23_1
       try clear p2
       obtain ⟨x48_2, x350001_2, u350001, rfl, HA, HK2, HO_8, HO_350001, BK341, BK342, BK349, HB⟩ := hrel
       cases gk with
       | zero => exact absurd HA.out (by simp [impl_StabilizerPresentation.l1])
       | succ k2 =>
        have H := HA.out
        clear HA
        simp only [impl_StabilizerPresentation.l1] at H
        by_cases c24 : x48_2 < (l0_1.length : Int)
        ·rw [if_pos c24] at H
         have c24b0 : decide (x48_2 < (l0_1.length : Int)) = true := decide_eq_true c24
         clear c24
         by_cases c25 : 0 ≤ x48_2
         ·rw [if_pos c25] at H
          have c25b0 : decide (0 ≤ x48_2) = true := decide_eq_true c25
          clear c25
          by_cases c26 : x48_2 < (l0_1.length : Int)
          ·rw [if_pos c26] at H
           have c26b0 : decide (x48_2 < (l0_1.length : Int)) = true := decide_eq_true c26
           clear c26
           have H' := am_ H
           clear H
           have p351 : 0 ≤ (x48_2 : Int) := of_decide_eq_true (by first | (with_reducible assumption) | assumption)
           have q351 : x48_2 < (l0_1.length : Int) := of_decide_eq_true (by first | (with_reducible assumption) | assumption)
           obtain ⟨ad351, A351_0, c351_0, e351, hx351_0, hl351_0, hi351_0⟩ := at_L1 HR0_1.out x48_2 p351 q351
           cases e351
           replace hx351_0 := (HB.out.cell (World.block_lt_of_cell? w _ hx351_0)).trans hx351_0
           have HR351_0 := am_ hi351_0
           have HC351_0 := am_ hl351_0
           clear hi351_0 hl351_0
           replace p351 := eq_true p351
           replace q351 := eq_true q351
           go_wp2
           go_loopg [14, 15, 55] k2 (fun kq v14 v15 v55 w' => ∃ (x14_3 : List Int) (x15_3 : Int) (x55_3 : Int), v15 = .int .i64 x15_3 ∧ v55 = .int .i64 x55_3 ∧ Aside0 (impl_StabilizerPresentation.l2 kq l2 t345 x42_1 x14_3 x15_3 a1 x42_1 l0_1 (l0_1.length : Int) x48_2 (rd_L1 l0_1 x48_2) ((rd_L1 l0_1 x48_2).length : Int) x55_3 a0_0 l0_1 t346 x350001_2 = some (r1, r2, r3)) ∧ Aside0 (kq ≤ k2) ∧ Aside0 (Kd.S (Kd.slice 2 (Kd.int .i64)) 39 w' w.heap.size (fun k_ => some k_ ≠ (v14 : Value).ownBlock ∧ some k_ ≠ (u350001 : Value).ownBlock) v347 t345) ∧ Aside0 (Kd.R (Kd.int .i64) 2 w' w.heap.size (fun _ => True) v14 x14_3) ∧ Aside0 (Kd.S (Kd.slice 2 (Kd.int .i64)) 39 w' w.heap.size (fun k_ => some k_ ≠ (v347 : Value).ownBlock ∧ some k_ ≠ (v14 : Value).ownBlock) u350001 x350001_2) ∧ Aside0 (w'.heap[gb341]? = some (.cells #[.int .i64 a0_0, (.slice (some ad351) l0_1.length c0_1)] 28 (0, 0))) ∧ Aside0 (w'.heap[gb342]? = some (.cells #[.int .i64 0, (.slice none 0 0)] 28 (0, 0))) ∧ Aside0 (w'.heap[gb349]? = some (.cells #[.int .i64 t346, u350001] 28 (0, 0))) ∧ Aside0 (Below w.heap.size w w'))
           case atStart => exact ⟨(([] : List Int)), (x42_1), (0), (by first | rfl | (simp; done) | (simp [*]; done)), (by first | rfl | (simp; done) | (simp [*]; done)), H', ⟨Nat.le_refl _⟩, ⟨by (with_reducible repeat (first | apply Kd.S_alloc | apply Kd.S_drewN | apply Kd.S_drew)); exact Kd.S_mono HO_8.out (fun _ hk => ⟨(by simp [Value.ownBlock]), hk⟩)⟩, ⟨by first | exact Kd.R_nil _ _ _ _ _ | exact Kd.N_nil _ _ _ _ _ | exact Kd.V_nil _ _ _ _ _ | exact Kd.Q_nil _ _ _ _ _ | exact Kd.S_nil _ _ _ _ _⟩, ⟨by (with_reducible repeat (first | apply Kd.S_alloc | apply Kd.S_drewN | apply Kd.S_drew)); exact Kd.S_mono HO_350001.out (fun _ hk => ⟨hk, (by simp [Value.ownBlock])⟩)⟩, ⟨bk_ BK341.out⟩, ⟨bk_ BK342.out⟩, ⟨bk_ BK349.out⟩, ⟨bb_ HB.out⟩⟩
           case round =>
            clear H'
            try clear c1
            try clear c2
            try clear p2
            try clear c3
            try clear p3
            try clear q3
            try clear hx3
            try clear c5
            try clear c7
            try clear c11
            try clear c17
            try clear c18
            try clear c20
            try clear c20b0
            try clear c21
            try clear c22
            try clear c24
            try clear c24b0
            try clear c25
            try clear c25b0
            try clear c26
            try clear c26b0
            try clear hcz12_0
            try clear hcz12_1
            try clear hcz19_0
            try clear hcz19_1
            try clear hcz23_0
            try clear hcz23_1
            try clear hfz12_0
            try clear hfz12_1
            try clear hfz19_0
            try clear hfz19_1
            try clear hfz23_0
            try clear hfz23_1
            try clear hx351_0
            try clear p2
            try clear p351
            try clear q351
            obtain ⟨x14_3, x15_3, x55_3, rfl, rfl, HA, HK3, HO_8, HO_14, HO_350001, BK341, BK342, BK349, HB⟩ := hrel
            cases gk with
            | zero => exact absurd HA.out (by simp [impl_StabilizerPresentation.l2])
            | succ k3 =>
             have H := HA.out
             clear HA
             simp only [impl_StabilizerPresentation.l2] at H
             by_cases c27 : x55_3 < ((rd_L1 l0_1 x48_2).length : Int)
             ·rw [if_pos c27] at H
              have c27b0 : decide (x55_3 < ((rd_L1 l0_1 x48_2).length : Int)) = true := decide_eq_true c27
              clear c27
              by_cases c28 : 0 ≤ x55_3
              ·rw [if_pos c28] at H
               have c28b0 : decide (0 ≤ x55_3) = true := decide_eq_true c28
               clear c28
               by_cases c29 : x55_3 < ((rd_L1 l0_1 x48_2).length : Int)
               ·rw [if_pos c29] at H
                have c29b0 : decide (x55_3 < ((rd_L1 l0_1 x48_2).length : Int)) = true := decide_eq_true c29
                clear c29
                replace H := Option.bind_eq_some_iff.mp H
                obtain ⟨t359, A300, H⟩ := H
                replace H : (if 0 ≤ x15_3 then (if x15_3 < (t345.length : Int) then (if 0 ≤ (wrap64 ((mx (rd (rd_L1 l0_1 x48_2) x55_3) 1) - 1)) then (if (wrap64 ((mx (rd (rd_L1 l0_1 x48_2) x55_3) 1) - 1)) < ((rd_L1 t345 x15_3).length : Int) then (if (rd (rd_L1 l0_1 x48_2) x55_3) < 0 then (if 0 ≤ t359 then (if t359 < (t345.length : Int) then (if 0 ≤ (wrap64 ((wrap64 (-(rd (rd_L1 l0_1 x48_2) x55_3))) - 1)) then (if (wrap64 ((wrap64 (-(rd (rd_L1 l0_1 x48_2) x55_3))) - 1)) < ((rd_L1 t345 t359).length : Int) then (if (wrap64 (-(rd (rd_L1 t345 t359) (wrap64 ((wrap64 (-(rd (rd_L1 l0_1 x48_2) x55_3))) - 1))))) = 0 then (impl_StabilizerPresentation.l2 k3 l2 t345 x42_1 x14_3 t359 a1 x42_1 l0_1 (l0_1.length : Int) x48_2 (rd_L1 l0_1 x48_2) ((rd_L1 l0_1 x48_2).length : Int) (wrap64 (x55_3 + 1)) a0_0 l0_1 t346 x350001_2) else (if x14_3.length < 17592186044416 then (impl_StabilizerPresentation.l2 k3 l2 t345 x42_1 (x14_3 ++ [wrap64 (-(rd (rd_L1 t345 t359) (wrap64 ((wrap64 (-(rd (rd_L1 l0_1 x48_2) x55_3))) - 1))))]) t359 a1 x42_1 l0_1 (l0_1.length : Int) x48_2 (rd_L1 l0_1 x48_2) ((rd_L1 l0_1 x48_2).length : Int) (wrap64 (x55_3 + 1)) a0_0 l0_1 t346 x350001_2) else (none))) else (none)) else (none)) else (none)) else (none)) else (if (rd (rd_L1 t345 x15_3) (wrap64 ((mx (rd (rd_L1 l0_1 x48_2) x55_3) 1) - 1))) = 0 then (impl_StabilizerPresentation.l2 k3 l2 t345 x42_1 x14_3 t359 a1 x42_1 l0_1 (l0_1.length : Int) x48_2 (rd_L1 l0_1 x48_2) ((rd_L1 l0_1 x48_2).length : Int) (wrap64 (x55_3 + 1)) a0_0 l0_1 t346 x350001_2) else (if x14_3.length < 17592186044416 then (impl_StabilizerPresentation.l2 k3 l2 t345 x42_1 (x14_3 ++ [rd (rd_L1 t345 x15_3) (wrap64 ((mx (rd (rd_L1 l0_1 x48_2) x55_3) 1) - 1))]) t359 a1 x42_1 l0_1 (l0_1.length : Int) x48_2 (rd_L1 l0_1 x48_2) ((rd_L1 l0_1 x48_2).length : Int) (wrap64 (x55_3 + 1)) a0_0 l0_1 t346 x350001_2) else (none)))) else (none)) else (none)) else (none)) else (none)) = some (r1, r2, r3) := H
                have A30 := am_ A300
                clear A300
                by_cases c31 : 0 ≤ x15_3
                ·rw [if_pos c31] at H
                 have c31b0 : decide (0 ≤ x15_3) = true := decide_eq_true c31
                 clear c31
                 by_cases c32 : x15_3 < (t345.length : Int)
                 ·rw [if_pos c32] at H
                  have c32b0 : decide (x15_3 < (t345.length : Int)) = true := decide_eq_true c32
                  clear c32
                  obtain ⟨ji33, hji33⟩ : ∃ j_ : Int, (mx (rd (rd_L1 l0_1 x48_2) x55_3) 1) = j_ := ⟨_, rfl⟩
                  replace H : (if 0 ≤ (wrap64 ((ji33) - 1)) then (if (wrap64 ((ji33) - 1)) < ((rd_L1 t345 x15_3).length : Int) then (if (rd (rd_L1 l0_1 x48_2) x55_3) < 0 then (if 0 ≤ t359 then (if t359 < (t345.length : Int) then (if 0 ≤ (wrap64 ((wrap64 (-(rd (rd_L1 l0_1 x48_2) x55_3))) - 1)) then (if (wrap64 ((wrap64 (-(rd (rd_L1 l0_1 x48_2) x55_3))) - 1)) < ((rd_L1 t345 t359).length : Int) then (if (wrap64 (-(rd (rd_L1 t345 t359) (wrap64 ((wrap64 (-(rd (rd_L1 l0_1 x48_2) x55_3))) - 1))))) = 0 then (impl_StabilizerPresentation.l2 k3 l2 t345 x42_1 x14_3 t359 a1 x42_1 l0_1 (l0_1.length : Int) x48_2 (rd_L1 l0_1 x48_2) ((rd_L1 l0_1 x48_2).length : Int) (wrap64 (x55_3 + 1)) a0_0 l0_1 t346 x350001_2) else (if x14_3.length < 17592186044416 then (impl_StabilizerPresentation.l2 k3 l2 t345 x42_1 (x14_3 ++ [wrap64 (-(rd (rd_L1 t345 t359) (wrap64 ((wrap64 (-(rd (rd_L1 l0_1 x48_2) x55_3))) - 1))))]) t359 a1 x42_1 l0_1 (l0_1.length : Int) x48_2 (rd_L1 l0_1 x48_2) ((rd_L1 l0_1 x48_2).length : Int) (wrap64 (x55_3 + 1)) a0_0 l0_1 t346 x350001_2) else (none))) else (none)) else (none)) else (none)) else (none)) else (if (rd (rd_L1 t345 x15_3) (wrap64 ((ji33) - 1))) = 0 then (impl_StabilizerPresentation.l2 k3 l2 t345 x42_1 x14_3 t359 a1 x42_1 l0_1 (l0_1.length : Int) x48_2 (rd_L1 l0_1 x48_2) ((rd_L1 l0_1 x48_2).length : Int) (wrap64 (x55_3 + 1)) a0_0 l0_1 t346 x350001_2) else (if x14_3.length < 17592186044416 then (impl_StabilizerPresentation.l2 k3 l2 t345 x42_1 (x14_3 ++ [rd (rd_L1 t345 x15_3) (wrap64 ((ji33) - 1))]) t359 a1 x42_1 l0_1 (l0_1.length : Int) x48_2 (rd_L1 l0_1 x48_2) ((rd_L1 l0_1 x48_2).length : Int) (wrap64 (x55_3 + 1)) a0_0 l0_1 t346 x350001_2) else (none)))) else (none)) else (none)) = some (r1, r2, r3) := by first | (rw [hji33] at H; exact H) | (simp only [hji33] at H ⊢; exact H)
                  (try rw [hji33] at A30)
                  have hji33_ : (if (rd (rd_L1 l0_1 x48_2) x55_3) < 1 then 1 else (rd (rd_L1 l0_1 x48_2) x55_3)) = ji33 := hji33
                  obtain ⟨ji34, hji34⟩ : ∃ j_ : Int, (wrap64 ((ji33) - 1)) = j_ := ⟨_, rfl⟩
                  replace H : (if 0 ≤ (ji34) then (if (ji34) < ((rd_L1 t345 x15_3).length : Int) then (if (rd (rd_L1 l0_1 x48_2) x55_3) < 0 then (if 0 ≤ t359 then (if t359 < (t345.length : Int) then (if 0 ≤ (wrap64 ((wrap64 (-(rd (rd_L1 l0_1 x48_2) x55_3))) - 1)) then (if (wrap64 ((wrap64 (-(rd (rd_L1 l0_1 x48_2) x55_3))) - 1)) < ((rd_L1 t345 t359).length : Int) then (if (wrap64 (-(rd (rd_L1 t345 t359) (wrap64 ((wrap64 (-(rd (rd_L1 l0_1 x48_2) x55_3))) - 1))))) = 0 then (impl_StabilizerPresentation.l2 k3 l2 t345 x42_1 x14_3 t359 a1 x42_1 l0_1 (l0_1.length : Int) x48_2 (rd_L1 l0_1 x48_2) ((rd_L1 l0_1 x48_2).length : Int) (wrap64 (x55_3 + 1)) a0_0 l0_1 t346 x350001_2) else (if x14_3.length < 17592186044416 then (impl_StabilizerPresentation.l2 k3 l2 t345 x42_1 (x14_3 ++ [wrap64 (-(rd (rd_L1 t345 t359) (wrap64 ((wrap64 (-(rd (rd_L1 l0_1 x48_2) x55_3))) - 1))))]) t359 a1 x42_1 l0_1 (l0_1.length : Int) x48_2 (rd_L1 l0_1 x48_2) ((rd_L1 l0_1 x48_2).length : Int) (wrap64 (x55_3 + 1)) a0_0 l0_1 t346 x350001_2) else (none))) else (none)) else (none)) else (none)) else (none)) else (if (rd (rd_L1 t345 x15_3) (ji34)) = 0 then (impl_StabilizerPresentation.l2 k3 l2 t345 x42_1 x14_3 t359 a1 x42_1 l0_1 (l0_1.length : Int) x48_2 (rd_L1 l0_1 x48_2) ((rd_L1 l0_1 x48_2).length : Int) (wrap64 (x55_3 + 1)) a0_0 l0_1 t346 x350001_2) else (if x14_3.length < 17592186044416 then (impl_StabilizerPresentation.l2 k3 l2 t345 x42_1 (x14_3 ++ [rd (rd_L1 t345 x15_3) (ji34)]) t359 a1 x42_1 l0_1 (l0_1.length : Int) x48_2 (rd_L1 l0_1 x48_2) ((rd_L1 l0_1 x48_2).length : Int) (wrap64 (x55_3 + 1)) a0_0 l0_1 t346 x350001_2) else (none)))) else (none)) else (none)) = some (r1, r2, r3) := by first | (rw [hji34] at H; exact H) | (simp only [hji34] at H ⊢; exact H)
                  (try rw [hji34] at A30)
                  have hji34w : (IntKind.i64.wrap ((ji33) - 1)) = ji34 := (i64_w _).trans hji34
                  by_cases c35 : 0 ≤ (ji34)
                  ·rw [if_pos c35] at H
                   have c35b0 : decide (0 ≤ (ji34)) = true := decide_eq_true c35
                   clear c35
                   by_cases c36 : (ji34) < ((rd_L1 t345 x15_3).length : Int)
                   ·rw [if_pos c36] at H
                    have c36b0 : decide ((ji34) < ((rd_L1 t345 x15_3).length : Int)) = true := decide_eq_true c36
                    clear c36
                    by_cases c37 : (rd (rd_L1 l0_1 x48_2) x55_3) < 0
                    ·rw [if_pos c37] at H
                     have c37b0 : decide ((rd (rd_L1 l0_1 x48_2) x55_3) < 0) = true := decide_eq_true c37
                     clear c37
                     by_cases c38 : 0 ≤ t359
                     ·rw [if_pos c38] at H
                      have c38b0 : decide (0 ≤ t359) = true := decide_eq_true c38
                      clear c38
                      by_cases c39 : t359 < (t345.length : Int)
                      ·rw [if_pos c39] at H
                       have c39b0 : decide (t359 < (t345.length : Int)) = true := decide_eq_true c39
                       clear c39
                       obtain ⟨ji40, hji40⟩ : ∃ j_ : Int, (wrap64 ((wrap64 (-(rd (rd_L1 l0_1 x48_2) x55_3))) - 1)) = j_ := ⟨_, rfl⟩
                       replace H : (if 0 ≤ (ji40) then (if (ji40) < ((rd_L1 t345 t359).length : Int) then (if (wrap64 (-(rd (rd_L1 t345 t359) (ji40)))) = 0 then (impl_StabilizerPresentation.l2 k3 l2 t345 x42_1 x14_3 t359 a1 x42_1 l0_1 (l0_1.length : Int) x48_2 (rd_L1 l0_1 x48_2) ((rd_L1 l0_1 x48_2).length : Int) (wrap64 (x55_3 + 1)) a0_0 l0_1 t346 x350001_2) else (if x14_3.length < 17592186044416 then (impl_StabilizerPresentation.l2 k3 l2 t345 x42_1 (x14_3 ++ [wrap64 (-(rd (rd_L1 t345 t359) (ji40)))]) t359 a1 x42_1 l0_1 (l0_1.length : Int) x48_2 (rd_L1 l0_1 x48_2) ((rd_L1 l0_1 x48_2).length : Int) (wrap64 (x55_3 + 1)) a0_0 l0_1 t346 x350001_2) else (none))) else (none)) else (none)) = some (r1, r2, r3) := by first | (rw [hji40] at H; exact H) | (simp only [hji40] at H ⊢; exact H)
                       (try rw [hji40] at A30)
                       have hji40w : (IntKind.i64.wrap ((wrap64 (-(rd (rd_L1 l0_1 x48_2) x55_3))) - 1)) = ji40 := (i64_w _).trans hji40
                       by_cases c41 : 0 ≤ (ji40)
                       ·rw [if_pos c41] at H
                        have c41b0 : decide (0 ≤ (ji40)) = true := decide_eq_true c41
                        clear c41
                        by_cases c42 : (ji40) < ((rd_L1 t345 t359).length : Int)
                        ·rw [if_pos c42] at H
                         have c42b0 : decide ((ji40) < ((rd_L1 t345 t359).length : Int)) = true := decide_eq_true c42
                         clear c42
                         by_cases c43 : (wrap64 (-(rd (rd_L1 t345 t359) (ji40)))) = 0
                         ·rw [if_pos c43] at H
                          have c43b0 : ((wrap64 (-(rd (rd_L1 t345 t359) (ji40)))) == 0) = true := beq_iff_eq.mpr c43
                          have c43b1 : ((wrap64 (-(rd (rd_L1 t345 t359) (ji40)))) != 0) = false := bne_eq_false_iff_eq.mpr c43
                          clear c43
                          have H' := am_ H
                          clear H
                          have p358 : 0 ≤ (x55_3 : Int) := of_decide_eq_true (by first | (with_reducible assumption) | assumption)
                          have q358 : x55_3 < ((rd_L1 l0_1 x48_2).length : Int) := of_decide_eq_true (by first | (with_reducible assumption) | assumption)
                          obtain ⟨ad358, e358, hx358_0⟩ := Kd.at_int HR351_0.out x55_3 p358 q358
                          cases e358
                          replace hx358_0 := (HB.out.cell (World.block_lt_of_cell? w _ hx358_0)).trans hx358_0
                          replace p358 := eq_true p358
                          replace q358 := eq_true q358
                          go_wp2_with (first | ((with_reducible refine gate_callee (f := 57) rfl ?_); refine goesL_ (some 62) rfl rfl Try.func57 (by kernel_rfl) rfl #[.slice A2 l2.length c2, .int .i64 (rd (rd_L1 l0_1 x48_2) x55_3), .int .i64 x15_3] rfl lm_ ?_; (with_reducible refine (impl_act.calls k3 _ _ l2 (rd (rd_L1 l0_1 x48_2) x55_3) x15_3 t359 _ ?side1 ?side2 A30.out).mono ?_); (case side1 => repeat (first | exact (Kd.C_below HR2.out HB.out) | (with_reducible refine Kd.C_alloc ?_ _) | (with_reducible refine Kd.C_drewN ?_ _) | (with_reducible refine Kd.C_drew ?_))); (case side2 => exact HC2.out); rintro e w' ⟨rfl, ⟨nd, rfl⟩⟩; refine ⟨_, rfl, ?_⟩; obtain ⟨Ao44, co44, eo44⟩ := Kd.S_slice HO_8.out; subst eo44; have p360 : 0 ≤ (x15_3 : Int) := of_decide_eq_true (by first | (with_reducible assumption) | assumption); have q360 : x15_3 < (t345.length : Int) := of_decide_eq_true (by first | (with_reducible assumption) | assumption); obtain ⟨ad360, A360_0, c360_0, e360, hx360_0, hl360_0, hi360_0⟩ := at_L1 (Kd.S_reads' HO_8.out).2.2 x15_3 p360 q360; cases e360; obtain ⟨ce360, hce360, hMe360, hcc360⟩ := Kd.S_get HO_8.out [] x15_3 p360 (by first | exact q360 | exact of_decide_eq_true (by first | (with_reducible assumption) | assumption) | (have e_ := (Kd.S_reads' HO_8.out).1; omega)); obtain ⟨ve360_0, rfl, ge360_0⟩ := hMe360; have hv360_0 := hcc360 0 _ rfl; rw [Nat.add_zero, show ((Kd.slice 2 (Kd.int .i64))).sz = 1 from rfl, Nat.mul_one] at hv360_0; replace hv360_0 := Option.some.inj (hv360_0.symm.trans hx360_0); rw [hv360_0] at ge360_0; have HL360_0 := am_ (show Kd.R (Kd.int .i64) 2 _ _ _ _ (rd_L1 t345 x15_3) from ge360_0); clear hv360_0 ge360_0; clear hcc360 hce360; have HR360_0 := am_ hi360_0; have HC360_0 := am_ hl360_0; clear hi360_0 hl360_0; replace p360 := eq_true p360; replace q360 := eq_true q360; have p361 : 0 ≤ ((ji34) : Int) := of_decide_eq_true (by first | (with_reducible assumption) | assumption); have q361 : (ji34) < ((rd_L1 t345 x15_3).length : Int) := of_decide_eq_true (by first | (with_reducible assumption) | assumption); obtain ⟨ad361, e361, hx361_0⟩ := Kd.at_int (by repeat (first | (with_reducible exact HR360_0.out) | (with_reducible refine Kd.C_alloc ?_ _) | (with_reducible refine Kd.C_drewN ?_ _) | (with_reducible refine Kd.C_drew ?_) | exact HR360_0.out)) (ji34) p361 q361; cases e361; replace p361 := eq_true p361; replace q361 := eq_true q361; have p362 : 0 ≤ (t359 : Int) := of_decide_eq_true (by first | (with_reducible assumption) | assumption); have q362 : t359 < (t345.length : Int) := of_decide_eq_true (by first | (with_reducible assumption) | assumption); obtain ⟨ad362, A362_0, c362_0, e362, hx362_0, hl362_0, hi362_0⟩ := at_L1 (Kd.S_reads' HO_8.out).2.2 t359 p362 q362; obtain rfl : ad360 = ad362 := (by injection e362); obtain ⟨ce362, hce362, hMe362, hcc362⟩ := Kd.S_get HO_8.out [] t359 p362 (by first | exact q362 | exact of_decide_eq_true (by first | (with_reducible assumption) | assumption) | (have e_ := (Kd.S_reads' HO_8.out).1; omega)); obtain ⟨ve362_0, rfl, ge362_0⟩ := hMe362; have hv362_0 := hcc362 0 _ rfl; rw [Nat.add_zero, show ((Kd.slice 2 (Kd.int .i64))).sz = 1 from rfl, Nat.mul_one] at hv362_0; replace hv362_0 := Option.some.inj (hv362_0.symm.trans hx362_0); rw [hv362_0] at ge362_0; have HL362_0 := am_ (show Kd.R (Kd.int .i64) 2 _ _ _ _ (rd_L1 t345 t359) from ge362_0); clear hv362_0 ge362_0; clear hcc362 hce362; have HR362_0 := am_ hi362_0; have HC362_0 := am_ hl362_0; clear hi362_0 hl362_0; replace p362 := eq_true p362; replace q362 := eq_true q362; have p363 : 0 ≤ ((ji40) : Int) := of_decide_eq_true (by first | (with_reducible assumption) | assumption); have q363 : (ji40) < ((rd_L1 t345 t359).length : Int) := of_decide_eq_true (by first | (with_reducible assumption) | assumption); obtain ⟨ad363, e363, hx363_0⟩ := Kd.at_int (by repeat (first | (with_reducible exact HR362_0.out) | (with_reducible refine Kd.C_alloc ?_ _) | (with_reducible refine Kd.C_drewN ?_ _) | (with_reducible refine Kd.C_drew ?_) | exact HR362_0.out)) (ji40) p363 q363; cases e363; replace p363 := eq_true p363; replace q363 := eq_true q363))
                          go_roundg k3
                          case measure => have := HK1.out; have := HK2.out; have := HK3.out; omega
                          case rel => exact ⟨(x14_3), (t359), (wrap64 (x55_3 + 1)), (by first | rfl | (simp; done) | (simp [*]; done)), (by first | rfl | (simp; done) | (simp [*]; done)), H', ⟨by have := HK1.out; have := HK2.out; have := HK3.out; omega⟩, ⟨by (with_reducible repeat (first | apply Kd.S_alloc | apply Kd.S_drewN | apply Kd.S_drew)); exact HO_8.out⟩, ⟨rk_ HO_14.out⟩, ⟨by (with_reducible repeat (first | apply Kd.S_alloc | apply Kd.S_drewN | apply Kd.S_drew)); exact HO_350001.out⟩, ⟨bk_ BK341.out⟩, ⟨bk_ BK342.out⟩, ⟨bk_ BK349.out⟩, ⟨bb_ HB.out⟩⟩
                         ·rw [if_neg c43] at H
                          have c43b0 : ((wrap64 (-(rd (rd_L1 t345 t359) (ji40)))) == 0) = false := beq_eq_false_iff_ne.mpr c43
                          have c43b1 : ((wrap64 (-(rd (rd_L1 t345 t359) (ji40)))) != 0) = true := bne_iff_ne.mpr c43
                          by_cases c45 : x14_3.length < 17592186044416
                          ·rw [if_pos c45] at H
                           have LMc45 := am_ c45
                           clear c45
                           obtain ⟨y364, hy364⟩ : ∃ y_ : List Int, y_ = (x14_3 ++ [wrap64 (-(rd (rd_L1 t345 t359) (ji40)))]) := ⟨_, rfl⟩
                           replace H : (impl_StabilizerPresentation.l2 k3 l2 t345 x42_1 y364 t359 a1 x42_1 l0_1 (l0_1.length : Int) x48_2 (rd_L1 l0_1 x48_2) ((rd_L1 l0_1 x48_2).length : Int) (wrap64 (x55_3 + 1)) a0_0 l0_1 t346 x350001_2) = some (r1, r2, r3) := by first | (rw [hy364]; with_reducible exact H) | (have H2_ := (Option.bind_some _ _).symm.trans H; rw [hy364]; with_reducible exact H2_) | (have H2_ := (Option.bind_some _ _).symm.trans H; with_reducible exact H2_) | with_reducible exact H | (rw [hy364]; exact H) | exact H
                           have Ny364 := am_ hy364
                           clear hy364
                           have H' := am_ H
                           clear H
                           have p358 : 0 ≤ (x55_3 : Int) := of_decide_eq_true (by first | (with_reducible assumption) | assumption)
                           have q358 : x55_3 < ((rd_L1 l0_1 x48_2).length : Int) := of_decide_eq_true (by first | (with_reducible assumption) | assumption)
                           obtain ⟨ad358, e358, hx358_0⟩ := Kd.at_int HR351_0.out x55_3 p358 q358
                           cases e358
                           replace hx358_0 := (HB.out.cell (World.block_lt_of_cell? w _ hx358_0)).trans hx358_0
                           replace p358 := eq_true p358
                           replace q358 := eq_true q358
                           go_wp2_with (first | ((with_reducible refine gate_callee (f := 57) rfl ?_); refine goesL_ (some 62) rfl rfl Try.func57 (by kernel_rfl) rfl #[.slice A2 l2.length c2, .int .i64 (rd (rd_L1 l0_1 x48_2) x55_3), .int .i64 x15_3] rfl lm_ ?_; (with_reducible refine (impl_act.calls k3 _ _ l2 (rd (rd_L1 l0_1 x48_2) x55_3) x15_3 t359 _ ?side1 ?side2 A30.out).mono ?_); (case side1 => repeat (first | exact (Kd.C_below HR2.out HB.out) | (with_reducible refine Kd.C_alloc ?_ _) | (with_reducible refine Kd.C_drewN ?_ _) | (with_reducible refine Kd.C_drew ?_))); (case side2 => exact HC2.out); rintro e w' ⟨rfl, ⟨nd, rfl⟩⟩; refine ⟨_, rfl, ?_⟩; obtain ⟨Ao46, co46, eo46⟩ := Kd.S_slice HO_8.out; subst eo46; have p360 : 0 ≤ (x15_3 : Int) := of_decide_eq_true (by first | (with_reducible assumption) | assumption); have q360 : x15_3 < (t345.length : Int) := of_decide_eq_true (by first | (with_reducible assumption) | assumption); obtain ⟨ad360, A360_0, c360_0, e360, hx360_0, hl360_0, hi360_0⟩ := at_L1 (Kd.S_reads' HO_8.out).2.2 x15_3 p360 q360; cases e360; obtain ⟨ce360, hce360, hMe360, hcc360⟩ := Kd.S_get HO_8.out [] x15_3 p360 (by first | exact q360 | exact of_decide_eq_true (by first | (with_reducible assumption) | assumption) | (have e_ := (Kd.S_reads' HO_8.out).1; omega)); obtain ⟨ve360_0, rfl, ge360_0⟩ := hMe360; have hv360_0 := hcc360 0 _ rfl; rw [Nat.add_zero, show ((Kd.slice 2 (Kd.int .i64))).sz = 1 from rfl, Nat.mul_one] at hv360_0; replace hv360_0 := Option.some.inj (hv360_0.symm.trans hx360_0); rw [hv360_0] at ge360_0; have HL360_0 := am_ (show Kd.R (Kd.int .i64) 2 _ _ _ _ (rd_L1 t345 x15_3) from ge360_0); clear hv360_0 ge360_0; clear hcc360 hce360; have HR360_0 := am_ hi360_0; have HC360_0 := am_ hl360_0; clear hi360_0 hl360_0; replace p360 := eq_true p360; replace q360 := eq_true q360; have p361 : 0 ≤ ((ji34) : Int) := of_decide_eq_true (by first | (with_reducible assumption) | assumption); have q361 : (ji34) < ((rd_L1 t345 x15_3).length : Int) := of_decide_eq_true (by first | (with_reducible assumption) | assumption); obtain ⟨ad361, e361, hx361_0⟩ := Kd.at_int (by repeat (first | (with_reducible exact HR360_0.out) | (with_reducible refine Kd.C_alloc ?_ _) | (with_reducible refine Kd.C_drewN ?_ _) | (with_reducible refine Kd.C_drew ?_) | exact HR360_0.out)) (ji34) p361 q361; cases e361; replace p361 := eq_true p361; replace q361 := eq_true q361; have p362 : 0 ≤ (t359 : Int) := of_decide_eq_true (by first | (with_reducible assumption) | assumption); have q362 : t359 < (t345.length : Int) := of_decide_eq_true (by first | (with_reducible assumption) | assumption); obtain ⟨ad362, A362_0, c362_0, e362, hx362_0, hl362_0, hi362_0⟩ := at_L1 (Kd.S_reads' HO_8.out).2.2 t359 p362 q362; obtain rfl : ad360 = ad362 := (by injection e362); obtain ⟨ce362, hce362, hMe362, hcc362⟩ := Kd.S_get HO_8.out [] t359 p362 (by first | exact q362 | exact of_decide_eq_true (by first | (with_reducible assumption) | assumption) | (have e_ := (Kd.S_reads' HO_8.out).1; omega)); obtain ⟨ve362_0, rfl, ge362_0⟩ := hMe362; have hv362_0 := hcc362 0 _ rfl; rw [Nat.add_zero, show ((Kd.slice 2 (Kd.int .i64))).sz = 1 from rfl, Nat.mul_one] at hv362_0; replace hv362_0 := Option.some.inj (hv362_0.symm.trans hx362_0); rw [hv362_0] at ge362_0; have HL362_0 := am_ (show Kd.R (Kd.int .i64) 2 _ _ _ _ (rd_L1 t345 t359) from ge362_0); clear hv362_0 ge362_0; clear hcc362 hce362; have HR362_0 := am_ hi362_0; have HC362_0 := am_ hl362_0; clear hi362_0 hl362_0; replace p362 := eq_true p362; replace q362 := eq_true q362; have p363 : 0 ≤ ((ji40) : Int) := of_decide_eq_true (by first | (with_reducible assumption) | assumption); have q363 : (ji40) < ((rd_L1 t345 t359).length : Int) := of_decide_eq_true (by first | (with_reducible assumption) | assumption); obtain ⟨ad363, e363, hx363_0⟩ := Kd.at_int (by repeat (first | (with_reducible exact HR362_0.out) | (with_reducible refine Kd.C_alloc ?_ _) | (with_reducible refine Kd.C_drewN ?_ _) | (with_reducible refine Kd.C_drew ?_) | exact HR362_0.out)) (ji40) p363 q363; cases e363; replace p363 := eq_true p363; replace q363 := eq_true q363) | ((with_reducible refine gate_builtin (b := .append) (xs := #[.tmp 86, .tmp 88]) rfl ?_); at_builtin; refine Kd.R_append (Kd.int .i64) (w0 := w) w.heap.size rfl (.tmp 86) (.tmp 88) 39 2 (.int .i64 0) 8 rfl Try.underlying39 info2 rfl (by decide) (by omega) u14 x14_3 (wrap64 (-(rd (rd_L1 t345 t359) (ji40)))) [.int .i64 (wrap64 (-(rd (rd_L1 t345 t359) (ji40))))] (fun _ => True) (fun _ => False) rfl rfl ?aP (fun _ hk => hk.elim) ?aF ?aO ?aB ?aS ?aL ?_; (case aP => exact rfl); (case aB => exact (bb_ HB.out)); (case aF => exact (fun _ _ => trivial)); (case aO => exact (rk_ HO_14.out)); (case aS => exact (below_size (bb_ HB.out))); (case aL => have := LMc45.out; omega); intro v365 w47 ho hb hg hat; rw [← Ny364.out] at ho; have n0_ := am_ (Kd.S_after (ok := (fun k_ => some k_ ≠ (u350001 : Value).ownBlock)) (by (with_reducible repeat (first | apply Kd.S_alloc | apply Kd.S_drewN | apply Kd.S_drew)); exact Kd.S_mono HO_8.out (fun _ hk => ⟨hk.2, hk.1⟩)) hg hat); have n1_ := am_ (Kd.S_after (ok := (fun k_ => some k_ ≠ (.slice (some ad360) t345.length co46 : Value).ownBlock)) (by (with_reducible repeat (first | apply Kd.S_alloc | apply Kd.S_drewN | apply Kd.S_drew)); exact HO_350001.out) hg hat); have n2_ := am_ (blk_grown (g := gb341) (o := .cells #[.int .i64 a0_0, .slice (some ad351) l0_1.length c0_1] 28 (0, 0)) (bk_ BK341.out) hg (Kd.R_ne HO_14.out BK341.out (by decide))); have n3_ := am_ (blk_grown (g := gb342) (o := .cells #[.int .i64 0, .slice none 0 0] 28 (0, 0)) (bk_ BK342.out) hg (Kd.R_ne HO_14.out BK342.out (by decide))); have n4_ := am_ (blk_grown (g := gb349) (o := .cells #[.int .i64 t346, u350001] 28 (0, 0)) (bk_ BK349.out) hg (Kd.R_ne HO_14.out BK349.out (by decide))); have n5_ := am_ (Kd.R_after (ok := (fun k_ => some k_ ≠ (.slice (some ad360) t345.length co46 : Value).ownBlock ∧ some k_ ≠ (u350001 : Value).ownBlock)) (rm_ HL360_0.out (fun _ hk => ⟨⟨hk.2, hk.1.2⟩, hk.1.1⟩)) hg hat); have n6_ := am_ (Kd.R_after (ok := (fun k_ => some k_ ≠ (.slice (some ad360) t345.length co46 : Value).ownBlock ∧ some k_ ≠ (u350001 : Value).ownBlock)) (rm_ HL362_0.out (fun _ hk => ⟨⟨hk.2, hk.1.2⟩, hk.1.1⟩)) hg hat); have n7_ := am_ (hb); have n8_ := am_ (ho); clear HO_8 HO_350001 BK341 BK342 BK349 HL360_0 HL362_0 HB HO_14; revert n0_ n1_ n2_ n3_ n4_ n5_ n6_ n7_ n8_; intro HO_8 HO_350001 BK341 BK342 BK349 HL360_0 HL362_0 HB HO366; clear ho hb hg hat))
                           go_roundg k3
                           case measure => have := HK1.out; have := HK2.out; have := HK3.out; omega
                           case rel => exact ⟨(y364), (t359), (wrap64 (x55_3 + 1)), (by first | rfl | (simp; done) | (simp [*]; done)), (by first | rfl | (simp; done) | (simp [*]; done)), H', ⟨by have := HK1.out; have := HK2.out; have := HK3.out; omega⟩, ⟨by (with_reducible repeat (first | apply Kd.S_alloc | apply Kd.S_drewN | apply Kd.S_drew)); exact Kd.S_mono HO_8.out (fun _ hk => ⟨hk.2, hk.1⟩)⟩, ⟨rk_ HO366.out⟩, ⟨by (with_reducible repeat (first | apply Kd.S_alloc | apply Kd.S_drewN | apply Kd.S_drew)); exact HO_350001.out⟩, ⟨bk_ BK341.out⟩, ⟨bk_ BK342.out⟩, ⟨bk_ BK349.out⟩, ⟨bb_ HB.out⟩⟩
                          ·rw [if_neg c45] at H
                           exact absurd H (by simp)
                        ·rw [if_neg c42] at H
                         exact absurd H (by simp)
                       ·rw [if_neg c41] at H
                        exact absurd H (by simp)
                      ·rw [if_neg c39] at H
                       exact absurd H (by simp)
                     ·rw [if_neg c38] at H
                      exact absurd H (by simp)
                    ·rw [if_neg c37] at H
                     have c37b0 : decide ((rd (rd_L1 l0_1 x48_2) x55_3) < 0) = false := decide_eq_false c37
                     clear c37
                     by_cases c48 : (rd (rd_L1 t345 x15_3) (ji34)) = 0
                     ·rw [if_pos c48] at H
                      have c48b0 : ((rd (rd_L1 t345 x15_3) (ji34)) == 0) = true := beq_iff_eq.mpr c48
                      have c48b1 : ((rd (rd_L1 t345 x15_3) (ji34)) != 0) = false := bne_eq_false_iff_eq.mpr c48
                      clear c48
                      have H' := am_ H
                      clear H
                      have p358 : 0 ≤ (x55_3 : Int) := of_decide_eq_true (by first | (with_reducible assumption) | assumption)
                      have q358 : x55_3 < ((rd_L1 l0_1 x48_2).length : Int) := of_decide_eq_true (by first | (with_reducible assumption) | assumption)
                      obtain ⟨ad358, e358, hx358_0⟩ := Kd.at_int HR351_0.out x55_3 p358 q358
                      cases e358
                      replace hx358_0 := (HB.out.cell (World.block_lt_of_cell? w _ hx358_0)).trans hx358_0
                      replace p358 := eq_true p358
                      replace q358 := eq_true q358
                      go_wp2_with (first | ((with_reducible refine gate_callee (f := 57) rfl ?_); refine goesL_ (some 62) rfl rfl Try.func57 (by kernel_rfl) rfl #[.slice A2 l2.length c2, .int .i64 (rd (rd_L1 l0_1 x48_2) x55_3), .int .i64 x15_3] rfl lm_ ?_; (with_reducible refine (impl_act.calls k3 _ _ l2 (rd (rd_L1 l0_1 x48_2) x55_3) x15_3 t359 _ ?side1 ?side2 A30.out).mono ?_); (case side1 => repeat (first | exact (Kd.C_below HR2.out HB.out) | (with_reducible refine Kd.C_alloc ?_ _) | (with_reducible refine Kd.C_drewN ?_ _) | (with_reducible refine Kd.C_drew ?_))); (case side2 => exact HC2.out); rintro e w' ⟨rfl, ⟨nd, rfl⟩⟩; refine ⟨_, rfl, ?_⟩; obtain ⟨Ao49, co49, eo49⟩ := Kd.S_slice HO_8.out; subst eo49; have p360 : 0 ≤ (x15_3 : Int) := of_decide_eq_true (by first | (with_reducible assumption) | assumption); have q360 : x15_3 < (t345.length : Int) := of_decide_eq_true (by first | (with_reducible assumption) | assumption); obtain ⟨ad360, A360_0, c360_0, e360, hx360_0, hl360_0, hi360_0⟩ := at_L1 (Kd.S_reads' HO_8.out).2.2 x15_3 p360 q360; cases e360; obtain ⟨ce360, hce360, hMe360, hcc360⟩ := Kd.S_get HO_8.out [] x15_3 p360 (by first | exact q360 | exact of_decide_eq_true (by first | (with_reducible assumption) | assumption) | (have e_ := (Kd.S_reads' HO_8.out).1; omega)); obtain ⟨ve360_0, rfl, ge360_0⟩ := hMe360; have hv360_0 := hcc360 0 _ rfl; rw [Nat.add_zero, show ((Kd.slice 2 (Kd.int .i64))).sz = 1 from rfl, Nat.mul_one] at hv360_0; replace hv360_0 := Option.some.inj (hv360_0.symm.trans hx360_0); rw [hv360_0] at ge360_0; have HL360_0 := am_ (show Kd.R (Kd.int .i64) 2 _ _ _ _ (rd_L1 t345 x15_3) from ge360_0); clear hv360_0 ge360_0; clear hcc360 hce360; have HR360_0 := am_ hi360_0; have HC360_0 := am_ hl360_0; clear hi360_0 hl360_0; replace p360 := eq_true p360; replace q360 := eq_true q360; have p361 : 0 ≤ ((ji34) : Int) := of_decide_eq_true (by first | (with_reducible assumption) | assumption); have q361 : (ji34) < ((rd_L1 t345 x15_3).length : Int) := of_decide_eq_true (by first | (with_reducible assumption) | assumption); obtain ⟨ad361, e361, hx361_0⟩ := Kd.at_int (by repeat (first | (with_reducible exact HR360_0.out) | (with_reducible refine Kd.C_alloc ?_ _) | (with_reducible refine Kd.C_drewN ?_ _) | (with_reducible refine Kd.C_drew ?_) | exact HR360_0.out)) (ji34) p361 q361; cases e361; replace p361 := eq_true p361; replace q361 := eq_true q361))
                      go_roundg k3
                      case measure => have := HK1.out; have := HK2.out; have := HK3.out; omega
                      case rel => exact ⟨(x14_3), (t359), (wrap64 (x55_3 + 1)), (by first | rfl | (simp; done) | (simp [*]; done)), (by first | rfl | (simp; done) | (simp [*]; done)), H', ⟨by have := HK1.out; have := HK2.out; have := HK3.out; omega⟩, ⟨by (with_reducible repeat (first | apply Kd.S_alloc | apply Kd.S_drewN | apply Kd.S_drew)); exact HO_8.out⟩, ⟨rk_ HO_14.out⟩, ⟨by (with_reducible repeat (first | apply Kd.S_alloc | apply Kd.S_drewN | apply Kd.S_drew)); exact HO_350001.out⟩, ⟨bk_ BK341.out⟩, ⟨bk_ BK342.out⟩, ⟨bk_ BK349.out⟩, ⟨bb_ HB.out⟩⟩
                     ·rw [if_neg c48] at H
                      have c48b0 : ((rd (rd_L1 t345 x15_3) (ji34)) == 0) = false := beq_eq_false_iff_ne.mpr c48
                      have c48b1 : ((rd (rd_L1 t345 x15_3) (ji34)) != 0) = true := bne_iff_ne.mpr c48
                      by_cases c50 : x14_3.length < 17592186044416
                      ·rw [if_pos c50] at H
                       have LMc50 := am_ c50
                       clear c50
                       obtain ⟨y367, hy367⟩ : ∃ y_ : List Int, y_ = (x14_3 ++ [rd (rd_L1 t345 x15_3) (ji34)]) := ⟨_, rfl⟩
                       replace H : (impl_StabilizerPresentation.l2 k3 l2 t345 x42_1 y367 t359 a1 x42_1 l0_1 (l0_1.length : Int) x48_2 (rd_L1 l0_1 x48_2) ((rd_L1 l0_1 x48_2).length : Int) (wrap64 (x55_3 + 1)) a0_0 l0_1 t346 x350001_2) = some (r1, r2, r3) := by first | (rw [hy367]; with_reducible exact H) | (have H2_ := (Option.bind_some _ _).symm.trans H; rw [hy367]; with_reducible exact H2_) | (have H2_ := (Option.bind_some _ _).symm.trans H; with_reducible exact H2_) | with_reducible exact H | (rw [hy367]; exact H) | exact H
                       have Ny367 := am_ hy367
                       clear hy367
                       have H' := am_ H
                       clear H
                       have p358 : 0 ≤ (x55_3 : Int) := of_decide_eq_true (by first | (with_reducible assumption) | assumption)
                       have q358 : x55_3 < ((rd_L1 l0_1 x48_2).length : Int) := of_decide_eq_true (by first | (with_reducible assumption) | assumption)
                       obtain ⟨ad358, e358, hx358_0⟩ := Kd.at_int HR351_0.out x55_3 p358 q358
                       cases e358
                       replace hx358_0 := (HB.out.cell (World.block_lt_of_cell? w _ hx358_0)).trans hx358_0
                       replace p358 := eq_true p358
                       replace q358 := eq_true q358
                       go_wp2_with (first | ((with_reducible refine gate_callee (f := 57) rfl ?_); refine goesL_ (some 62) rfl rfl Try.func57 (by kernel_rfl) rfl #[.slice A2 l2.length c2, .int .i64 (rd (rd_L1 l0_1 x48_2) x55_3), .int .i64 x15_3] rfl lm_ ?_; (with_reducible refine (impl_act.calls k3 _ _ l2 (rd (rd_L1 l0_1 x48_2) x55_3) x15_3 t359 _ ?side1 ?side2 A30.out).mono ?_); (case side1 => repeat (first | exact (Kd.C_below HR2.out HB.out) | (with_reducible refine Kd.C_alloc ?_ _) | (with_reducible refine Kd.C_drewN ?_ _) | (with_reducible refine Kd.C_drew ?_))); (case side2 => exact HC2.out); rintro e w' ⟨rfl, ⟨nd, rfl⟩⟩; refine ⟨_, rfl, ?_⟩; obtain ⟨Ao51, co51, eo51⟩ := Kd.S_slice HO_8.out; subst eo51; have p360 : 0 ≤ (x15_3 : Int) := of_decide_eq_true (by first | (with_reducible assumption) | assumption); have q360 : x15_3 < (t345.length : Int) := of_decide_eq_true (by first | (with_reducible assumption) | assumption); obtain ⟨ad360, A360_0, c360_0, e360, hx360_0, hl360_0, hi360_0⟩ := at_L1 (Kd.S_reads' HO_8.out).2.2 x15_3 p360 q360; cases e360; obtain ⟨ce360, hce360, hMe360, hcc360⟩ := Kd.S_get HO_8.out [] x15_3 p360 (by first | exact q360 | exact of_decide_eq_true (by first | (with_reducible assumption) | assumption) | (have e_ := (Kd.S_reads' HO_8.out).1; omega)); obtain ⟨ve360_0, rfl, ge360_0⟩ := hMe360; have hv360_0 := hcc360 0 _ rfl; rw [Nat.add_zero, show ((Kd.slice 2 (Kd.int .i64))).sz = 1 from rfl, Nat.mul_one] at hv360_0; replace hv360_0 := Option.some.inj (hv360_0.symm.trans hx360_0); rw [hv360_0] at ge360_0; have HL360_0 := am_ (show Kd.R (Kd.int .i64) 2 _ _ _ _ (rd_L1 t345 x15_3) from ge360_0); clear hv360_0 ge360_0; clear hcc360 hce360; have HR360_0 := am_ hi360_0; have HC360_0 := am_ hl360_0; clear hi360_0 hl360_0; replace p360 := eq_true p360; replace q360 := eq_true q360; have p361 : 0 ≤ ((ji34) : Int) := of_decide_eq_true (by first | (with_reducible assumption) | assumption); have q361 : (ji34) < ((rd_L1 t345 x15_3).length : Int) := of_decide_eq_true (by first | (with_reducible assumption) | assumption); obtain ⟨ad361, e361, hx361_0⟩ := Kd.at_int (by repeat (first | (with_reducible exact HR360_0.out) | (with_reducible refine Kd.C_alloc ?_ _) | (with_reducible refine Kd.C_drewN ?_ _) | (with_reducible refine Kd.C_drew ?_) | exact HR360_0.out)) (ji34) p361 q361; cases e361; replace p361 := eq_true p361; replace q361 := eq_true q361) | ((with_reducible refine gate_builtin (b := .append) (xs := #[.tmp 86, .tmp 88]) rfl ?_); at_builtin; refine Kd.R_append (Kd.int .i64) (w0 := w) w.heap.size rfl (.tmp 86) (.tmp 88) 39 2 (.int .i64 0) 8 rfl Try.underlying39 info2 rfl (by decide) (by omega) u14 x14_3 (rd (rd_L1 t345 x15_3) (ji34)) [.int .i64 (rd (rd_L1 t345 x15_3) (ji34))] (fun _ => True) (fun _ => False) rfl rfl ?aP (fun _ hk => hk.elim) ?aF ?aO ?aB ?aS ?aL ?_; (case aP => exact rfl); (case aB => exact (bb_ HB.out)); (case aF => exact (fun _ _ => trivial)); (case aO => exact (rk_ HO_14.out)); (case aS => exact (below_size (bb_ HB.out))); (case aL => have := LMc50.out; omega); intro v368 w52 ho hb hg hat; rw [← Ny367.out] at ho; have n0_ := am_ (Kd.S_after (ok := (fun k_ => some k_ ≠ (u350001 : Value).ownBlock)) (by (with_reducible repeat (first | apply Kd.S_alloc | apply Kd.S_drewN | apply Kd.S_drew)); exact Kd.S_mono HO_8.out (fun _ hk => ⟨hk.2, hk.1⟩)) hg hat); have n1_ := am_ (Kd.S_after (ok := (fun k_ => some k_ ≠ (.slice (some ad360) t345.length co51 : Value).ownBlock)) (by (with_reducible repeat (first | apply Kd.S_alloc | apply Kd.S_drewN | apply Kd.S_drew)); exact HO_350001.out) hg hat); have n2_ := am_ (blk_grown (g := gb341) (o := .cells #[.int .i64 a0_0, .slice (some ad351) l0_1.length c0_1] 28 (0, 0)) (bk_ BK341.out) hg (Kd.R_ne HO_14.out BK341.out (by decide))); have n3_ := am_ (blk_grown (g := gb342) (o := .cells #[.int .i64 0, .slice none 0 0] 28 (0, 0)) (bk_ BK342.out) hg (Kd.R_ne HO_14.out BK342.out (by decide))); have n4_ := am_ (blk_grown (g := gb349) (o := .cells #[.int .i64 t346, u350001] 28 (0, 0)) (bk_ BK349.out) hg (Kd.R_ne HO_14.out BK349.out (by decide))); have n5_ := am_ (Kd.R_after (ok := (fun k_ => some k_ ≠ (.slice (some ad360) t345.length co51 : Value).ownBlock ∧ some k_ ≠ (u350001 : Value).ownBlock)) (rm_ HL360_0.out (fun _ hk => ⟨⟨hk.2, hk.1.2⟩, hk.1.1⟩)) hg hat); have n6_ := am_ (hb); have n7_ := am_ (ho); clear HO_8 HO_350001 BK341 BK342 BK349 HL360_0 HB HO_14; revert n0_ n1_ n2_ n3_ n4_ n5_ n6_ n7_; intro HO_8 HO_350001 BK341 BK342 BK349 HL360_0 HB HO369; clear ho hb hg hat))
                       go_roundg k3
                       case measure => have := HK1.out; have := HK2.out; have := HK3.out; omega
                       case rel => exact ⟨(y367), (t359), (wrap64 (x55_3 + 1)), (by first | rfl | (simp; done) | (simp [*]; done)), (by first | rfl | (simp; done) | (simp [*]; done)), H', ⟨by have := HK1.out; have := HK2.out; have := HK3.out; omega⟩, ⟨by (with_reducible repeat (first | apply Kd.S_alloc | apply Kd.S_drewN | apply Kd.S_drew)); exact Kd.S_mono HO_8.out (fun _ hk => ⟨hk.2, hk.1⟩)⟩, ⟨rk_ HO369.out⟩, ⟨by (with_reducible repeat (first | apply Kd.S_alloc | apply Kd.S_drewN | apply Kd.S_drew)); exact HO_350001.out⟩, ⟨bk_ BK341.out⟩, ⟨bk_ BK342.out⟩, ⟨bk_ BK349.out⟩, ⟨bb_ HB.out⟩⟩
                      ·rw [if_neg c50] at H
                       exact absurd H (by simp)
                   ·rw [if_neg c36] at H
                    exact absurd H (by simp)
                  ·rw [if_neg c35] at H
                   exact absurd H (by simp)
                 ·rw [if_neg c32] at H
                  exact absurd H (by simp)
                ·rw [if_neg c31] at H
                 exact absurd H (by simp)
               ·rw [if_neg c29] at H
                exact absurd H (by simp)
              ·rw [if_neg c28] at H
               exact absurd H (by simp)
             ·rw [if_neg c27] at H
              have c27b0 : decide (x55_3 < ((rd_L1 l0_1 x48_2).length : Int)) = false := decide_eq_false c27
              clear c27
              replace H := Option.bind_eq_some_iff.mp H
              obtain ⟨t352, A530, H⟩ := H
              replace H : (if x350001_2.length < 5864062014805 then (impl_StabilizerPresentation.l1 k3 l2 t345 x42_1 a1 x42_1 l0_1 (l0_1.length : Int) (wrap64 (x48_2 + 1)) a0_0 l0_1 t346 (x350001_2 ++ [t352])) else (none)) = some (r1, r2, r3) := H
              have A53 := am_ A530
              clear A530
              by_cases c54 : x350001_2.length < 5864062014805
              ·rw [if_pos c54] at H
               have LMc54 := am_ c54
               clear c54
               obtain ⟨y355, hy355⟩ : ∃ y_ : List (List Int), y_ = (x350001_2 ++ [t352]) := ⟨_, rfl⟩
               replace H : (impl_StabilizerPresentation.l1 k3 l2 t345 x42_1 a1 x42_1 l0_1 (l0_1.length : Int) (wrap64 (x48_2 + 1)) a0_0 l0_1 t346 y355) = some (r1, r2, r3) := by first | (rw [hy355]; with_reducible exact H) | (have H2_ := (Option.bind_some _ _).symm.trans H; rw [hy355]; with_reducible exact H2_) | (have H2_ := (Option.bind_some _ _).symm.trans H; with_reducible exact H2_) | with_reducible exact H | (rw [hy355]; exact H) | exact H
               have Ny355 := am_ hy355
               clear hy355
               have H' := am_ H
               clear H
               try go_wp2
               have n0_ := am_ (Kd.S_drew HO_8.out)
               have n1_ := am_ (Kd.R_drew HO_14.out)
               have n2_ := am_ (Kd.S_drew HO_350001.out)
               have n3_ := am_ (blk_drew BK341.out)
               have n4_ := am_ (blk_drew BK342.out)
               have n5_ := am_ (blk_drew BK349.out)
               have n6_ := am_ (below_drew1 HB.out)
               clear HO_8 HO_14 HO_350001 BK341 BK342 BK349 HB; revert n0_ n1_ n2_ n3_ n4_ n5_ n6_; intro HO_8 HO_14 HO_350001 BK341 BK342 BK349 HB
               obtain ⟨Ao56, co56, eo56⟩ := Kd.R_slice HO_14.out
               (first | subst eo56 | (injection eo56 with f1_ f2_ f3_; have f4_ := f1_.symm; have f5_ := f3_.symm; clear f1_ f2_ f3_; subst f4_; subst f5_))
               refine start_ (n := 8) (S := fun w' => w'.cell? ⟨gb349, 0, none⟩ = some (.int .i64 t346) ∧ w'.cell? ⟨gb349, 1, none⟩ = some (u350001)) (ds := [7]) (bA_ 8 0) (by kernel_rfl) rfl (by kernel_rfl) ⟨bc_ BK349 0, bc_ BK349 1⟩ (fun hHeld => ?_); refine with_tabW impl_StabilizerPresentation.tab26 impl_StabilizerPresentation.bits26 (fun HT_ HW_ => ?_)
               generalize wr.drew = w55 at HO_8 HO_14 HO_350001 BK341 BK342 BK349 HB hHeld ⊢
               refine pz_ 0 92 (bA_ 8 1) HT_ ?_
               refine pz_ 2 94 (bA_ 8 5) HT_ ?_
               refine tz_ 1 93 (bA_ 8 7) HT_ HW_ hHeld ?_
               refine one_ (i := 3) (N := some 95) (bA_ 8 15) rfl rfl (one_of HT_.out (by kernel_rfl)) (by decide) (fun K hK => ?_)
               refine goes_ Try.func58 (by kernel_rfl) rfl #[.slice Ao56 x14_3.length co56] (by rfl) rfl rfl lm_ ?_
               with_reducible refine (impl_reduced.calls k3 _ _ x14_3 t352 _ ?side1 ?side2 A53.out).mono ?_
               (case side1 => repeat (first | exact (Kd.R_reads' HO_14.out).2.2 | (with_reducible refine Kd.C_alloc ?_ _) | (with_reducible refine Kd.C_drewN ?_ _) | (with_reducible refine Kd.C_drew ?_)))
               (case side2 => exact (Kd.R_reads' HO_14.out).2.1)
               rintro e w57 ⟨v353, rfl, ho0, hb⟩
               refine ⟨_, rfl, ?_⟩
               have n0_ := am_ (Kd.S_elder' (by (with_reducible repeat (first | apply Kd.S_alloc | apply Kd.S_drewN | apply Kd.S_drew)); exact HO_8.out) (Kd.R_base ho0) hb)
               have n1_ := am_ (Kd.R_elder' (rk_ HO_14.out) (Kd.R_base ho0) hb)
               have n2_ := am_ (Kd.S_elder' (by (with_reducible repeat (first | apply Kd.S_alloc | apply Kd.S_drewN | apply Kd.S_drew)); exact HO_350001.out) (Kd.R_base ho0) hb)
               have n3_ := am_ (Kd.R_lower (Kd.R_new' ho0 (Kd.R_lt (rk_ HO_14.out))) (below_size (bb_ HB.out)))
               have n4_ := am_ (bw_ BK341 hb)
               have n5_ := am_ (bw_ BK342 hb)
               have n6_ := am_ (bw_ BK349 hb)
               have n7_ := am_ (below_step (bb_ HB.out) hb)
               clear HO_8 HO_14 HO_350001 BK341 BK342 BK349 HB; revert n0_ n1_ n2_ n3_ n4_ n5_ n6_ n7_; intro HO_8 HO_14 HO_350001 HO354 BK341 BK342 BK349 HB
               (try clear hb)
               (try clear hb2)
               (try clear hk)
               (try clear hi)
               (try clear ho0)
               obtain ⟨Ao59, co59, eo59⟩ := Kd.R_slice HO354.out
               (first | subst eo59 | (injection eo59 with f1_ f2_ f3_; have f4_ := f1_.symm; have f5_ := f3_.symm; clear f1_ f2_ f3_; subst f4_; subst f5_))
               refine hK.out _ _ ⟨bc_ BK349 0, bc_ BK349 1⟩ (fun hHeld => ?_)
               clear hK K
               refine norm_ (a' := ?_) ?_ ?_
               rotate_left
               ·show Act.put _ (some 95) _ = _
                simp only [Act.put, List.setIfInBounds_toArray, List.set_cons_zero, List.set_cons_succ, i64_w, i32_w]
                rfl
               refine one_ (i := 4) (N := some 96) (bA_ 8 31) rfl rfl (one_of HT_.out (by kernel_rfl)) (by decide) (fun K hK => ?_)
               refine value_ (w1 := ?_) (v := ?_) (by rfl) rfl ?_ ?_
               rotate_left 2
               ·go_simp
                constructor
                ·rfl
                ·rfl
               refine hK.out _ _ ⟨(blk_cell (blk_alloc BK349.out _) 0).trans rfl, (blk_cell (blk_alloc BK349.out _) 1).trans rfl⟩ (fun hHeld => ?_)
               clear hK K
               refine norm_ (a' := ?_) ?_ ?_
               rotate_left
               ·show Act.put _ (some 96) _ = _
                simp only [Act.put, List.setIfInBounds_toArray, List.set_cons_zero, List.set_cons_succ, i64_w, i32_w]
                rfl
               refine one_ (i := 5) (N := some 97) (bA_ 8 63) rfl rfl (one_of HT_.out (by kernel_rfl)) (by decide) (fun K hK => ?_)
               refine Kd.S_append_step (Kd.slice 2 (Kd.int .i64)) (w0 := w) w.heap.size (by rfl) (.tmp 93) (.tmp 96) 22 39 (.slice none 0 0) 24 rfl Try.underlying22 info39 rfl (by decide) (by omega) u350001 x350001_2 t352 [.slice Ao59 t352.length co59] (fun k_ => some k_ ≠ (v347 : Value).ownBlock ∧ some k_ ≠ (.slice Ao56 x14_3.length co56 : Value).ownBlock) (fun k_ => some k_ = (.slice Ao59 t352.length co59 : Value).ownBlock) rfl rfl ?aP (fun k_ hk_ => ((Kd.R_mono (ok' := fun k_ => ((fun k_ => some k_ ≠ (v347 : Value).ownBlock ∧ some k_ ≠ (.slice Ao56 x14_3.length co56 : Value).ownBlock)) k_ ∧ some k_ ≠ (u350001 : Value).ownBlock) (Kd.R_apart' (Kd.R_apart' (HO354.out) (Kd.S_typed HO_8.out) (by decide)) (Kd.S_typed HO_350001.out) (by decide)) (fun k_ hk => ⟨⟨hk.1.2, hk.1.1.2⟩, hk.2⟩))).1 k_ hk_.symm) ?aF ?aO ?aB ?aS ?aL ?_
               (case aP => exact Kd.M_row (Kd.R_mono (Kd.R_tight rfl (Kd.R_mono (ok' := fun k_ => ((fun k_ => some k_ ≠ (v347 : Value).ownBlock ∧ some k_ ≠ (.slice Ao56 x14_3.length co56 : Value).ownBlock)) k_ ∧ some k_ ≠ (u350001 : Value).ownBlock) (Kd.R_apart' (Kd.R_apart' (HO354.out) (Kd.S_typed HO_8.out) (by decide)) (Kd.S_typed HO_350001.out) (by decide)) (fun k_ hk => ⟨⟨hk.1.2, hk.1.1.2⟩, hk.2⟩))) (fun _ h_ => h_)))
               (case aB => exact (bb_ HB.out))
               (case aF => exact (fun k_ hk => ⟨Kd.fresh' (Kd.S_lt (by (with_reducible repeat (first | apply Kd.S_alloc | apply Kd.S_drewN | apply Kd.S_drew)); exact HO_8.out)) k_ hk, Kd.fresh' (Kd.R_lt (rk_ HO_14.out)) k_ hk⟩))
               (case aO => exact (by (with_reducible repeat (first | apply Kd.S_alloc | apply Kd.S_drewN | apply Kd.S_drew)); exact Kd.S_mono HO_350001.out (fun k_ hk => ⟨⟨hk.1.1, hk.1.2⟩, fun e_ => hk.2 e_⟩)))
               (case aS => exact (below_size (bb_ HB.out)))
               (case aL => have := LMc54.out; omega)
               intro v356 w58 ho hb hg hat
               rw [← Ny355.out] at ho
               have n0_ := am_ (Kd.S_after (ok := (fun k_ => some k_ ≠ (.slice Ao56 x14_3.length co56 : Value).ownBlock ∧ some k_ ≠ (.slice Ao59 t352.length co59 : Value).ownBlock)) (by (with_reducible repeat (first | apply Kd.S_alloc | apply Kd.S_drewN | apply Kd.S_drew)); exact Kd.S_mono HO_8.out (fun _ hk => ⟨⟨hk.1.1, hk.2⟩, hk.1.2⟩)) hg hat)
               have n1_ := am_ (Kd.R_over' (rk_ HO_14.out) (Kd.S_typed (by (with_reducible repeat (first | apply Kd.S_alloc | apply Kd.S_drewN | apply Kd.S_drew)); exact HO_350001.out)) (by decide) hg)
               have n2_ := am_ (blk_grown (g := gb341) (o := .cells #[.int .i64 a0_0, .slice (some ad351) l0_1.length c0_1] 28 (0, 0)) (bk_ BK341.out) hg (Kd.S_ne HO_350001.out BK341.out (by decide)))
               have n3_ := am_ (blk_grown (g := gb342) (o := .cells #[.int .i64 0, .slice none 0 0] 28 (0, 0)) (bk_ BK342.out) hg (Kd.S_ne HO_350001.out BK342.out (by decide)))
               have n4_ := am_ (blk_grown (g := gb349) (o := .cells #[.int .i64 t346, u350001] 28 (0, 0)) (bk_ BK349.out) hg (Kd.S_ne HO_350001.out BK349.out (by decide)))
               have n5_ := am_ (hb)
               have n6_ := am_ (ho)
               clear HO_8 HO_14 BK341 BK342 BK349 HB HO_350001 HO354; revert n0_ n1_ n2_ n3_ n4_ n5_ n6_; intro HO_8 HO_14 BK341 BK342 BK349 HB HO357
               clear ho hb hg hat
               obtain ⟨Ao60, co60, eo60⟩ := Kd.S_slice HO357.out
               (first | subst eo60 | (injection eo60 with f1_ f2_ f3_; have f4_ := f1_.symm; have f5_ := f3_.symm; clear f1_ f2_ f3_; subst f4_; subst f5_))
               refine hK.out _ _ ⟨bc_ BK349 0, bc_ BK349 1⟩ (fun hHeld => ?_)
               clear hK K
               refine norm_ (a' := ?_) ?_ ?_
               rotate_left
               ·show Act.put _ (some 97) _ = _
                simp only [Act.put, List.setIfInBounds_toArray, List.set_cons_zero, List.set_cons_succ, i64_w, i32_w]
                rfl
               refine pz_ 6 98 (bA_ 8 127) HT_ ?_
               refine last_ (i := 7) (N := none) (bA_ 8 255) rfl rfl (one_of HT_.out (by kernel_rfl)) (by decide) (fun K hK => ?_)
               have hs61 : w58.cell? ⟨gb349, 1, none⟩ = some (u350001) := bc_ BK349 1
               have hfs61 := blk_frozen BK349.out 1
               have hns61_0 := NB341_349.out
               have hns61_1 := NB342_349.out
               have hms61_0 := NB349_341.out
               have hms61_1 := NB349_342.out
               refine skip_ (w1 := ?_) (by rfl) rfl ?_ ?_
               rotate_left
               ·go_simp
                rfl
               refine hK.out _ _ ?_
               clear hK K
               refine done_ (done_of HT_.out (by kernel_rfl)) ?_
               try go_wp2
               go_roundg k3
               case measure => have := HK1.out; have := HK2.out; have := HK3.out; omega
               case rel => exact ⟨(wrap64 (x48_2 + 1)), (y355), (.slice Ao60 y355.length co60), (by first | rfl | (simp; done) | (simp [*]; done)), H', ⟨by have := HK1.out; have := HK2.out; have := HK3.out; omega⟩, ⟨by (with_reducible repeat (first | apply Kd.S_alloc | apply Kd.S_drewN | apply Kd.S_drew)); exact Kd.S_mono (Kd.S_far (p := ⟨gb349, 1, none⟩) (Kd.S_types HO_8.out BK349.out (by decide)) (fun _ hk => hk.2) (.slice Ao60 y355.length co60)) (fun _ hk => hk.1.2)⟩, ⟨by (with_reducible repeat (first | apply Kd.S_alloc | apply Kd.S_drewN | apply Kd.S_drew)); exact Kd.S_mono (Kd.S_far (p := ⟨gb349, 1, none⟩) (Kd.S_types HO357.out BK349.out (by decide)) (fun _ hk => hk.2) (.slice Ao60 y355.length co60)) (fun _ hk => hk.1.1)⟩, ⟨bk_ BK341.out⟩, ⟨bk_ BK342.out⟩, ⟨by (with_reducible repeat (first | refine blk_drewN ?_ _ | refine blk_drew ?_ | refine blk_alloc ?_ _)); refine blk_put (cs := #[.int .i64 t346, u350001]) ?_ 1 _ rfl; (with_reducible repeat (first | refine blk_drewN ?_ _ | refine blk_drew ?_ | refine blk_alloc ?_ _)); exact BK349.out⟩, ⟨bb_ HB.out⟩⟩
              ·rw [if_neg c54] at H
               exact absurd H (by simp)
          ·rw [if_neg c26] at H
           exact absurd H (by simp)
         ·rw [if_neg c25] at H
          exact absurd H (by simp)
        ·rw [if_neg c24] at H
         have c24b0 : decide (x48_2 < (l0_1.length : Int)) = false := decide_eq_false c24
         clear c24
         have H' := am_ H
         clear H
         go_wp2
         go_roundg k2
         case measure => have := HK1.out; have := HK2.out; omega
         case rel => exact ⟨(wrap64 (x42_1 + 1)), (x350001_2), (u350001), (by first | rfl | (simp; done) | (simp [*]; done)), H', ⟨by have := HK1.out; have := HK2.out; omega⟩, ⟨by (with_reducible repeat (first | apply Kd.S_alloc | apply Kd.S_drewN | apply Kd.S_drew)); exact HO_8.out⟩, ⟨by (with_reducible repeat (first | apply Kd.S_alloc | apply Kd.S_drewN | apply Kd.S_drew)); exact HO_350001.out⟩, ⟨bk_ BK341.out⟩, ⟨bk_ BK342.out⟩, ⟨bk_ BK349.out⟩, ⟨bb_ HB.out⟩⟩
     ·rw [if_neg c20] at H
      have c20b0 : decide (x42_1 < a1) = false := decide_eq_false c20
      clear c20
      replace H := Option.bind_eq_some_iff.mp H
      obtain ⟨t350, A620, H⟩ := H
      replace H : (if t350 = true then (some (t346, x350001_1, 0)) else (some (0, ([] : List (List Int)), 3))) = some (r1, r2, r3) := H
      have A62 := am_ A620
      clear A620
      by_cases c63 : t350 = true
      ·subst c63
       have H1 : (some (t346, x350001_1, 0)) = some (r1, r2, r3) := by rw [if_pos rfl] at H; exact H
       clear H
       have H := H1
       clear H1
       simp only [Option.some.injEq, Prod.mk.injEq] at H
       obtain ⟨rfl, rfl, rfl⟩ := H
       have hnb64 := NB349_341.out
       have hnc64 := NB341_349.out
       have hnb65 := NB349_342.out
       have hnc65 := NB342_349.out
       obtain ⟨hcz66_0, hcz66_1, hfz66_0, hfz66_1⟩ := bx2_ BK349
       obtain ⟨Ao67, co67, eo67⟩ := Kd.S_slice HO_350001.out
       subst eo67
       go_wp2_with (first | ((with_reducible refine gate_callee (f := 59) rfl ?_); refine goesL_ (some 102) rfl rfl Try.func59 (by kernel_rfl) rfl #[.agg #[.int .i64 t346, .slice Ao67 x350001_1.length co67]] rfl lm_ ?_; (with_reducible refine (impl_isPresentation.calls k1 t346 _ _ x350001_1 true _ ?side1 ?side2 A62.out).mono ?_); (case side1 => repeat (first | exact (Kd.S_reads' HO_350001.out).2.2 | (with_reducible refine Kd.C_alloc ?_ _) | (with_reducible refine Kd.C_drewN ?_ _) | (with_reducible refine Kd.C_drew ?_))); (case side2 => exact (Kd.S_reads' HO_350001.out).2.1); rintro e w68 ⟨rfl, hb⟩; refine ⟨_, rfl, ?_⟩; have n0_ := am_ (Kd.S_below (by (with_reducible repeat (first | apply Kd.S_alloc | apply Kd.S_drewN | apply Kd.S_drew)); exact HO_8.out) hb); have n1_ := am_ (Kd.S_below (by (with_reducible repeat (first | apply Kd.S_alloc | apply Kd.S_drewN | apply Kd.S_drew)); exact HO_350001.out) hb); have n2_ := am_ (bw_ BK341 hb); have n3_ := am_ (bw_ BK342 hb); have n4_ := am_ (bw_ BK349 hb); have n5_ := am_ (below_step (bb_ HB.out) hb); clear HO_8 HO_350001 BK341 BK342 BK349 HB; revert n0_ n1_ n2_ n3_ n4_ n5_; intro HO_8 HO_350001 BK341 BK342 BK349 HB; (try clear hb); (try clear hb2); (try clear hk); (try clear hi); obtain ⟨hcz69_0, hcz69_1, hfz69_0, hfz69_1⟩ := bx2_ BK349; have hnb70 := NB342_341.out; have hnc70 := NB341_342.out; obtain ⟨hcz71_0, hcz71_1, hfz71_0, hfz71_1⟩ := bx2_ BK342))
       refine bodyPost_ret (results_ct rfl _ _ gb342 28 #[.int .i64 t346, .slice Ao67 x350001_1.length co67] (0, 0) _ rfl (by (with_reducible repeat (first | refine blk_drewN ?_ _ | refine blk_drew ?_ | refine blk_alloc ?_ _)); refine blk_put (cs := #[.int .i64 t346, .slice none 0 0]) ?_ 1 _ rfl; (with_reducible repeat (first | refine blk_drewN ?_ _ | refine blk_drew ?_ | refine blk_alloc ?_ _)); refine blk_put (cs := #[.int .i64 0, .slice none 0 0]) ?_ 0 _ rfl; (with_reducible repeat (first | refine blk_drewN ?_ _ | refine blk_drew ?_ | refine blk_alloc ?_ _)); exact BK342.out) Try.underlying28 rfl (by kernel_rfl)) rfl ?_
       exact ⟨_, by first | rfl | (simp [errW_none, errW_some] <;> rfl) | (simp [*, errW_none, errW_some] <;> rfl), by (with_reducible repeat (first | apply Kd.S_alloc | apply Kd.S_drewN | apply Kd.S_drew)); exact Kd.S_mono (Kd.S_far (p := ⟨gb342, 1, none⟩) (Kd.S_far (p := ⟨gb342, 0, none⟩) (Kd.S_types HO_350001.out BK342.out (by decide)) (fun _ hk => hk.2) (.int .i64 t346)) (fun _ hk => hk.2) (.slice Ao67 x350001_1.length co67)) (fun _ hk => trivial), bb_ HB.out⟩
      ·replace c63 := Bool.eq_false_iff.mpr c63
       subst c63
       have H1 : (some (0, ([] : List (List Int)), 3)) = some (r1, r2, r3) := by rw [if_neg (show ¬ (false = true) by decide)] at H; exact H
       clear H
       have H := H1
       clear H1
       simp only [Option.some.injEq, Prod.mk.injEq] at H
       obtain ⟨rfl, rfl, rfl⟩ := H
       have hnb72 := NB349_341.out
       have hnc72 := NB341_349.out
       have hnb73 := NB349_342.out
       have hnc73 := NB342_349.out
       obtain ⟨hcz74_0, hcz74_1, hfz74_0, hfz74_1⟩ := bx2_ BK349
       obtain ⟨Ao75, co75, eo75⟩ := Kd.S_slice HO_350001.out
       subst eo75
       go_wp2_with (first | ((with_reducible refine gate_callee (f := 59) rfl ?_); refine goesL_ (some 102) rfl rfl Try.func59 (by kernel_rfl) rfl #[.agg #[.int .i64 t346, .slice Ao75 x350001_1.length co75]] rfl lm_ ?_; (with_reducible refine (impl_isPresentation.calls k1 t346 _ _ x350001_1 false _ ?side1 ?side2 A62.out).mono ?_); (case side1 => repeat (first | exact (Kd.S_reads' HO_350001.out).2.2 | (with_reducible refine Kd.C_alloc ?_ _) | (with_reducible refine Kd.C_drewN ?_ _) | (with_reducible refine Kd.C_drew ?_))); (case side2 => exact (Kd.S_reads' HO_350001.out).2.1); rintro e w76 ⟨rfl, hb⟩; refine ⟨_, rfl, ?_⟩; have n0_ := am_ (Kd.S_below (by (with_reducible repeat (first | apply Kd.S_alloc | apply Kd.S_drewN | apply Kd.S_drew)); exact HO_8.out) hb); have n1_ := am_ (Kd.S_below (by (with_reducible repeat (first | apply Kd.S_alloc | apply Kd.S_drewN | apply Kd.S_drew)); exact HO_350001.out) hb); have n2_ := am_ (bw_ BK341 hb); have n3_ := am_ (bw_ BK342 hb); have n4_ := am_ (bw_ BK349 hb); have n5_ := am_ (below_step (bb_ HB.out) hb); clear HO_8 HO_350001 BK341 BK342 BK349 HB; revert n0_ n1_ n2_ n3_ n4_ n5_; intro HO_8 HO_350001 BK341 BK342 BK349 HB; (try clear hb); (try clear hb2); (try clear hk); (try clear hi); have hnb77 := NB342_341.out; have hnc77 := NB341_342.out; obtain ⟨hcz78_0, hcz78_1, hfz78_0, hfz78_1⟩ := bx2_ BK342))
       refine bodyPost_ret (results_ct rfl _ _ gb342 28 #[.int .i64 0, .slice none 0 0] (0, 0) _ rfl (by (with_reducible repeat (first | refine blk_drewN ?_ _ | refine blk_drew ?_ | refine blk_alloc ?_ _)); refine blk_put (cs := #[.int .i64 0, .slice none 0 0]) ?_ 1 _ rfl; (with_reducible repeat (first | refine blk_drewN ?_ _ | refine blk_drew ?_ | refine blk_alloc ?_ _)); refine blk_put (cs := #[.int .i64 0, .slice none 0 0]) ?_ 0 _ rfl; (with_reducible repeat (first | refine blk_drewN ?_ _ | refine blk_drew ?_ | refine blk_alloc ?_ _)); exact BK342.out) Try.underlying28 rfl (by kernel_rfl)) rfl ?_
       exact ⟨_, by first | rfl | (simp [errW_none, errW_some] <;> rfl) | (simp [*, errW_none, errW_some] <;> rfl), by first | exact Kd.S_nil _ _ _ _ _ | exact Kd.N_nil _ _ _ _ _ | exact Kd.V_nil _ _ _ _ _ | exact Kd.Q_nil _ _ _ _ _ | exact Kd.R_nil _ _ _ _ _, bb_ HB.out⟩
  ·replace c7 := Bool.eq_false_iff.mpr c7
   subst c7
   have H1 : (some (0, ([] : List (List Int)), 5)) = some (r1, r2, r3) := by rw [if_neg (show ¬ (false = true) by decide)] at H; exact H
   clear H
   have H := H1
   clear H1
   simp only [Option.some.injEq, Prod.mk.injEq] at H
   obtain ⟨rfl, rfl, rfl⟩ := H
   go_enter Try.func20, Try.ntmps20
   go_wp2_with (first | ((with_reducible refine gate_dst (N := 3) rfl ?_); refine box_event ?hg (N := 3) ?hd (cs := #[.int .i64 a0_0, .slice A0_1 l0_1.length c0_1]) (t := 28) ?hr ?_; (case hd => rfl); (case hg => rfl); (case hr => first | (go_simp; done) | (go_simp; rfl)); intro gb341 hg w79 hbox hb; have n0_ := am_ (below_step (bb_ HB.out) hb); have n1_ := am_ (hbox); have n2_ := am_ ((by rw [hg]; exact (below_size (bb_ HB.out)) : w.heap.size ≤ gb341)); have n3_ := am_ ((by rw [hg]; exact (below_size (bb_ HB.out)) : w.heap.size ≤ gb341)); clear HB; revert n0_ n1_ n2_ n3_; intro HB BK341 GW341 GE341; clear hb hbox hg) | ((with_reducible refine gate_dst (N := 6) rfl ?_); refine box_event ?hg (N := 6) ?hd (cs := #[.int .i64 0, .slice none 0 0]) (t := 28) ?hr ?_; (case hd => rfl); (case hg => rfl); (case hr => first | (go_simp; done) | (go_simp; rfl)); intro gb342 hg w80 hbox hb; have n0_ := am_ (bw_ BK341 hb); have n1_ := am_ (below_step (bb_ HB.out) hb); have n2_ := am_ (hbox); have n3_ := am_ ((by rw [hg]; exact (below_size (bb_ HB.out)) : w.heap.size ≤ gb342)); have n4_ := am_ ((by rw [hg]; exact (below_size (bb_ HB.out)) : w.heap.size ≤ gb342)); have n5_ := am_ (nl_ BK341 hg); have n6_ := am_ (ng_ BK341 hg); clear BK341 HB; revert n0_ n1_ n2_ n3_ n4_ n5_ n6_; intro BK341 HB BK342 GW342 GE342 NB341_342 NB342_341; clear hb hbox hg; have hnb81 := NB341_342.out; have hnc81 := NB342_341.out; obtain ⟨hcz82_0, hcz82_1, hfz82_0, hfz82_1⟩ := bx2_ BK341) | ((with_reducible refine gate_callee (f := 54) rfl ?_); refine goesL_ (some 24) rfl rfl Try.func54 (by kernel_rfl) rfl #[.agg #[.int .i64 a0_0, .slice A0_1 l0_1.length c0_1], .int .i64 a1, .slice A2 l2.length c2] rfl lm_ ?_; (with_reducible refine (impl_IsRepresentation.calls k a0_0 _ _ l0_1 a1 _ _ l2 true _ ?side1 ?side2 ?side3 ?side4 A4.out).mono ?_); (case side1 => repeat (first | exact (Kd.C_below HR0_1.out HB.out) | (with_reducible refine Kd.C_alloc ?_ _) | (with_reducible refine Kd.C_drewN ?_ _) | (with_reducible refine Kd.C_drew ?_))); (case side2 => exact HC0_1.out); (case side3 => repeat (first | exact (Kd.C_below HR2.out HB.out) | (with_reducible refine Kd.C_alloc ?_ _) | (with_reducible refine Kd.C_drewN ?_ _) | (with_reducible refine Kd.C_drew ?_))); (case side4 => exact HC2.out); rintro e w83 ⟨rfl, hb⟩; refine ⟨_, rfl, ?_⟩; have n0_ := am_ (bw_ BK341 hb); have n1_ := am_ (bw_ BK342 hb); have n2_ := am_ (below_step (bb_ HB.out) hb); clear BK341 BK342 HB; revert n0_ n1_ n2_; intro BK341 BK342 HB; (try clear hb); (try clear hb2); (try clear hk); (try clear hi)) | ((with_reducible refine gate_callee (f := 55) rfl ?_); refine goesL_ (some 30) rfl rfl Try.func55 (by kernel_rfl) rfl #[.int .i64 a1, .slice A2 l2.length c2] rfl lm_ ?_; (with_reducible refine (impl_isTransitive.calls k a1 _ _ l2 false _ ?side1 ?side2 A6.out).mono ?_); (case side1 => repeat (first | exact (Kd.C_below HR2.out HB.out) | (with_reducible refine Kd.C_alloc ?_ _) | (with_reducible refine Kd.C_drewN ?_ _) | (with_reducible refine Kd.C_drew ?_))); (case side2 => exact HC2.out); rintro e w84 ⟨rfl, hb⟩; refine ⟨_, rfl, ?_⟩; have n0_ := am_ (bw_ BK341 hb); have n1_ := am_ (bw_ BK342 hb); have n2_ := am_ (below_step (bb_ HB.out) hb); clear BK341 BK342 HB; revert n0_ n1_ n2_; intro BK341 BK342 HB; (try clear hb); (try clear hb2); (try clear hk); (try clear hi); obtain ⟨hcz85_0, hcz85_1, hfz85_0, hfz85_1⟩ := bx2_ BK342))
   refine bodyPost_ret (results_ct rfl _ _ gb342 28 #[.int .i64 0, .slice none 0 0] (0, 0) _ rfl (by (with_reducible repeat (first | refine blk_drewN ?_ _ | refine blk_drew ?_ | refine blk_alloc ?_ _)); refine blk_put (cs := #[.int .i64 0, .slice none 0 0]) ?_ 1 _ rfl; (with_reducible repeat (first | refine blk_drewN ?_ _ | refine blk_drew ?_ | refine blk_alloc ?_ _)); refine blk_put (cs := #[.int .i64 0, .slice none 0 0]) ?_ 0 _ rfl; (with_reducible repeat (first | refine blk_drewN ?_ _ | refine blk_drew ?_ | refine blk_alloc ?_ _)); exact BK342.out) Try.underlying28 rfl (by kernel_rfl)) rfl ?_
   exact ⟨_, by first | rfl | (simp [errW_none, errW_some] <;> rfl) | (simp [*, errW_none, errW_some] <;> rfl), by first | exact Kd.S_nil _ _ _ _ _ | exact Kd.N_nil _ _ _ _ _ | exact Kd.V_nil _ _ _ _ _ | exact Kd.Q_nil _ _ _ _ _ | exact Kd.R_nil _ _ _ _ _, bb_ HB.out⟩
 ·replace c5 := Bool.eq_false_iff.mpr c5
  subst c5
  have H1 : (some (0, ([] : List (List Int)), 1)) = some (r1, r2, r3) := by rw [if_neg (show ¬ (false = true) by decide)] at H; exact H
  clear H
  have H := H1
  clear H1
  simp only [Option.some.injEq, Prod.mk.injEq] at H
  obtain ⟨rfl, rfl, rfl⟩ := H
  go_enter Try.func20, Try.ntmps20
  go_wp2_with (first | ((with_reducible refine gate_dst (N := 3) rfl ?_); refine box_event ?hg (N := 3) ?hd (cs := #[.int .i64 a0_0, .slice A0_1 l0_1.length c0_1]) (t := 28) ?hr ?_; (case hd => rfl); (case hg => rfl); (case hr => first | (go_simp; done) | (go_simp; rfl)); intro gb341 hg w86 hbox hb; have n0_ := am_ (below_step (bb_ HB.out) hb); have n1_ := am_ (hbox); have n2_ := am_ ((by rw [hg]; exact (below_size (bb_ HB.out)) : w.heap.size ≤ gb341)); have n3_ := am_ ((by rw [hg]; exact (below_size (bb_ HB.out)) : w.heap.size ≤ gb341)); clear HB; revert n0_ n1_ n2_ n3_; intro HB BK341 GW341 GE341; clear hb hbox hg) | ((with_reducible refine gate_dst (N := 6) rfl ?_); refine box_event ?hg (N := 6) ?hd (cs := #[.int .i64 0, .slice none 0 0]) (t := 28) ?hr ?_; (case hd => rfl); (case hg => rfl); (case hr => first | (go_simp; done) | (go_simp; rfl)); intro gb342 hg w87 hbox hb; have n0_ := am_ (bw_ BK341 hb); have n1_ := am_ (below_step (bb_ HB.out) hb); have n2_ := am_ (hbox); have n3_ := am_ ((by rw [hg]; exact (below_size (bb_ HB.out)) : w.heap.size ≤ gb342)); have n4_ := am_ ((by rw [hg]; exact (below_size (bb_ HB.out)) : w.heap.size ≤ gb342)); have n5_ := am_ (nl_ BK341 hg); have n6_ := am_ (ng_ BK341 hg); clear BK341 HB; revert n0_ n1_ n2_ n3_ n4_ n5_ n6_; intro BK341 HB BK342 GW342 GE342 NB341_342 NB342_341; clear hb hbox hg; have hnb88 := NB341_342.out; have hnc88 := NB342_341.out; obtain ⟨hcz89_0, hcz89_1, hfz89_0, hfz89_1⟩ := bx2_ BK341) | ((with_reducible refine gate_callee (f := 54) rfl ?_); refine goesL_ (some 24) rfl rfl Try.func54 (by kernel_rfl) rfl #[.agg #[.int .i64 a0_0, .slice A0_1 l0_1.length c0_1], .int .i64 a1, .slice A2 l2.length c2] rfl lm_ ?_; (with_reducible refine (impl_IsRepresentation.calls k a0_0 _ _ l0_1 a1 _ _ l2 false _ ?side1 ?side2 ?side3 ?side4 A4.out).mono ?_); (case side1 => repeat (first | exact (Kd.C_below HR0_1.out HB.out) | (with_reducible refine Kd.C_alloc ?_ _) | (with_reducible refine Kd.C_drewN ?_ _) | (with_reducible refine Kd.C_drew ?_))); (case side2 => exact HC0_1.out); (case side3 => repeat (first | exact (Kd.C_below HR2.out HB.out) | (with_reducible refine Kd.C_alloc ?_ _) | (with_reducible refine Kd.C_drewN ?_ _) | (with_reducible refine Kd.C_drew ?_))); (case side4 => exact HC2.out); rintro e w90 ⟨rfl, hb⟩; refine ⟨_, rfl, ?_⟩; have n0_ := am_ (bw_ BK341 hb); have n1_ := am_ (bw_ BK342 hb); have n2_ := am_ (below_step (bb_ HB.out) hb); clear BK341 BK342 HB; revert n0_ n1_ n2_; intro BK341 BK342 HB; (try clear hb); (try clear hb2); (try clear hk); (try clear hi); obtain ⟨hcz91_0, hcz91_1, hfz91_0, hfz91_1⟩ := bx2_ BK342))
  refine bodyPost_ret (results_ct rfl _ _ gb342 28 #[.int .i64 0, .slice none 0 0] (0, 0) _ rfl (by (with_reducible repeat (first | refine blk_drewN ?_ _ | refine blk_drew ?_ | refine blk_alloc ?_ _)); refine blk_put (cs := #[.int .i64 0, .slice none 0 0]) ?_ 1 _ rfl; (with_reducible repeat (first | refine blk_drewN ?_ _ | refine blk_drew ?_ | refine blk_alloc ?_ _)); refine blk_put (cs := #[.int .i64 0, .slice none 0 0]) ?_ 0 _ rfl; (with_reducible repeat (first | refine blk_drewN ?_ _ | refine blk_drew ?_ | refine blk_alloc ?_ _)); exact BK342.out) Try.underlying28 rfl (by kernel_rfl)) rfl ?_
  exact ⟨_, by first | rfl | (simp [errW_none, errW_some] <;> rfl) | (simp [*, errW_none, errW_some] <;> rfl), by first | exact Kd.S_nil _ _ _ _ _ | exact Kd.N_nil _ _ _ _ _ | exact Kd.V_nil _ _ _ _ _ | exact Kd.Q_nil _ _ _ _ _ | exact Kd.R_nil _ _ _ _ _, bb_ HB.out⟩

/-! ### laws_heldInt64S: function 47 -/
def laws_heldInt64S.l0 : Nat → List Int → Int → Int → Option (Int)
  | 0, _, _, _ => none
  | k + 1, x0, x1, x5 => if x5 < (x0.length : Int) then (if 0 ≤ x5 then (if (rd x0 x5) = x1 then (laws_heldInt64S.l0 k x0 (wrap64 (x1 + 1)) (wrap64 (x5 + 1))) else (some (-1))) else (none)) else (some x1)
def laws_heldInt64S.f (k : Nat) (l0 : List Int) (a1 : Int) : Option (Int) := laws_heldInt64S.l0 k l0 a1 0
theorem laws_heldInt64S.mono_l : ∀ k, (∀ y0 y1 y2, LeO (laws_heldInt64S.l0 k y0 y1 y2) (laws_heldInt64S.l0 (k + 1) y0 y1 y2))
  | 0 => fun _ _ _ r h => by simp [laws_heldInt64S.l0] at h
  | k + 1 => by
    have ih0 := laws_heldInt64S.mono_l k
    · intro y0 y1 y2
      unfold laws_heldInt64S.l0
      repeat' first
      | (with_reducible exact ih0 _ _ _)
      | (with_reducible exact LeO.refl _)
      | (with_reducible exact LeO.none _)
      | (with_reducible refine LeO.ite ?_ ?_)
      | (with_reducible refine LeO.bind ?_ (fun _ => ?_))
      | exact ih0 _ _ _
      | exact LeO.none _
      | refine LeO.ite ?_ ?_
      | refine LeO.bind ?_ (fun _ => ?_)
theorem laws_heldInt64S.mono : ∀ a0 a1 k, LeO (laws_heldInt64S.f k a0 a1) (laws_heldInt64S.f (k + 1) a0 a1) := by
  intro a0 a1 k
  have ih0 := laws_heldInt64S.mono_l k
  unfold laws_heldInt64S.f
  repeat' first
      | (with_reducible exact ih0 _ _ _)
      | (with_reducible exact LeO.refl _)
      | (with_reducible exact LeO.none _)
      | (with_reducible refine LeO.ite ?_ ?_)
      | (with_reducible refine LeO.bind ?_ (fun _ => ?_))
      | exact ih0 _ _ _
      | exact LeO.none _
      | refine LeO.ite ?_ ?_
      | refine LeO.bind ?_ (fun _ => ?_)
set_option maxHeartbeats 8000000 in
set_option maxRecDepth 100000 in
theorem laws_heldInt64S.calls (k : Nat) (A0 : Option Addr) (c0 : Nat) (l0 : List Int) (a1 : Int) (r : Int) (w : World) (hr0 : Kd.C (Kd.int .i64) w A0 l0.length l0) (hc0 : l0.length ≤ c0) (h : laws_heldInt64S.f k l0 a1 = some r) :
    Calls Try.prog 47 #[.slice A0 l0.length c0, .int .i64 a1] w fun e w' => e = .returned (.int .i64 r) ∧ Drawn0 w w' := by
  have HR0 := Aside0.mk hr0
  have HC0 := Aside0.mk hc0
  clear hr0 hc0
  have H : (laws_heldInt64S.l0 k l0 a1 0) = some r := h
  clear h
  have H' := Aside0.mk H
  clear H
  go_enter Try.func47, Try.ntmps47
  go_wp2
  go_loopg [1, 5] k (fun kq v1 v5 w' => ∃ (x1_1 : Int) (x5_1 : Int), v1 = .int .i64 x1_1 ∧ v5 = .int .i64 x5_1 ∧ Aside0 (laws_heldInt64S.l0 kq l0 x1_1 x5_1 = some r) ∧ Aside0 (kq ≤ k) ∧ Drawn0 w w')
  case atStart => exact ⟨(a1), (0), (by first | rfl | (simp; done) | (simp [*]; done)), (by first | rfl | (simp; done) | (simp [*]; done)), H', ⟨Nat.le_refl _⟩, by repeat (first | exact Drawn0.refl _ | apply Drawn0.step)⟩
  case round =>
    clear H'
    try clear p2
    obtain ⟨x1_1, x5_1, rfl, rfl, HA, HK1, ⟨m1, rfl⟩⟩ := hrel
    cases gk with
    | zero => exact absurd HA.out (by simp [laws_heldInt64S.l0])
    | succ k1 =>
      have H := HA.out
      clear HA
      simp only [laws_heldInt64S.l0] at H
      by_cases c3 : x5_1 < (l0.length : Int)
      · rw [if_pos c3] at H
        have c3b0 : decide (x5_1 < (l0.length : Int)) = true := decide_eq_true c3
        clear c3
        by_cases c4 : 0 ≤ x5_1
        · rw [if_pos c4] at H
          have c4b0 : decide (0 ≤ x5_1) = true := decide_eq_true c4
          clear c4
          by_cases c5 : (rd l0 x5_1) = x1_1
          · rw [if_pos c5] at H
            have c5b0 : ((rd l0 x5_1) == x1_1) = true := beq_iff_eq.mpr c5
            have c5b1 : ((rd l0 x5_1) != x1_1) = false := bne_eq_false_iff_eq.mpr c5
            clear c5
            have H' := Aside0.mk H
            clear H
            have p370 : 0 ≤ (x5_1 : Int) := of_decide_eq_true (by first | (with_reducible assumption) | assumption)
            have q370 : x5_1 < (l0.length : Int) := of_decide_eq_true (by first | (with_reducible assumption) | assumption)
            obtain ⟨ad370, e370, hx370_0⟩ := Kd.at_int HR0.out x5_1 p370 q370
            cases e370
            replace p370 := eq_true p370
            replace q370 := eq_true q370
            go_wp2
            go_roundg k1
            case measure => have := HK1.out; omega
            case rel => exact ⟨(wrap64 (x1_1 + 1)), (wrap64 (x5_1 + 1)), (by first | rfl | (simp; done) | (simp [*]; done)), (by first | rfl | (simp; done) | (simp [*]; done)), H', ⟨by have := HK1.out; omega⟩, by repeat (first | exact Drawn0.refl _ | apply Drawn0.step)⟩
          · rw [if_neg c5] at H
            have c5b0 : ((rd l0 x5_1) == x1_1) = false := beq_eq_false_iff_ne.mpr c5
            have c5b1 : ((rd l0 x5_1) != x1_1) = true := bne_iff_ne.mpr c5
            obtain rfl := Option.some.inj H
            have p370 : 0 ≤ (x5_1 : Int) := of_decide_eq_true (by first | (with_reducible assumption) | assumption)
            have q370 : x5_1 < (l0.length : Int) := of_decide_eq_true (by first | (with_reducible assumption) | assumption)
            obtain ⟨ad370, e370, hx370_0⟩ := Kd.at_int HR0.out x5_1 p370 q370
            cases e370
            replace p370 := eq_true p370
            replace q370 := eq_true q370
            go_wp2
            go_ret
            exact ⟨by first | rfl | (simp; done) | (simp [*]; done), by repeat (first | exact Drawn0.refl _ | apply Drawn0.step)⟩
        · rw [if_neg c4] at H
          exact absurd H (by simp)
      · rw [if_neg c3] at H
        have c3b0 : decide (x5_1 < (l0.length : Int)) = false := decide_eq_false c3
        clear c3
        obtain rfl := Option.some.inj H
        go_wp2
        go_ret
        exact ⟨by first | rfl | (simp; done) | (simp [*]; done), by repeat (first | exact Drawn0.refl _ | apply Drawn0.step)⟩

end Go.Proofs.Ytbcdngjajjgmkaa.PFnExactStabilizerPresentation
