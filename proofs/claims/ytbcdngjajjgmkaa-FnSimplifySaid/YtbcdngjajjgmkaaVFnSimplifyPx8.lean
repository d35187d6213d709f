/- Written by this session's program out of the kit's print and this session's contracts. -/
import Derived.Test.YtbcdngjajjgmkaaVFnSimplifyPx0
import Derived.Test.YtbcdngjajjgmkaaVFnSimplifyPx1
import Derived.Test.YtbcdngjajjgmkaaVFnSimplifyPx2
import Derived.Test.YtbcdngjajjgmkaaVFnSimplifyPx4
import Derived.Test.YtbcdngjajjgmkaaVFnSimplifyPx7
namespace Go.Proofs.Ytbcdngjajjgmkaa.PFnSimplify
open Go.RowKit Go.Proofs.YtbcdngjajjgmkaaW.PrintWords Go.Proofs.YtbcdngjajjgmkaaW.PrintLast Go.Proofs.YtbcdngjajjgmkaaW.PrintMore
set_option maxHeartbeats 8000000
set_option maxRecDepth 100000
set_option linter.unusedVariables false
set_option linter.unusedSimpArgs false

/-! ### spec_ApplyTietze: function 23 -/
def spec_ApplyTietze.j0 : Nat → Bool → Int → List (List Int) → Int → Int → Int → List Int → Option (Int × (List (List Int)) × Int)
 | 0, _, _, _, _, _, _, _ => none
 | k + 1, x30, x298000, x298001, x299000, x299001, x299002, x299003 => if x30 = true then (some (0, ([] : List (List Int)), 1)) else ((spec_l04Possible.f k x298000 x298001 x299000 x299001 x299002 x299003).bind fun t304 => (if t304 = true then ((spec_l04Move.f k x298000 x298001 x299000 x299001 x299002 x299003).bind fun bt305 => ((spec_IsPresentation.f k bt305.1 bt305.2).bind fun t310 => (if t310 = true then (some (bt305.1, bt305.2, 0)) else (some (0, ([] : List (List Int)), 3))))) else (some (0, ([] : List (List Int)), 5))))
def spec_ApplyTietze.f (k : Nat) (a0_0 : Int) (l0_1 : List (List Int)) (a1_0 : Int) (a1_1 : Int) (a1_2 : Int) (l1_3 : List Int) : Option (Int × (List (List Int)) × Int) := (spec_IsPresentation.f k a0_0 l0_1).bind fun t300 => (if t300 = true then ((spec_l01In.f a1_0 1 6).bind fun t301 => (if t301 = true then ((spec_l04Missing.f k a0_0 l0_1 a1_0 a1_1 a1_2 l1_3).bind fun t302 => (if t302 = true then (some (0, ([] : List (List Int)), 4)) else (if a1_0 = 6 then ((spec_l04Letters.f k l1_3 a0_0).bind fun t303 => (spec_ApplyTietze.j0 k (!t303) a0_0 l0_1 a1_0 a1_1 a1_2 l1_3)) else (spec_ApplyTietze.j0 k false a0_0 l0_1 a1_0 a1_1 a1_2 l1_3)))) else (some (0, ([] : List (List Int)), 2)))) else (some (0, ([] : List (List Int)), 1)))
theorem spec_ApplyTietze.calls (k : Nat) (a0_0 : Int) (A0_1 : Option Addr) (c0_1 : Nat) (l0_1 : List (List Int)) (a1_0 : Int) (a1_1 : Int) (a1_2 : Int) (A1_3 : Option Addr) (c1_3 : Nat) (l1_3 : List Int) (r1 : Int) (r2 : List (List Int)) (r3 : Int) (w : World) (hr0_1 : Kd.C (Kd.slice 2 (Kd.int .i64)) w A0_1 l0_1.length l0_1) (hc0_1 : l0_1.length ≤ c0_1) (hr1_3 : Kd.C (Kd.int .i64) w A1_3 l1_3.length l1_3) (hc1_3 : l1_3.length ≤ c1_3) (h : spec_ApplyTietze.f k a0_0 l0_1 a1_0 a1_1 a1_2 l1_3 = some (r1, r2, r3)) :
  Calls Try.prog 23 #[.agg #[.int .i64 a0_0, .slice A0_1 l0_1.length c0_1], .agg #[.int .i64 a1_0, .int .i64 a1_1, .int .i64 a1_2, .slice A1_3 l1_3.length c1_3]] w fun e w' => ∃ v1_ : Value, e = .returned (.tuple #[.agg #[.int .i64 r1, v1_], .int .i64 r3]) ∧ Kd.N (Kd.slice 2 (Kd.int .i64)) 39 w' w.heap.size (fun k_ => (w.heap.size ≤ k_)) v1_ r2 ∧ Below w.heap.size w w' := by
 have hu28 := Try.underlying28
 have hu44 := Try.underlying44
 have HR0_1 := am_ hr0_1
 have HC0_1 := am_ hc0_1
 clear hr0_1 hc0_1
 have HR1_3 := am_ hr1_3
 have HC1_3 := am_ hc1_3
 clear hr1_3 hc1_3
 have HB := am_ (Below.refl w.heap.size w)
 have H : ((spec_IsPresentation.f k a0_0 l0_1).bind fun t300 => (if t300 = true then ((spec_l01In.f a1_0 1 6).bind fun t301 => (if t301 = true then ((spec_l04Missing.f k a0_0 l0_1 a1_0 a1_1 a1_2 l1_3).bind fun t302 => (if t302 = true then (some (0, ([] : List (List Int)), 4)) else (if a1_0 = 6 then ((spec_l04Letters.f k l1_3 a0_0).bind fun t303 => (spec_ApplyTietze.j0 k (!t303) a0_0 l0_1 a1_0 a1_1 a1_2 l1_3)) else (spec_ApplyTietze.j0 k false a0_0 l0_1 a1_0 a1_1 a1_2 l1_3)))) else (some (0, ([] : List (List Int)), 2)))) else (some (0, ([] : List (List Int)), 1)))) = some (r1, r2, r3) := h
 clear h
 replace H := Option.bind_eq_some_iff.mp H
 obtain ⟨t300, A30, H⟩ := H
 replace H : (if t300 = true then ((spec_l01In.f a1_0 1 6).bind fun t301 => (if t301 = true then ((spec_l04Missing.f k a0_0 l0_1 a1_0 a1_1 a1_2 l1_3).bind fun t302 => (if t302 = true then (some (0, ([] : List (List Int)), 4)) else (if a1_0 = 6 then ((spec_l04Letters.f k l1_3 a0_0).bind fun t303 => (spec_ApplyTietze.j0 k (!t303) a0_0 l0_1 a1_0 a1_1 a1_2 l1_3)) else (spec_ApplyTietze.j0 k false a0_0 l0_1 a1_0 a1_1 a1_2 l1_3)))) else (some (0, ([] : List (List Int)), 2)))) else (some (0, ([] : List (List Int)), 1))) = some (r1, r2, r3) := H
 have A3 := am_ A30
 clear A30
 by_cases c4 : t300 = true
 ·subst c4
  have H1 : ((spec_l01In.f a1_0 1 6).bind fun t301 => (if t301 = true then ((spec_l04Missing.f k a0_0 l0_1 a1_0 a1_1 a1_2 l1_3).bind fun t302 => (if t302 = true then (some (0, ([] : List (List Int)), 4)) else (if a1_0 = 6 then ((spec_l04Letters.f k l1_3 a0_0).bind fun t303 => (spec_ApplyTietze.j0 k (!t303) a0_0 l0_1 a1_0 a1_1 a1_2 l1_3)) else (spec_ApplyTietze.j0 k false a0_0 l0_1 a1_0 a1_1 a1_2 l1_3)))) else (some (0, ([] : List (List Int)), 2)))) = some (r1, r2, r3) := by rw [if_pos rfl] at H; exact H
  clear H
  have H := H1
  clear H1
  replace H := Option.bind_eq_some_iff.mp H
  obtain ⟨t301, A50, H⟩ := H
  replace H : (if t301 = true then ((spec_l04Missing.f k a0_0 l0_1 a1_0 a1_1 a1_2 l1_3).bind fun t302 => (if t302 = true then (some (0, ([] : List (List Int)), 4)) else (if a1_0 = 6 then ((spec_l04Letters.f k l1_3 a0_0).bind fun t303 => (spec_ApplyTietze.j0 k (!t303) a0_0 l0_1 a1_0 a1_1 a1_2 l1_3)) else (spec_ApplyTietze.j0 k false a0_0 l0_1 a1_0 a1_1 a1_2 l1_3)))) else (some (0, ([] : List (List Int)), 2))) = some (r1, r2, r3) := H
  have A5 := am_ A50
  clear A50
  by_cases c6 : t301 = true
  ·subst c6
   have H1 : ((spec_l04Missing.f k a0_0 l0_1 a1_0 a1_1 a1_2 l1_3).bind fun t302 => (if t302 = true then (some (0, ([] : List (List Int)), 4)) else (if a1_0 = 6 then ((spec_l04Letters.f k l1_3 a0_0).bind fun t303 => (spec_ApplyTietze.j0 k (!t303) a0_0 l0_1 a1_0 a1_1 a1_2 l1_3)) else (spec_ApplyTietze.j0 k false a0_0 l0_1 a1_0 a1_1 a1_2 l1_3)))) = some (r1, r2, r3) := by rw [if_pos rfl] at H; exact H
   clear H
   have H := H1
   clear H1
   replace H := Option.bind_eq_some_iff.mp H
   obtain ⟨t302, A70, H⟩ := H
   replace H : (if t302 = true then (some (0, ([] : List (List Int)), 4)) else (if a1_0 = 6 then ((spec_l04Letters.f k l1_3 a0_0).bind fun t303 => (spec_ApplyTietze.j0 k (!t303) a0_0 l0_1 a1_0 a1_1 a1_2 l1_3)) else (spec_ApplyTietze.j0 k false a0_0 l0_1 a1_0 a1_1 a1_2 l1_3))) = some (r1, r2, r3) := H
   have A7 := am_ A70
   clear A70
   by_cases c8 : t302 = true
   ·subst c8
    have H1 : (some (0, ([] : List (List Int)), 4)) = some (r1, r2, r3) := by rw [if_pos rfl] at H; exact H
    clear H
    have H := H1
    clear H1
    simp only [Option.some.injEq, Prod.mk.injEq] at H
    obtain ⟨rfl, rfl, rfl⟩ := H
    go_enter Try.func23, Try.ntmps23
    go_wp2_with (first | (refine be_ 2 28 #[.int .i64 a0_0, .slice A0_1 l0_1.length c0_1] ?_; intro gb297 hg w9 hbox hb; have n_ := ba0_ HB hbox hb hg; clear  HB hb hbox hg; obtain ⟨HB, BK297, GW297, GE297⟩ := n_) | (refine be_ 3 44 #[.int .i64 a1_0, .int .i64 a1_1, .int .i64 a1_2, .slice A1_3 l1_3.length c1_3] ?_; intro gb298 hg w10 hbox hb; have n_ := ba1_ BK297 HB hbox hb hg; clear BK297 HB hb hbox hg; obtain ⟨BK297, HB, BK298, GW298, GE298, NB297_298, NB298_297⟩ := n_) | (refine be_ 4 28 #[.int .i64 0, .slice none 0 0] ?_; intro gb299 hg w11 hbox hb; have n_ := ba2_ BK297 BK298 HB hbox hb hg; clear BK297 BK298 HB hb hbox hg; obtain ⟨BK297, BK298, HB, BK299, GW299, GE299, NB297_299, NB299_297, NB298_299, NB299_298⟩ := n_; have hnb12 := NB297_298.out; have hnc12 := NB298_297.out; have hnb13 := NB297_299.out; have hnc13 := NB299_297.out; obtain ⟨hcz14_0, hcz14_1, hfz14_0, hfz14_1⟩ := bx2_ BK297) | ((with_reducible refine gate_callee (f := 35) rfl ?_); refine goesL_ (some 8) rfl rfl Try.func35 (by kernel_rfl) rfl #[.agg #[.int .i64 a0_0, .slice A0_1 l0_1.length c0_1]] rfl lm_ ?_; (with_reducible refine (spec_IsPresentation.calls k a0_0 _ _ l0_1 true _ ?side1 ?side2 A3.out).mono ?_); (case side1 => exact cb_ HR0_1 HB); (case side2 => exact HC0_1.out); rintro e w15 ⟨rfl, hb⟩; refine ⟨_, rfl, ?_⟩; have n_ := bd3_ BK297 BK298 BK299 HB hb; clear BK297 BK298 BK299 HB; obtain ⟨BK297, BK298, BK299, HB⟩ := n_; (try clear hb); (try clear hb2); (try clear hk); (try clear hi); have hnb16 := NB298_299.out; have hnc16 := NB299_298.out; obtain ⟨hcz17_0, hcz17_1, hcz17_2, hcz17_3, hfz17_0, hfz17_1, hfz17_2, hfz17_3⟩ := bx4_ BK298) | ((with_reducible refine gate_callee (f := 39) rfl ?_); refine goesL_ (some 13) rfl rfl Try.func39 (by kernel_rfl) rfl #[.int .i64 a1_0, .int .i64 1, .int .i64 6] rfl lm_ ?_; (with_reducible refine (spec_l01In.calls a1_0 1 6 true _ A5.out).mono ?_); rintro e w' ⟨rfl, ⟨nd, rfl⟩⟩; refine ⟨_, rfl, ?_⟩; (try (rw [drewN_self w15]; generalize hq_ : World.drewN w15 _ = w15; have n0_ : Aside0 (w15.heap[gb297]? = some (.cells #[.int .i64 a0_0, .slice A0_1 l0_1.length c0_1] 28 (0, 0))) := ⟨by rw [← hq_]; exact (bk_ BK297.out)⟩; have n1_ : Aside0 (w15.heap[gb298]? = some (.cells #[.int .i64 a1_0, .int .i64 a1_1, .int .i64 a1_2, .slice A1_3 l1_3.length c1_3] 44 (0, 0))) := ⟨by rw [← hq_]; exact (bk_ BK298.out)⟩; have n2_ : Aside0 (w15.heap[gb299]? = some (.cells #[.int .i64 0, .slice none 0 0] 28 (0, 0))) := ⟨by rw [← hq_]; exact (bk_ BK299.out)⟩; have n3_ : Aside0 (Below w.heap.size w w15) := ⟨by rw [← hq_]; exact (bb_ HB.out)⟩; clear BK297 BK298 BK299 HB hq_; have BK297 := n0_; have BK298 := n1_; have BK299 := n2_; have HB := n3_; clear n0_ n1_ n2_ n3_)); (try obtain ⟨hcz17_0, hcz17_1, hcz17_2, hcz17_3, hfz17_0, hfz17_1, hfz17_2, hfz17_3⟩ := bx4_ BK298); obtain ⟨hcz18_0, hcz18_1, hfz18_0, hfz18_1⟩ := bx2_ BK297) | ((with_reducible refine gate_callee (f := 60) rfl ?_); refine goesL_ (some 18) rfl rfl Try.func60 (by kernel_rfl) rfl #[.agg #[.int .i64 a0_0, .slice A0_1 l0_1.length c0_1], .agg #[.int .i64 a1_0, .int .i64 a1_1, .int .i64 a1_2, .slice A1_3 l1_3.length c1_3]] rfl lm_ ?_; (with_reducible refine (spec_l04Missing.calls k a0_0 _ _ l0_1 a1_0 a1_1 a1_2 _ _ l1_3 true _ ?side1 ?side2 ?side3 ?side4 A7.out).mono ?_); (case side1 => exact cb_ HR0_1 HB); (case side2 => exact HC0_1.out); (case side3 => exact cb_ HR1_3 HB); (case side4 => exact HC1_3.out); rintro e w19 ⟨rfl, hb⟩; refine ⟨_, rfl, ?_⟩; have n_ := bd3_ BK297 BK298 BK299 HB hb; clear BK297 BK298 BK299 HB; obtain ⟨BK297, BK298, BK299, HB⟩ := n_; (try clear hb); (try clear hb2); (try clear hk); (try clear hi); obtain ⟨hcz20_0, hcz20_1, hfz20_0, hfz20_1⟩ := bx2_ BK299))
    refine bodyPost_ret (results_ct rfl _ _ gb299 28 #[.int .i64 0, .slice none 0 0] (0, 0) _ rfl (pu2_ BK299) Try.underlying28 rfl (by kernel_rfl)) rfl ?_
    exact ⟨_, er_, by first | exact Kd.S_nil _ _ _ _ _ | exact Kd.N_nil _ _ _ _ _ | exact Kd.V_nil _ _ _ _ _ | exact Kd.Q_nil _ _ _ _ _ | exact Kd.R_nil _ _ _ _ _, bb_ HB.out⟩
   ·replace c8 := Bool.eq_false_iff.mpr c8
    subst c8
    have H1 : (if a1_0 = 6 then ((spec_l04Letters.f k l1_3 a0_0).bind fun t303 => (spec_ApplyTietze.j0 k (!t303) a0_0 l0_1 a1_0 a1_1 a1_2 l1_3)) else (spec_ApplyTietze.j0 k false a0_0 l0_1 a1_0 a1_1 a1_2 l1_3)) = some (r1, r2, r3) := by rw [if_neg (show ¬ (false = true) by decide)] at H; exact H
    clear H
    have H := H1
    clear H1
    have HC21 := am_ H
    clear H
    go_enter Try.func23, Try.ntmps23
    go_upto_region 7 with (first | (refine be_ 2 28 #[.int .i64 a0_0, .slice A0_1 l0_1.length c0_1] ?_; intro gb297 hg w22 hbox hb; have n_ := ba0_ HB hbox hb hg; clear  HB hb hbox hg; obtain ⟨HB, BK297, GW297, GE297⟩ := n_) | (refine be_ 3 44 #[.int .i64 a1_0, .int .i64 a1_1, .int .i64 a1_2, .slice A1_3 l1_3.length c1_3] ?_; intro gb298 hg w23 hbox hb; have n_ := ba1_ BK297 HB hbox hb hg; clear BK297 HB hb hbox hg; obtain ⟨BK297, HB, BK298, GW298, GE298, NB297_298, NB298_297⟩ := n_) | (refine be_ 4 28 #[.int .i64 0, .slice none 0 0] ?_; intro gb299 hg w24 hbox hb; have n_ := ba2_ BK297 BK298 HB hbox hb hg; clear BK297 BK298 HB hb hbox hg; obtain ⟨BK297, BK298, HB, BK299, GW299, GE299, NB297_299, NB299_297, NB298_299, NB299_298⟩ := n_; have hnb25 := NB297_298.out; have hnc25 := NB298_297.out; have hnb26 := NB297_299.out; have hnc26 := NB299_297.out; obtain ⟨hcz27_0, hcz27_1, hfz27_0, hfz27_1⟩ := bx2_ BK297) | ((with_reducible refine gate_callee (f := 35) rfl ?_); refine goesL_ (some 8) rfl rfl Try.func35 (by kernel_rfl) rfl #[.agg #[.int .i64 a0_0, .slice A0_1 l0_1.length c0_1]] rfl lm_ ?_; (with_reducible refine (spec_IsPresentation.calls k a0_0 _ _ l0_1 true _ ?side1 ?side2 A3.out).mono ?_); (case side1 => exact cb_ HR0_1 HB); (case side2 => exact HC0_1.out); rintro e w28 ⟨rfl, hb⟩; refine ⟨_, rfl, ?_⟩; have n_ := bd3_ BK297 BK298 BK299 HB hb; clear BK297 BK298 BK299 HB; obtain ⟨BK297, BK298, BK299, HB⟩ := n_; (try clear hb); (try clear hb2); (try clear hk); (try clear hi); have hnb29 := NB298_299.out; have hnc29 := NB299_298.out; obtain ⟨hcz30_0, hcz30_1, hcz30_2, hcz30_3, hfz30_0, hfz30_1, hfz30_2, hfz30_3⟩ := bx4_ BK298) | ((with_reducible refine gate_callee (f := 39) rfl ?_); refine goesL_ (some 13) rfl rfl Try.func39 (by kernel_rfl) rfl #[.int .i64 a1_0, .int .i64 1, .int .i64 6] rfl lm_ ?_; (with_reducible refine (spec_l01In.calls a1_0 1 6 true _ A5.out).mono ?_); rintro e w' ⟨rfl, ⟨nd, rfl⟩⟩; refine ⟨_, rfl, ?_⟩; obtain ⟨hcz31_0, hcz31_1, hfz31_0, hfz31_1⟩ := bx2_ BK297) | ((with_reducible refine gate_callee (f := 60) rfl ?_); refine goesL_ (some 18) rfl rfl Try.func60 (by kernel_rfl) rfl #[.agg #[.int .i64 a0_0, .slice A0_1 l0_1.length c0_1], .agg #[.int .i64 a1_0, .int .i64 a1_1, .int .i64 a1_2, .slice A1_3 l1_3.length c1_3]] rfl lm_ ?_; (with_reducible refine (spec_l04Missing.calls k a0_0 _ _ l0_1 a1_0 a1_1 a1_2 _ _ l1_3 false _ ?side1 ?side2 ?side3 ?side4 A7.out).mono ?_); (case side1 => repeat (first | exact (Kd.C_below HR0_1.out (bb_ HB.out)) | (with_reducible refine Kd.C_alloc ?_ _) | (with_reducible refine Kd.C_drewN ?_ _) | (with_reducible refine Kd.C_drew ?_))); (case side2 => exact HC0_1.out); (case side3 => repeat (first | exact (Kd.C_below HR1_3.out (bb_ HB.out)) | (with_reducible refine Kd.C_alloc ?_ _) | (with_reducible refine Kd.C_drewN ?_ _) | (with_reducible refine Kd.C_drew ?_))); (case side4 => exact HC1_3.out); rintro e w32 ⟨rfl, hb⟩; refine ⟨_, rfl, ?_⟩; have n_ := bd3_ BK297 BK298 BK299 HB hb; clear BK297 BK298 BK299 HB; obtain ⟨BK297, BK298, BK299, HB⟩ := n_; (try clear hb); (try clear hb2); (try clear hk); (try clear hi)))
    (try simp only [Act.put, List.setIfInBounds_toArray, List.set_cons_zero, List.set_cons_succ])
    go_cut [30] (fun v30 wc => ∃ (kq : Nat) (x30_20 : Bool), v30 = .bool x30_20 ∧ Aside0 (spec_ApplyTietze.j0 kq x30_20 a0_0 l0_1 a1_0 a1_1 a1_2 l1_3 = some (r1, r2, r3)) ∧ Aside0 (kq ≤ k) ∧ Aside0 (wc.heap[gb297]? = some (.cells #[.int .i64 a0_0, (.slice A0_1 l0_1.length c0_1)] 28 (0, 0))) ∧ Aside0 (wc.heap[gb298]? = some (.cells #[.int .i64 a1_0, .int .i64 a1_1, .int .i64 a1_2, (.slice A1_3 l1_3.length c1_3)] 44 (0, 0))) ∧ Aside0 (wc.heap[gb299]? = some (.cells #[.int .i64 0, (.slice none 0 0)] 28 (0, 0))) ∧ Aside0 (Below w.heap.size w wc))
    case first =>
     have H := HC21.out
     clear HC21
     by_cases c33 : a1_0 = 6
     ·rw [if_pos c33] at H
      have c33b0 : (a1_0 == 6) = true := beq_iff_eq.mpr c33
      have c33b1 : (a1_0 != 6) = false := bne_eq_false_iff_eq.mpr c33
      clear c33
      (first | rw [c33b0] | (simp only [i64_w, i32_w]; rw [c33b0]) | skip)
      replace H := Option.bind_eq_some_iff.mp H
      obtain ⟨t303, A340, H⟩ := H
      replace H : (spec_ApplyTietze.j0 k (!t303) a0_0 l0_1 a1_0 a1_1 a1_2 l1_3) = some (r1, r2, r3) := H
      have A34 := am_ A340
      clear A340
      have H' := am_ H
      clear H
      have hnb35 := NB298_297.out
      have hnc35 := NB297_298.out
      have hnb36 := NB298_299.out
      have hnc36 := NB299_298.out
      obtain ⟨hcz37_0, hcz37_1, hcz37_2, hcz37_3, hfz37_0, hfz37_1, hfz37_2, hfz37_3⟩ := bx4_ BK298
      have hnb38 := NB297_299.out
      have hnc38 := NB299_297.out
      obtain ⟨hcz39_0, hcz39_1, hfz39_0, hfz39_1⟩ := bx2_ BK297
      go_wp2_with (first | (go_at_call 61; (with_reducible refine (spec_l04Letters.calls k _ _ l1_3 a0_0 t303 _ ?side1 ?side2 A34.out).mono ?_); (case side1 => exact cb_ HR1_3 HB); (case side2 => exact HC1_3.out); rintro e w40 ⟨rfl, hb⟩; have n_ := bd3_ BK297 BK298 BK299 HB hb; clear BK297 BK298 BK299 HB; obtain ⟨BK297, BK298, BK299, HB⟩ := n_; (try clear hb); (try clear hb2); (try clear hk); (try clear hi)))
      go_meet
      case rel => exact ⟨_, (!t303), (by first | rfl | (simp; done) | (simp [*]; done)), H', ⟨by first | omega | exact Nat.le_refl _⟩, ⟨bk_ BK297.out⟩, ⟨bk_ BK298.out⟩, ⟨bk_ BK299.out⟩, ⟨bb_ HB.out⟩⟩
     ·rw [if_neg c33] at H
      have c33b0 : (a1_0 == 6) = false := beq_eq_false_iff_ne.mpr c33
      have c33b1 : (a1_0 != 6) = true := bne_iff_ne.mpr c33
      (first | rw [c33b0] | (simp only [i64_w, i32_w]; rw [c33b0]) | skip)
      have H' := am_ H
      clear H
      have hnb41 := NB298_297.out
      have hnc41 := NB297_298.out
      have hnb42 := NB298_299.out
      have hnc42 := NB299_298.out
      obtain ⟨hcz43_0, hcz43_1, hcz43_2, hcz43_3, hfz43_0, hfz43_1, hfz43_2, hfz43_3⟩ := bx4_ BK298
      go_wp2
      go_meet
      case rel => exact ⟨_, (false), (by first | rfl | (simp; done) | (simp [*]; done)), H', ⟨by first | omega | exact Nat.le_refl _⟩, ⟨bk_ BK297.out⟩, ⟨bk_ BK298.out⟩, ⟨bk_ BK299.out⟩, ⟨bb_ HB.out⟩⟩
    case rest =>
     clear HC21
     try clear c1
     try clear c2
     try clear p2
     try clear c3
     try clear c4
     try clear c6
     try clear c8
     try clear c12
     try clear c13
     try clear c16
     try clear c23
     try clear c25
     try clear c26
     try clear c29
     try clear c33
     try clear c33b0
     try clear c33b1
     try clear c35
     try clear c36
     try clear c38
     try clear c39
     try clear c41
     try clear c42
     try clear hcz14_0
     try clear hcz14_1
     try clear hcz17_0
     try clear hcz17_1
     try clear hcz17_2
     try clear hcz17_3
     try clear hcz18_0
     try clear hcz18_1
     try clear hcz20_0
     try clear hcz20_1
     try clear hcz27_0
     try clear hcz27_1
     try clear hcz30_0
     try clear hcz30_1
     try clear hcz30_2
     try clear hcz30_3
     try clear hcz31_0
     try clear hcz31_1
     try clear hcz37_0
     try clear hcz37_1
     try clear hcz37_2
     try clear hcz37_3
     try clear hcz39_0
     try clear hcz39_1
     try clear hcz43_0
     try clear hcz43_1
     try clear hcz43_2
     try clear hcz43_3
     try clear hfz14_0
     try clear hfz14_1
     try clear hfz17_0
     try clear hfz17_1
     try clear hfz17_2
     try clear hfz17_3
     try clear hfz18_0
     try clear hfz18_1
     try clear hfz20_0
     try clear hfz20_1
     try clear hfz27_0
     try clear hfz27_1
     try clear hfz30_0
     try clear hfz30_1
     try clear hfz30_2
     try clear hfz30_3
     try clear hfz31_0
     try clear hfz31_1
     try clear hfz37_0
     try clear hfz37_1
     try clear hfz37_2
     try clear hfz37_3
     try clear hfz39_0
     try clear hfz39_1
     try clear hfz43_0
     try clear hfz43_1
     try clear hfz43_2
     try clear hfz43_3
     obtain ⟨kq, x30_20, rfl, HA, HJ20, BK297, BK298, BK299, HB⟩ := hcut
     cases kq with
     | zero => exact absurd HA.out (by simp [spec_ApplyTietze.j0])
     | succ kj20 =>
      have H := HA.out
      clear HA
      simp only [spec_ApplyTietze.j0] at H
      by_cases c44 : x30_20 = true
      ·subst c44
       have H1 : (some (0, ([] : List (List Int)), 1)) = some (r1, r2, r3) := by rw [if_pos rfl] at H; exact H
       clear H
       have H := H1
       clear H1
       simp only [Option.some.injEq, Prod.mk.injEq] at H
       obtain ⟨rfl, rfl, rfl⟩ := H
       have hnb45 := NB299_297.out
       have hnc45 := NB297_299.out
       have hnb46 := NB299_298.out
       have hnc46 := NB298_299.out
       obtain ⟨hcz47_0, hcz47_1, hfz47_0, hfz47_1⟩ := bx2_ BK299
       go_wp2
       refine bodyPost_ret (results_ct rfl _ _ gb299 28 #[.int .i64 0, .slice none 0 0] (0, 0) _ rfl (pu2_ BK299) Try.underlying28 rfl (by kernel_rfl)) rfl ?_
       exact ⟨_, er_, by first | exact Kd.S_nil _ _ _ _ _ | exact Kd.N_nil _ _ _ _ _ | exact Kd.V_nil _ _ _ _ _ | exact Kd.Q_nil _ _ _ _ _ | exact Kd.R_nil _ _ _ _ _, bb_ HB.out⟩
      ·replace c44 := Bool.eq_false_iff.mpr c44
       subst c44
       have H1 : ((spec_l04Possible.f kj20 a0_0 l0_1 a1_0 a1_1 a1_2 l1_3).bind fun t304 => (if t304 = true then ((spec_l04Move.f kj20 a0_0 l0_1 a1_0 a1_1 a1_2 l1_3).bind fun bt305 => ((spec_IsPresentation.f kj20 bt305.1 bt305.2).bind fun t310 => (if t310 = true then (some (bt305.1, bt305.2, 0)) else (some (0, ([] : List (List Int)), 3))))) else (some (0, ([] : List (List Int)), 5)))) = some (r1, r2, r3) := by rw [if_neg (show ¬ (false = true) by decide)] at H; exact H
       clear H
       have H := H1
       clear H1
       replace H := Option.bind_eq_some_iff.mp H
       obtain ⟨t304, A480, H⟩ := H
       replace H : (if t304 = true then ((spec_l04Move.f kj20 a0_0 l0_1 a1_0 a1_1 a1_2 l1_3).bind fun bt305 => ((spec_IsPresentation.f kj20 bt305.1 bt305.2).bind fun t310 => (if t310 = true then (some (bt305.1, bt305.2, 0)) else (some (0, ([] : List (List Int)), 3))))) else (some (0, ([] : List (List Int)), 5))) = some (r1, r2, r3) := H
       have A48 := am_ A480
       clear A480
       by_cases c49 : t304 = true
       ·subst c49
        have H1 : ((spec_l04Move.f kj20 a0_0 l0_1 a1_0 a1_1 a1_2 l1_3).bind fun bt305 => ((spec_IsPresentation.f kj20 bt305.1 bt305.2).bind fun t310 => (if t310 = true then (some (bt305.1, bt305.2, 0)) else (some (0, ([] : List (List Int)), 3))))) = some (r1, r2, r3) := by rw [if_pos rfl] at H; exact H
        clear H
        have H := H1
        clear H1
        replace H := Option.bind_eq_some_iff.mp H
        obtain ⟨⟨t305, t306⟩, A500, H⟩ := H
        replace H : ((spec_IsPresentation.f kj20 t305 t306).bind fun t310 => (if t310 = true then (some (t305, t306, 0)) else (some (0, ([] : List (List Int)), 3)))) = some (r1, r2, r3) := H
        have A50 := am_ A500
        clear A500
        replace H := Option.bind_eq_some_iff.mp H
        obtain ⟨t310, A510, H⟩ := H
        replace H : (if t310 = true then (some (t305, t306, 0)) else (some (0, ([] : List (List Int)), 3))) = some (r1, r2, r3) := H
        have A51 := am_ A510
        clear A510
        by_cases c52 : t310 = true
        ·subst c52
         have H1 : (some (t305, t306, 0)) = some (r1, r2, r3) := by rw [if_pos rfl] at H; exact H
         clear H
         have H := H1
         clear H1
         simp only [Option.some.injEq, Prod.mk.injEq] at H
         obtain ⟨rfl, rfl, rfl⟩ := H
         have hnb53 := NB297_298.out
         have hnc53 := NB298_297.out
         have hnb54 := NB297_299.out
         have hnc54 := NB299_297.out
         obtain ⟨hcz55_0, hcz55_1, hfz55_0, hfz55_1⟩ := bx2_ BK297
         have hnb56 := NB298_299.out
         have hnc56 := NB299_298.out
         obtain ⟨hcz57_0, hcz57_1, hcz57_2, hcz57_3, hfz57_0, hfz57_1, hfz57_2, hfz57_3⟩ := bx4_ BK298
         go_wp2_with (first | ((with_reducible refine gate_callee (f := 62) rfl ?_); refine goesL_ (some 34) rfl rfl Try.func62 (by kernel_rfl) rfl #[.agg #[.int .i64 a0_0, .slice A0_1 l0_1.length c0_1], .agg #[.int .i64 a1_0, .int .i64 a1_1, .int .i64 a1_2, .slice A1_3 l1_3.length c1_3]] rfl lm_ ?_; (with_reducible refine (spec_l04Possible.calls kj20 a0_0 _ _ l0_1 a1_0 a1_1 a1_2 _ _ l1_3 true _ ?side1 ?side2 ?side3 ?side4 A48.out).mono ?_); (case side1 => exact cb_ HR0_1 HB); (case side2 => exact HC0_1.out); (case side3 => exact cb_ HR1_3 HB); (case side4 => exact HC1_3.out); rintro e w58 ⟨rfl, hb⟩; refine ⟨_, rfl, ?_⟩; have n_ := bd3_ BK297 BK298 BK299 HB hb; clear BK297 BK298 BK299 HB; obtain ⟨BK297, BK298, BK299, HB⟩ := n_; (try clear hb); (try clear hb2); (try clear hk); (try clear hi); obtain ⟨hcz59_0, hcz59_1, hfz59_0, hfz59_1⟩ := bx2_ BK297; obtain ⟨hcz60_0, hcz60_1, hcz60_2, hcz60_3, hfz60_0, hfz60_1, hfz60_2, hfz60_3⟩ := bx4_ BK298) | ((with_reducible refine gate_callee (f := 63) rfl ?_); refine goesL_ (some 39) rfl rfl Try.func63 (by kernel_rfl) rfl #[.agg #[.int .i64 a0_0, .slice A0_1 l0_1.length c0_1], .agg #[.int .i64 a1_0, .int .i64 a1_1, .int .i64 a1_2, .slice A1_3 l1_3.length c1_3]] rfl lm_ ?_; (with_reducible refine (spec_l04Move.calls kj20 a0_0 _ _ l0_1 a1_0 a1_1 a1_2 _ _ l1_3 t305 t306 _ ?side1 ?side2 ?side3 ?side4 A50.out).mono ?_); (case side1 => exact cb_ HR0_1 HB); (case side2 => exact HC0_1.out); (case side3 => exact cb_ HR1_3 HB); (case side4 => exact HC1_3.out); rintro e w61 ⟨v307, rfl, ho0, hb⟩; refine ⟨_, rfl, ?_⟩; have n0_ := am_ (Kd.N_lower (Kd.N_mono (ok' := fun k_ => (w.heap.size ≤ k_) ∧ k_ ≠ gb297 ∧ k_ ≠ gb298 ∧ k_ ≠ gb299) ho0 (fun k_ hk_ => ⟨(Nat.le_trans (below_size (bb_ HB.out)) hk_), (Kd.freshB (g := gb297) (o := .cells #[.int .i64 a0_0, .slice A0_1 l0_1.length c0_1] 28 (0, 0)) (bk_ BK297.out) k_ hk_), (Kd.freshB (g := gb298) (o := .cells #[.int .i64 a1_0, .int .i64 a1_1, .int .i64 a1_2, .slice A1_3 l1_3.length c1_3] 44 (0, 0)) (bk_ BK298.out) k_ hk_), (Kd.freshB (g := gb299) (o := .cells #[.int .i64 0, .slice none 0 0] 28 (0, 0)) (bk_ BK299.out) k_ hk_)⟩)) (below_size (bb_ HB.out))); have n1_ := am_ (bw_ BK297 hb); have n2_ := am_ (bw_ BK298 hb); have n3_ := am_ (bw_ BK299 hb); have n4_ := am_ (below_step (bb_ HB.out) hb); clear BK297 BK298 BK299 HB; revert n0_ n1_ n2_ n3_ n4_; intro HO308 BK297 BK298 BK299 HB; (try clear hb); (try clear hb2); (try clear hk); (try clear hi); (try clear ho0)) | (refine be_ 6 28 #[.int .i64 0, .slice none 0 0] ?_; intro gb309 hg w62 hbox hb; have n0_ := am_ (Kd.N_below (Kd.N_elderB (Nx_ HO308.out) gb309 (Nat.le_of_eq hg.symm)) hb); have n1_ := am_ (bw_ BK297 hb); have n2_ := am_ (bw_ BK298 hb); have n3_ := am_ (bw_ BK299 hb); have n4_ := am_ (below_step (bb_ HB.out) hb); have n5_ := am_ (hbox); have n6_ := gs_ HB hg; have n7_ := gs_ HB hg; have n8_ := am_ (nl_ BK297 hg); have n9_ := am_ (ng_ BK297 hg); have n10_ := am_ (nl_ BK298 hg); have n11_ := am_ (ng_ BK298 hg); have n12_ := am_ (nl_ BK299 hg); have n13_ := am_ (ng_ BK299 hg); clear HO308 BK297 BK298 BK299 HB; revert n0_ n1_ n2_ n3_ n4_ n5_ n6_ n7_ n8_ n9_ n10_ n11_ n12_ n13_; intro HO308 BK297 BK298 BK299 HB BK309 GW309 GE309 NB297_309 NB309_297 NB298_309 NB309_298 NB299_309 NB309_299; clear hb hbox hg; have hnb63 := NB309_297.out; have hnc63 := NB297_309.out; have hnb64 := NB309_298.out; have hnc64 := NB298_309.out; have hnb65 := NB309_299.out; have hnc65 := NB299_309.out; obtain ⟨hcz66_0, hcz66_1, hfz66_0, hfz66_1⟩ := bx2_ BK309; obtain ⟨Ao67, co67, eo67⟩ := Kd.N_slice HO308.out; subst eo67) | ((with_reducible refine gate_callee (f := 35) rfl ?_); refine goesL_ (some 41) rfl rfl Try.func35 (by kernel_rfl) rfl #[.agg #[.int .i64 t305, .slice Ao67 t306.length co67]] rfl lm_ ?_; (with_reducible refine (spec_IsPresentation.calls kj20 t305 _ _ t306 true _ ?side1 ?side2 A51.out).mono ?_); (case side1 => refine (Kd.N_reads' (e := 39) (base := w.heap.size) (ok := fun k_ => (((w.heap.size ≤ k_) ∧ (k_ ≠ gb297 ∧ (k_ ≠ gb298 ∧ k_ ≠ gb299))) ∧ k_ ≠ gb309)) (n := t306.length) (c := co67) ?_).2.2; exact (Nx_ (Kd.N_mono (Kd.N_far (p := ⟨gb309, 1, none⟩) (Kd.N_far (p := ⟨gb309, 0, none⟩) (Kd.N_mono HO308.out (fun k_ hk => (⟨hk, hk.2⟩ : _ ∧ k_ ≠ gb309))) (fun _ hk => hk.2) (.int .i64 t305)) (fun _ hk => hk.2) (.slice Ao67 t306.length co67)) (fun _ h_ => h_.1)))); (case side2 => exact (Kd.N_reads' HO308.out).2.1); rintro e w68 ⟨rfl, hb⟩; refine ⟨_, rfl, ?_⟩; have n0_ := am_ (Kd.N_below (Nx_ (Kd.N_mono (Kd.N_far (p := ⟨gb309, 1, none⟩) (Kd.N_far (p := ⟨gb309, 0, none⟩) (Kd.N_mono HO308.out (fun k_ hk => (⟨hk, hk.2⟩ : _ ∧ k_ ≠ gb309))) (fun _ hk => hk.2) (.int .i64 t305)) (fun _ hk => hk.2) (.slice Ao67 t306.length co67)) (fun _ h_ => h_.1))) hb); have n1_ := am_ (bw_ BK297 hb); have n2_ := am_ (bw_ BK298 hb); have n3_ := am_ (bw_ BK299 hb); have n4_ := am_ (blk_below (g := gb309) (o := .cells #[.int .i64 t305, .slice Ao67 t306.length co67] 28 (0, 0)) (pu2_ BK309) hb); have n5_ := am_ (below_step (bb_ HB.out) hb); clear HO308 BK297 BK298 BK299 BK309 HB; revert n0_ n1_ n2_ n3_ n4_ n5_; intro HO308 BK297 BK298 BK299 BK309 HB; (try clear hb); (try clear hb2); (try clear hk); (try clear hi); obtain ⟨hcz69_0, hcz69_1, hfz69_0, hfz69_1⟩ := bx2_ BK309; obtain ⟨hcz70_0, hcz70_1, hfz70_0, hfz70_1⟩ := bx2_ BK299))
         refine bodyPost_ret (results_ct rfl _ _ gb299 28 #[.int .i64 t305, .slice Ao67 t306.length co67] (0, 0) _ rfl (pu2_ BK299) Try.underlying28 rfl (by kernel_rfl)) rfl ?_
         exact ⟨_, er_, Nx_ (Kd.N_mono (Kd.N_far (p := ⟨gb299, 1, none⟩) (Kd.N_far (p := ⟨gb299, 0, none⟩) (Kd.N_mono HO308.out (fun k_ hk => (⟨hk, hk.1.2.2.2⟩ : _ ∧ k_ ≠ gb299))) (fun _ hk => hk.2) (.int .i64 t305)) (fun _ hk => hk.2) (.slice Ao67 t306.length co67)) (fun _ hk => hk.1.1.1)), bb_ HB.out⟩
        ·replace c52 := Bool.eq_false_iff.mpr c52
         subst c52
         have H1 : (some (0, ([] : List (List Int)), 3)) = some (r1, r2, r3) := by rw [if_neg (show ¬ (false = true) by decide)] at H; exact H
         clear H
         have H := H1
         clear H1
         simp only [Option.some.injEq, Prod.mk.injEq] at H
         obtain ⟨rfl, rfl, rfl⟩ := H
         have hnb71 := NB297_298.out
         have hnc71 := NB298_297.out
         have hnb72 := NB297_299.out
         have hnc72 := NB299_297.out
         obtain ⟨hcz73_0, hcz73_1, hfz73_0, hfz73_1⟩ := bx2_ BK297
         have hnb74 := NB298_299.out
         have hnc74 := NB299_298.out
         obtain ⟨hcz75_0, hcz75_1, hcz75_2, hcz75_3, hfz75_0, hfz75_1, hfz75_2, hfz75_3⟩ := bx4_ BK298
         go_wp2_with (first | ((with_reducible refine gate_callee (f := 62) rfl ?_); refine goesL_ (some 34) rfl rfl Try.func62 (by kernel_rfl) rfl #[.agg #[.int .i64 a0_0, .slice A0_1 l0_1.length c0_1], .agg #[.int .i64 a1_0, .int .i64 a1_1, .int .i64 a1_2, .slice A1_3 l1_3.length c1_3]] rfl lm_ ?_; (with_reducible refine (spec_l04Possible.calls kj20 a0_0 _ _ l0_1 a1_0 a1_1 a1_2 _ _ l1_3 true _ ?side1 ?side2 ?side3 ?side4 A48.out).mono ?_); (case side1 => exact cb_ HR0_1 HB); (case side2 => exact HC0_1.out); (case side3 => exact cb_ HR1_3 HB); (case side4 => exact HC1_3.out); rintro e w76 ⟨rfl, hb⟩; refine ⟨_, rfl, ?_⟩; have n_ := bd3_ BK297 BK298 BK299 HB hb; clear BK297 BK298 BK299 HB; obtain ⟨BK297, BK298, BK299, HB⟩ := n_; (try clear hb); (try clear hb2); (try clear hk); (try clear hi); obtain ⟨hcz77_0, hcz77_1, hfz77_0, hfz77_1⟩ := bx2_ BK297; obtain ⟨hcz78_0, hcz78_1, hcz78_2, hcz78_3, hfz78_0, hfz78_1, hfz78_2, hfz78_3⟩ := bx4_ BK298) | ((with_reducible refine gate_callee (f := 63) rfl ?_); refine goesL_ (some 39) rfl rfl Try.func63 (by kernel_rfl) rfl #[.agg #[.int .i64 a0_0, .slice A0_1 l0_1.length c0_1], .agg #[.int .i64 a1_0, .int .i64 a1_1, .int .i64 a1_2, .slice A1_3 l1_3.length c1_3]] rfl lm_ ?_; (with_reducible refine (spec_l04Move.calls kj20 a0_0 _ _ l0_1 a1_0 a1_1 a1_2 _ _ l1_3 t305 t306 _ ?side1 ?side2 ?side3 ?side4 A50.out).mono ?_); (case side1 => exact cb_ HR0_1 HB); (case side2 => exact HC0_1.out); (case side3 => exact cb_ HR1_3 HB); (case side4 => exact HC1_3.out); rintro e w79 ⟨v307, rfl, ho0, hb⟩; refine ⟨_, rfl, ?_⟩; have n0_ := am_ (Kd.N_lower (Kd.N_mono (ok' := fun k_ => (w.heap.size ≤ k_) ∧ k_ ≠ gb297 ∧ k_ ≠ gb298 ∧ k_ ≠ gb299) ho0 (fun k_ hk_ => ⟨(Nat.le_trans (below_size (bb_ HB.out)) hk_), (Kd.freshB (g := gb297) (o := .cells #[.int .i64 a0_0, .slice A0_1 l0_1.length c0_1] 28 (0, 0)) (bk_ BK297.out) k_ hk_), (Kd.freshB (g := gb298) (o := .cells #[.int .i64 a1_0, .int .i64 a1_1, .int .i64 a1_2, .slice A1_3 l1_3.length c1_3] 44 (0, 0)) (bk_ BK298.out) k_ hk_), (Kd.freshB (g := gb299) (o := .cells #[.int .i64 0, .slice none 0 0] 28 (0, 0)) (bk_ BK299.out) k_ hk_)⟩)) (below_size (bb_ HB.out))); have n1_ := am_ (bw_ BK297 hb); have n2_ := am_ (bw_ BK298 hb); have n3_ := am_ (bw_ BK299 hb); have n4_ := am_ (below_step (bb_ HB.out) hb); clear BK297 BK298 BK299 HB; revert n0_ n1_ n2_ n3_ n4_; intro HO308 BK297 BK298 BK299 HB; (try clear hb); (try clear hb2); (try clear hk); (try clear hi); (try clear ho0)) | (refine be_ 6 28 #[.int .i64 0, .slice none 0 0] ?_; intro gb309 hg w80 hbox hb; have n0_ := am_ (Kd.N_below (Kd.N_elderB (Nx_ HO308.out) gb309 (Nat.le_of_eq hg.symm)) hb); have n1_ := am_ (bw_ BK297 hb); have n2_ := am_ (bw_ BK298 hb); have n3_ := am_ (bw_ BK299 hb); have n4_ := am_ (below_step (bb_ HB.out) hb); have n5_ := am_ (hbox); have n6_ := gs_ HB hg; have n7_ := gs_ HB hg; have n8_ := am_ (nl_ BK297 hg); have n9_ := am_ (ng_ BK297 hg); have n10_ := am_ (nl_ BK298 hg); have n11_ := am_ (ng_ BK298 hg); have n12_ := am_ (nl_ BK299 hg); have n13_ := am_ (ng_ BK299 hg); clear HO308 BK297 BK298 BK299 HB; revert n0_ n1_ n2_ n3_ n4_ n5_ n6_ n7_ n8_ n9_ n10_ n11_ n12_ n13_; intro HO308 BK297 BK298 BK299 HB BK309 GW309 GE309 NB297_309 NB309_297 NB298_309 NB309_298 NB299_309 NB309_299; clear hb hbox hg; have hnb81 := NB309_297.out; have hnc81 := NB297_309.out; have hnb82 := NB309_298.out; have hnc82 := NB298_309.out; have hnb83 := NB309_299.out; have hnc83 := NB299_309.out; obtain ⟨hcz84_0, hcz84_1, hfz84_0, hfz84_1⟩ := bx2_ BK309; obtain ⟨Ao85, co85, eo85⟩ := Kd.N_slice HO308.out; subst eo85) | ((with_reducible refine gate_callee (f := 35) rfl ?_); refine goesL_ (some 41) rfl rfl Try.func35 (by kernel_rfl) rfl #[.agg #[.int .i64 t305, .slice Ao85 t306.length co85]] rfl lm_ ?_; (with_reducible refine (spec_IsPresentation.calls kj20 t305 _ _ t306 false _ ?side1 ?side2 A51.out).mono ?_); (case side1 => refine (Kd.N_reads' (e := 39) (base := w.heap.size) (ok := fun k_ => (((w.heap.size ≤ k_) ∧ (k_ ≠ gb297 ∧ (k_ ≠ gb298 ∧ k_ ≠ gb299))) ∧ k_ ≠ gb309)) (n := t306.length) (c := co85) ?_).2.2; exact (Nx_ (Kd.N_mono (Kd.N_far (p := ⟨gb309, 1, none⟩) (Kd.N_far (p := ⟨gb309, 0, none⟩) (Kd.N_mono HO308.out (fun k_ hk => (⟨hk, hk.2⟩ : _ ∧ k_ ≠ gb309))) (fun _ hk => hk.2) (.int .i64 t305)) (fun _ hk => hk.2) (.slice Ao85 t306.length co85)) (fun _ h_ => h_.1)))); (case side2 => exact (Kd.N_reads' HO308.out).2.1); rintro e w86 ⟨rfl, hb⟩; refine ⟨_, rfl, ?_⟩; have n0_ := am_ (Kd.N_below (Nx_ (Kd.N_mono (Kd.N_far (p := ⟨gb309, 1, none⟩) (Kd.N_far (p := ⟨gb309, 0, none⟩) (Kd.N_mono HO308.out (fun k_ hk => (⟨hk, hk.2⟩ : _ ∧ k_ ≠ gb309))) (fun _ hk => hk.2) (.int .i64 t305)) (fun _ hk => hk.2) (.slice Ao85 t306.length co85)) (fun _ h_ => h_.1))) hb); have n1_ := am_ (bw_ BK297 hb); have n2_ := am_ (bw_ BK298 hb); have n3_ := am_ (bw_ BK299 hb); have n4_ := am_ (blk_below (g := gb309) (o := .cells #[.int .i64 t305, .slice Ao85 t306.length co85] 28 (0, 0)) (pu2_ BK309) hb); have n5_ := am_ (below_step (bb_ HB.out) hb); clear HO308 BK297 BK298 BK299 BK309 HB; revert n0_ n1_ n2_ n3_ n4_ n5_; intro HO308 BK297 BK298 BK299 BK309 HB; (try clear hb); (try clear hb2); (try clear hk); (try clear hi); obtain ⟨hcz87_0, hcz87_1, hfz87_0, hfz87_1⟩ := bx2_ BK299))
         refine bodyPost_ret (results_ct rfl _ _ gb299 28 #[.int .i64 0, .slice none 0 0] (0, 0) _ rfl (pu2_ BK299) Try.underlying28 rfl (by kernel_rfl)) rfl ?_
         exact ⟨_, er_, by first | exact Kd.S_nil _ _ _ _ _ | exact Kd.N_nil _ _ _ _ _ | exact Kd.V_nil _ _ _ _ _ | exact Kd.Q_nil _ _ _ _ _ | exact Kd.R_nil _ _ _ _ _, bb_ HB.out⟩
       ·replace c49 := Bool.eq_false_iff.mpr c49
        subst c49
        have H1 : (some (0, ([] : List (List Int)), 5)) = some (r1, r2, r3) := by rw [if_neg (show ¬ (false = true) by decide)] at H; exact H
        clear H
        have H := H1
        clear H1
        simp only [Option.some.injEq, Prod.mk.injEq] at H
        obtain ⟨rfl, rfl, rfl⟩ := H
        have hnb88 := NB297_298.out
        have hnc88 := NB298_297.out
        have hnb89 := NB297_299.out
        have hnc89 := NB299_297.out
        obtain ⟨hcz90_0, hcz90_1, hfz90_0, hfz90_1⟩ := bx2_ BK297
        have hnb91 := NB298_299.out
        have hnc91 := NB299_298.out
        obtain ⟨hcz92_0, hcz92_1, hcz92_2, hcz92_3, hfz92_0, hfz92_1, hfz92_2, hfz92_3⟩ := bx4_ BK298
        go_wp2_with (first | ((with_reducible refine gate_callee (f := 62) rfl ?_); refine goesL_ (some 34) rfl rfl Try.func62 (by kernel_rfl) rfl #[.agg #[.int .i64 a0_0, .slice A0_1 l0_1.length c0_1], .agg #[.int .i64 a1_0, .int .i64 a1_1, .int .i64 a1_2, .slice A1_3 l1_3.length c1_3]] rfl lm_ ?_; (with_reducible refine (spec_l04Possible.calls kj20 a0_0 _ _ l0_1 a1_0 a1_1 a1_2 _ _ l1_3 false _ ?side1 ?side2 ?side3 ?side4 A48.out).mono ?_); (case side1 => exact cb_ HR0_1 HB); (case side2 => exact HC0_1.out); (case side3 => exact cb_ HR1_3 HB); (case side4 => exact HC1_3.out); rintro e w93 ⟨rfl, hb⟩; refine ⟨_, rfl, ?_⟩; have n_ := bd3_ BK297 BK298 BK299 HB hb; clear BK297 BK298 BK299 HB; obtain ⟨BK297, BK298, BK299, HB⟩ := n_; (try clear hb); (try clear hb2); (try clear hk); (try clear hi); obtain ⟨hcz94_0, hcz94_1, hfz94_0, hfz94_1⟩ := bx2_ BK299))
        refine bodyPost_ret (results_ct rfl _ _ gb299 28 #[.int .i64 0, .slice none 0 0] (0, 0) _ rfl (pu2_ BK299) Try.underlying28 rfl (by kernel_rfl)) rfl ?_
        exact ⟨_, er_, by first | exact Kd.S_nil _ _ _ _ _ | exact Kd.N_nil _ _ _ _ _ | exact Kd.V_nil _ _ _ _ _ | exact Kd.Q_nil _ _ _ _ _ | exact Kd.R_nil _ _ _ _ _, bb_ HB.out⟩
  ·replace c6 := Bool.eq_false_iff.mpr c6
   subst c6
   have H1 : (some (0, ([] : List (List Int)), 2)) = some (r1, r2, r3) := by rw [if_neg (show ¬ (false = true) by decide)] at H; exact H
   clear H
   have H := H1
   clear H1
   simp only [Option.some.injEq, Prod.mk.injEq] at H
   obtain ⟨rfl, rfl, rfl⟩ := H
   go_enter Try.func23, Try.ntmps23
   go_wp2_with (first | (refine be_ 2 28 #[.int .i64 a0_0, .slice A0_1 l0_1.length c0_1] ?_; intro gb297 hg w95 hbox hb; have n_ := ba0_ HB hbox hb hg; clear  HB hb hbox hg; obtain ⟨HB, BK297, GW297, GE297⟩ := n_) | (refine be_ 3 44 #[.int .i64 a1_0, .int .i64 a1_1, .int .i64 a1_2, .slice A1_3 l1_3.length c1_3] ?_; intro gb298 hg w96 hbox hb; have n_ := ba1_ BK297 HB hbox hb hg; clear BK297 HB hb hbox hg; obtain ⟨BK297, HB, BK298, GW298, GE298, NB297_298, NB298_297⟩ := n_) | (refine be_ 4 28 #[.int .i64 0, .slice none 0 0] ?_; intro gb299 hg w97 hbox hb; have n_ := ba2_ BK297 BK298 HB hbox hb hg; clear BK297 BK298 HB hb hbox hg; obtain ⟨BK297, BK298, HB, BK299, GW299, GE299, NB297_299, NB299_297, NB298_299, NB299_298⟩ := n_; have hnb98 := NB297_298.out; have hnc98 := NB298_297.out; have hnb99 := NB297_299.out; have hnc99 := NB299_297.out; obtain ⟨hcz100_0, hcz100_1, hfz100_0, hfz100_1⟩ := bx2_ BK297) | ((with_reducible refine gate_callee (f := 35) rfl ?_); refine goesL_ (some 8) rfl rfl Try.func35 (by kernel_rfl) rfl #[.agg #[.int .i64 a0_0, .slice A0_1 l0_1.length c0_1]] rfl lm_ ?_; (with_reducible refine (spec_IsPresentation.calls k a0_0 _ _ l0_1 true _ ?side1 ?side2 A3.out).mono ?_); (case side1 => exact cb_ HR0_1 HB); (case side2 => exact HC0_1.out); rintro e w101 ⟨rfl, hb⟩; refine ⟨_, rfl, ?_⟩; have n_ := bd3_ BK297 BK298 BK299 HB hb; clear BK297 BK298 BK299 HB; obtain ⟨BK297, BK298, BK299, HB⟩ := n_; (try clear hb); (try clear hb2); (try clear hk); (try clear hi); have hnb102 := NB298_299.out; have hnc102 := NB299_298.out; obtain ⟨hcz103_0, hcz103_1, hcz103_2, hcz103_3, hfz103_0, hfz103_1, hfz103_2, hfz103_3⟩ := bx4_ BK298) | ((with_reducible refine gate_callee (f := 39) rfl ?_); refine goesL_ (some 13) rfl rfl Try.func39 (by kernel_rfl) rfl #[.int .i64 a1_0, .int .i64 1, .int .i64 6] rfl lm_ ?_; (with_reducible refine (spec_l01In.calls a1_0 1 6 false _ A5.out).mono ?_); rintro e w' ⟨rfl, ⟨nd, rfl⟩⟩; refine ⟨_, rfl, ?_⟩; (try (rw [drewN_self w101]; generalize hq_ : World.drewN w101 _ = w101; have n0_ : Aside0 (w101.heap[gb297]? = some (.cells #[.int .i64 a0_0, .slice A0_1 l0_1.length c0_1] 28 (0, 0))) := ⟨by rw [← hq_]; exact (bk_ BK297.out)⟩; have n1_ : Aside0 (w101.heap[gb298]? = some (.cells #[.int .i64 a1_0, .int .i64 a1_1, .int .i64 a1_2, .slice A1_3 l1_3.length c1_3] 44 (0, 0))) := ⟨by rw [← hq_]; exact (bk_ BK298.out)⟩; have n2_ : Aside0 (w101.heap[gb299]? = some (.cells #[.int .i64 0, .slice none 0 0] 28 (0, 0))) := ⟨by rw [← hq_]; exact (bk_ BK299.out)⟩; have n3_ : Aside0 (Below w.heap.size w w101) := ⟨by rw [← hq_]; exact (bb_ HB.out)⟩; clear BK297 BK298 BK299 HB hq_; have BK297 := n0_; have BK298 := n1_; have BK299 := n2_; have HB := n3_; clear n0_ n1_ n2_ n3_)); (try obtain ⟨hcz100_0, hcz100_1, hfz100_0, hfz100_1⟩ := bx2_ BK297); (try obtain ⟨hcz103_0, hcz103_1, hcz103_2, hcz103_3, hfz103_0, hfz103_1, hfz103_2, hfz103_3⟩ := bx4_ BK298); obtain ⟨hcz104_0, hcz104_1, hfz104_0, hfz104_1⟩ := bx2_ BK299))
   refine bodyPost_ret (results_ct rfl _ _ gb299 28 #[.int .i64 0, .slice none 0 0] (0, 0) _ rfl (pu2_ BK299) Try.underlying28 rfl (by kernel_rfl)) rfl ?_
   exact ⟨_, er_, by first | exact Kd.S_nil _ _ _ _ _ | exact Kd.N_nil _ _ _ _ _ | exact Kd.V_nil _ _ _ _ _ | exact Kd.Q_nil _ _ _ _ _ | exact Kd.R_nil _ _ _ _ _, bb_ HB.out⟩
 ·replace c4 := Bool.eq_false_iff.mpr c4
  subst c4
  have H1 : (some (0, ([] : List (List Int)), 1)) = some (r1, r2, r3) := by rw [if_neg (show ¬ (false = true) by decide)] at H; exact H
  clear H
  have H := H1
  clear H1
  simp only [Option.some.injEq, Prod.mk.injEq] at H
  obtain ⟨rfl, rfl, rfl⟩ := H
  go_enter Try.func23, Try.ntmps23
  go_wp2_with (first | (refine be_ 2 28 #[.int .i64 a0_0, .slice A0_1 l0_1.length c0_1] ?_; intro gb297 hg w105 hbox hb; have n_ := ba0_ HB hbox hb hg; clear  HB hb hbox hg; obtain ⟨HB, BK297, GW297, GE297⟩ := n_) | (refine be_ 3 44 #[.int .i64 a1_0, .int .i64 a1_1, .int .i64 a1_2, .slice A1_3 l1_3.length c1_3] ?_; intro gb298 hg w106 hbox hb; have n_ := ba1_ BK297 HB hbox hb hg; clear BK297 HB hb hbox hg; obtain ⟨BK297, HB, BK298, GW298, GE298, NB297_298, NB298_297⟩ := n_) | (refine be_ 4 28 #[.int .i64 0, .slice none 0 0] ?_; intro gb299 hg w107 hbox hb; have n_ := ba2_ BK297 BK298 HB hbox hb hg; clear BK297 BK298 HB hb hbox hg; obtain ⟨BK297, BK298, HB, BK299, GW299, GE299, NB297_299, NB299_297, NB298_299, NB299_298⟩ := n_; have hnb108 := NB297_298.out; have hnc108 := NB298_297.out; have hnb109 := NB297_299.out; have hnc109 := NB299_297.out; obtain ⟨hcz110_0, hcz110_1, hfz110_0, hfz110_1⟩ := bx2_ BK297) | ((with_reducible refine gate_callee (f := 35) rfl ?_); refine goesL_ (some 8) rfl rfl Try.func35 (by kernel_rfl) rfl #[.agg #[.int .i64 a0_0, .slice A0_1 l0_1.length c0_1]] rfl lm_ ?_; (with_reducible refine (spec_IsPresentation.calls k a0_0 _ _ l0_1 false _ ?side1 ?side2 A3.out).mono ?_); (case side1 => exact cb_ HR0_1 HB); (case side2 => exact HC0_1.out); rintro e w111 ⟨rfl, hb⟩; refine ⟨_, rfl, ?_⟩; have n_ := bd3_ BK297 BK298 BK299 HB hb; clear BK297 BK298 BK299 HB; obtain ⟨BK297, BK298, BK299, HB⟩ := n_; (try clear hb); (try clear hb2); (try clear hk); (try clear hi); have hnb112 := NB299_298.out; have hnc112 := NB298_299.out; obtain ⟨hcz113_0, hcz113_1, hfz113_0, hfz113_1⟩ := bx2_ BK299))
  refine bodyPost_ret (results_ct rfl _ _ gb299 28 #[.int .i64 0, .slice none 0 0] (0, 0) _ rfl (pu2_ BK299) Try.underlying28 rfl (by kernel_rfl)) rfl ?_
  exact ⟨_, er_, by first | exact Kd.S_nil _ _ _ _ _ | exact Kd.N_nil _ _ _ _ _ | exact Kd.V_nil _ _ _ _ _ | exact Kd.Q_nil _ _ _ _ _ | exact Kd.R_nil _ _ _ _ _, bb_ HB.out⟩

/-! ### impl_inRange: function 64 -/
def impl_inRange.f (a0 : Int) (a1 : Int) (a2 : Int) : Option (Bool) := if a1 ≤ a0 then (some (decide (a0 ≤ a2))) else (some false)
theorem impl_inRange.calls (a0 : Int) (a1 : Int) (a2 : Int) (r : Bool) (w : World) (h : impl_inRange.f a0 a1 a2 = some r) :
    Calls Try.prog 64 #[.int .i64 a0, .int .i64 a1, .int .i64 a2] w fun e w' => e = .returned (.bool r) ∧ Drawn0 w w' := by
  have H : (if a1 ≤ a0 then (some (decide (a0 ≤ a2))) else (some false)) = some r := h
  clear h
  by_cases c4 : a1 ≤ a0
  · rw [if_pos c4] at H
    have c4b0 : decide (a1 ≤ a0) = true := decide_eq_true c4
    clear c4
    obtain rfl := Option.some.inj H
    go_enter Try.func64, Try.ntmps64
    go_wp2
    go_ret
    exact ⟨by first | rfl | (simp; done) | (simp [*]; done), by repeat (first | exact Drawn0.refl _ | apply Drawn0.step)⟩
  · rw [if_neg c4] at H
    have c4b0 : decide (a1 ≤ a0) = false := decide_eq_false c4
    clear c4
    obtain rfl := Option.some.inj H
    go_enter Try.func64, Try.ntmps64
    go_wp2
    go_ret
    exact ⟨by first | rfl | (simp; done) | (simp [*]; done), by repeat (first | exact Drawn0.refl _ | apply Drawn0.step)⟩

/-! ### impl_reduced: function 58 -/
def impl_reduced.l0 : Nat → List Int → List Int → Int → Int → Option (List Int)
 | 0, _, _, _, _ => none
 | k + 1, x3, x7, x8, x9 => if x9 < x8 then (if 0 ≤ x9 then (if x9 < (x7.length : Int) then (if (x3.length : Int) > 0 then (if 0 ≤ (wrap64 ((x3.length : Int) - 1)) then (if (wrap64 ((x3.length : Int) - 1)) < (x3.length : Int) then (if (rd x3 (wrap64 ((x3.length : Int) - 1))) = (wrap64 (-(rd x7 x9))) then (if (wrap64 ((x3.length : Int) - 1)) ≤ (x3.length : Int) then (impl_reduced.l0 k (x3.take ((wrap64 ((x3.length : Int) - 1)) : Int).toNat) x7 x8 (wrap64 (x9 + 1))) else (none)) else (if x3.length < 17592186044416 then (impl_reduced.l0 k (x3 ++ [rd x7 x9]) x7 x8 (wrap64 (x9 + 1))) else (none))) else (none)) else (none)) else (if x3.length < 17592186044416 then (impl_reduced.l0 k (x3 ++ [rd x7 x9]) x7 x8 (wrap64 (x9 + 1))) else (none))) else (none)) else (none)) else (some x3)
def impl_reduced.f (k : Nat) (l0 : List Int) : Option (List Int) := impl_reduced.l0 k ([] : List Int) l0 (l0.length : Int) 0
theorem impl_reduced.calls (k : Nat) (A0 : Option Addr) (c0 : Nat) (l0 : List Int) (r : List Int) (w : World) (hr0 : Kd.C (Kd.int .i64) w A0 l0.length l0) (hc0 : l0.length ≤ c0) (h : impl_reduced.f k l0 = some r) :
  Calls Try.prog 58 #[.slice A0 l0.length c0] w fun e w' => ∃ v0_ : Value, e = .returned (v0_) ∧ Kd.R (Kd.int .i64) 2 w' w.heap.size (fun _ => True) v0_ r ∧ Below w.heap.size w w' := by
 have HR0 := am_ hr0
 have HC0 := am_ hc0
 clear hr0 hc0
 have HB := am_ (Below.refl w.heap.size w)
 have H : (impl_reduced.l0 k ([] : List Int) l0 (l0.length : Int) 0) = some r := h
 clear h
 have H' := am_ H
 clear H
 go_enter Try.func58, Try.ntmps58
 go_wp2
 go_loopg [3, 9] k (fun kq v3 v9 w' => ∃ (x3_1 : List Int) (x9_1 : Int), v9 = .int .i64 x9_1 ∧ Aside0 (impl_reduced.l0 kq x3_1 l0 (l0.length : Int) x9_1 = some r) ∧ Aside0 (kq ≤ k) ∧ Aside0 (Kd.R (Kd.int .i64) 2 w' w.heap.size (fun _ => True) v3 x3_1) ∧ Aside0 (Below w.heap.size w w'))
 case atStart => exact ⟨(([] : List Int)), (0), (by first | rfl | (simp; done) | (simp [*]; done)), H', ⟨Nat.le_refl _⟩, ⟨by first | exact Kd.R_nil _ _ _ _ _ | exact Kd.N_nil _ _ _ _ _ | exact Kd.V_nil _ _ _ _ _ | exact Kd.Q_nil _ _ _ _ _ | exact Kd.S_nil _ _ _ _ _⟩, ⟨bb_ HB.out⟩⟩
 case round =>
  clear H'
  obtain ⟨x3_1, x9_1, rfl, HA, HK1, HO_3, HB⟩ := hrel
  cases gk with
  | zero => exact absurd HA.out (by simp [impl_reduced.l0])
  | succ k1 =>
   have H := HA.out
   clear HA
   simp only [impl_reduced.l0] at H
   by_cases c2 : x9_1 < (l0.length : Int)
   ·rw [if_pos c2] at H
    have c2b0 : decide (x9_1 < (l0.length : Int)) = true := decide_eq_true c2
    clear c2
    by_cases c3 : 0 ≤ x9_1
    ·rw [if_pos c3] at H
     have c3b0 : decide (0 ≤ x9_1) = true := decide_eq_true c3
     clear c3
     by_cases c4 : x9_1 < (l0.length : Int)
     ·rw [if_pos c4] at H
      have c4b0 : decide (x9_1 < (l0.length : Int)) = true := decide_eq_true c4
      clear c4
      by_cases c5 : (x3_1.length : Int) > 0
      ·rw [if_pos c5] at H
       have c5b0 : decide (0 < (x3_1.length : Int)) = true := decide_eq_true c5
       have c5b1 : decide (0 < x3_1.length) = true := decide_eq_true (by omega)
       clear c5
       obtain ⟨ji6, hji6⟩ : ∃ j_ : Int, (wrap64 ((x3_1.length : Int) - 1)) = j_ := ⟨_, rfl⟩
       replace H : (if 0 ≤ (ji6) then (if (ji6) < (x3_1.length : Int) then (if (rd x3_1 (ji6)) = (wrap64 (-(rd l0 x9_1))) then (if (ji6) ≤ (x3_1.length : Int) then (impl_reduced.l0 k1 (x3_1.take ((ji6) : Int).toNat) l0 (l0.length : Int) (wrap64 (x9_1 + 1))) else (none)) else (if x3_1.length < 17592186044416 then (impl_reduced.l0 k1 (x3_1 ++ [rd l0 x9_1]) l0 (l0.length : Int) (wrap64 (x9_1 + 1))) else (none))) else (none)) else (none)) = some r := by first | (rw [hji6] at H; exact H) | (simp only [hji6] at H ⊢; exact H)
       have hji6w : (IntKind.i64.wrap ((x3_1.length : Int) - 1)) = ji6 := (i64_w _).trans hji6
       by_cases c7 : 0 ≤ (ji6)
       ·rw [if_pos c7] at H
        have c7b0 : decide (0 ≤ (ji6)) = true := decide_eq_true c7
        clear c7
        by_cases c8 : (ji6) < (x3_1.length : Int)
        ·rw [if_pos c8] at H
         have c8b0 : decide ((ji6) < (x3_1.length : Int)) = true := decide_eq_true c8
         clear c8
         by_cases c9 : (rd x3_1 (ji6)) = (wrap64 (-(rd l0 x9_1)))
         ·rw [if_pos c9] at H
          have c9b0 : ((rd x3_1 (ji6)) == (wrap64 (-(rd l0 x9_1)))) = true := beq_iff_eq.mpr c9
          have c9b1 : ((rd x3_1 (ji6)) != (wrap64 (-(rd l0 x9_1)))) = false := bne_eq_false_iff_eq.mpr c9
          clear c9
          by_cases c10 : (ji6) ≤ (x3_1.length : Int)
          ·rw [if_pos c10] at H
           have c10b0 := eq_true c10
           have c10b1 : decide ((ji6) ≤ (x3_1.length : Int)) = true := decide_eq_true c10
           clear c10
           obtain ⟨y313, hy313⟩ : ∃ y_ : List Int, y_ = (x3_1.take ((ji6) : Int).toNat) := ⟨_, rfl⟩
           replace H : (impl_reduced.l0 k1 y313 l0 (l0.length : Int) (wrap64 (x9_1 + 1))) = some r := hq_ hy313 H
           have Ny313 := am_ hy313
           clear hy313
           have H' := am_ H
           clear H
           have p311 : 0 ≤ (x9_1 : Int) := da_
           have q311 : x9_1 < (l0.length : Int) := da_
           obtain ⟨ad311, e311, hx311_0⟩ := Kd.at_int HR0.out x9_1 p311 q311
           cases e311
           replace hx311_0 := ce_ HB hx311_0
           replace p311 := eq_true p311
           replace q311 := eq_true q311
           obtain ⟨Ao11, co11, eo11⟩ := Kd.R_slice HO_3.out
           subst eo11
           have p312 : 0 ≤ ((ji6) : Int) := da_
           have q312 : (ji6) < (x3_1.length : Int) := da_
           obtain ⟨ad312, e312, hx312_0⟩ := Kd.at_int (Kd.R_reads' HO_3.out).2.2 (ji6) p312 q312
           cases e312
           replace p312 := eq_true p312
           replace q312 := eq_true q312
           have q12 : ((ji6) : Int) ≤ ((x3_1.length : Int) : Int) := da_
           obtain ⟨i012, hi012, _, hsz12, _⟩ := info_parts info2
           have hcut12 := cut_to (P := Try.prog) 39 2 .i64 Try.underlying39 hi012 (some ad312) x3_1.length co11 (ji6) da_ q12 (Kd.R_reads' HO_3.out).2.1
           have hr12 := Kd.R_take (m := ((ji6) : Int).toNat) HO_3.out (by omega)
           have hy12 : y313.length = ((ji6) : Int).toNat := (by rw [Ny313.out, List.length_take]; omega)
           rw [← Ny313.out] at hr12
           rw [← hy12] at hr12 hcut12
           clear hy12 hi012 hsz12 HO_3
           have HO315 := am_ hr12
           clear hr12
           replace q12 := eq_true q12
           go_wp2
           go_roundg k1
           case measure => have := HK1.out; omega
           case rel => exact ⟨(y313), (wrap64 (x9_1 + 1)), (by first | rfl | (simp; done) | (simp [*]; done)), H', ⟨by have := HK1.out; omega⟩, ⟨rk_ HO315.out⟩, ⟨bb_ HB.out⟩⟩
          ·rw [if_neg c10] at H
           exact absurd H (by simp)
         ·rw [if_neg c9] at H
          have c9b0 : ((rd x3_1 (ji6)) == (wrap64 (-(rd l0 x9_1)))) = false := beq_eq_false_iff_ne.mpr c9
          have c9b1 : ((rd x3_1 (ji6)) != (wrap64 (-(rd l0 x9_1)))) = true := bne_iff_ne.mpr c9
          by_cases c13 : x3_1.length < 17592186044416
          ·rw [if_pos c13] at H
           have LMc13 := am_ c13
           clear c13
           obtain ⟨y316, hy316⟩ : ∃ y_ : List Int, y_ = (x3_1 ++ [rd l0 x9_1]) := ⟨_, rfl⟩
           replace H : (impl_reduced.l0 k1 y316 l0 (l0.length : Int) (wrap64 (x9_1 + 1))) = some r := hq_ hy316 H
           have Ny316 := am_ hy316
           clear hy316
           have H' := am_ H
           clear H
           have p311 : 0 ≤ (x9_1 : Int) := da_
           have q311 : x9_1 < (l0.length : Int) := da_
           obtain ⟨ad311, e311, hx311_0⟩ := Kd.at_int HR0.out x9_1 p311 q311
           cases e311
           replace hx311_0 := ce_ HB hx311_0
           replace p311 := eq_true p311
           replace q311 := eq_true q311
           obtain ⟨Ao14, co14, eo14⟩ := Kd.R_slice HO_3.out
           subst eo14
           have p312 : 0 ≤ ((ji6) : Int) := da_
           have q312 : (ji6) < (x3_1.length : Int) := da_
           obtain ⟨ad312, e312, hx312_0⟩ := Kd.at_int (Kd.R_reads' HO_3.out).2.2 (ji6) p312 q312
           cases e312
           replace p312 := eq_true p312
           replace q312 := eq_true q312
           go_wp2_with (first | ((with_reducible refine gate_builtin (b := .append) (xs := #[.tmp 31, .tmp 33]) rfl ?_); at_builtin; refine Kd.R_append (Kd.int .i64) (w0 := w) w.heap.size rfl (.tmp 31) (.tmp 33) 39 2 (.int .i64 0) 8 rfl Try.underlying39 info2 rfl (by decide) (by omega) (.slice (some ad312) x3_1.length co14) x3_1 (rd l0 x9_1) [.int .i64 (rd l0 x9_1)] (fun _ => True) (fun _ => False) rfl rfl ?aP (fun _ hk => hk.elim) ?aF ?aO ?aB ?aS ?aL ?_; (case aP => exact rfl); (case aB => exact (bb_ HB.out)); (case aF => exact (fun _ _ => trivial)); (case aO => exact (rk_ HO_3.out)); (case aS => exact (below_size (bb_ HB.out))); (case aL => have := LMc13.out; omega); intro v317 w15 ho hb hg hat; rw [← Ny316.out] at ho; have n0_ := am_ (hb); have n1_ := am_ (ho); clear HB HO_3; revert n0_ n1_; intro HB HO318; clear ho hb hg hat))
           go_roundg k1
           case measure => have := HK1.out; omega
           case rel => exact ⟨(y316), (wrap64 (x9_1 + 1)), (by first | rfl | (simp; done) | (simp [*]; done)), H', ⟨by have := HK1.out; omega⟩, ⟨rk_ HO318.out⟩, ⟨bb_ HB.out⟩⟩
          ·rw [if_neg c13] at H
           exact absurd H (by simp)
        ·rw [if_neg c8] at H
         exact absurd H (by simp)
       ·rw [if_neg c7] at H
        exact absurd H (by simp)
      ·rw [if_neg c5] at H
       have c5b0 : decide (0 < (x3_1.length : Int)) = false := decide_eq_false c5
       have c5b1 : decide (0 < x3_1.length) = false := decide_eq_false (by omega)
       clear c5
       by_cases c16 : x3_1.length < 17592186044416
       ·rw [if_pos c16] at H
        have LMc16 := am_ c16
        clear c16
        obtain ⟨y319, hy319⟩ : ∃ y_ : List Int, y_ = (x3_1 ++ [rd l0 x9_1]) := ⟨_, rfl⟩
        replace H : (impl_reduced.l0 k1 y319 l0 (l0.length : Int) (wrap64 (x9_1 + 1))) = some r := hq_ hy319 H
        have Ny319 := am_ hy319
        clear hy319
        have H' := am_ H
        clear H
        have p311 : 0 ≤ (x9_1 : Int) := da_
        have q311 : x9_1 < (l0.length : Int) := da_
        obtain ⟨ad311, e311, hx311_0⟩ := Kd.at_int HR0.out x9_1 p311 q311
        cases e311
        replace hx311_0 := ce_ HB hx311_0
        replace p311 := eq_true p311
        replace q311 := eq_true q311
        obtain ⟨Ao17, co17, eo17⟩ := Kd.R_slice HO_3.out
        subst eo17
        go_wp2_with (first | ((with_reducible refine gate_builtin (b := .append) (xs := #[.tmp 31, .tmp 33]) rfl ?_); at_builtin; refine Kd.R_append (Kd.int .i64) (w0 := w) w.heap.size rfl (.tmp 31) (.tmp 33) 39 2 (.int .i64 0) 8 rfl Try.underlying39 info2 rfl (by decide) (by omega) (.slice Ao17 x3_1.length co17) x3_1 (rd l0 x9_1) [.int .i64 (rd l0 x9_1)] (fun _ => True) (fun _ => False) rfl rfl ?aP (fun _ hk => hk.elim) ?aF ?aO ?aB ?aS ?aL ?_; (case aP => exact rfl); (case aB => exact (bb_ HB.out)); (case aF => exact (fun _ _ => trivial)); (case aO => exact (rk_ HO_3.out)); (case aS => exact (below_size (bb_ HB.out))); (case aL => have := LMc16.out; omega); intro v320 w18 ho hb hg hat; rw [← Ny319.out] at ho; have n0_ := am_ (hb); have n1_ := am_ (ho); clear HB HO_3; revert n0_ n1_; intro HB HO321; clear ho hb hg hat))
        go_roundg k1
        case measure => have := HK1.out; omega
        case rel => exact ⟨(y319), (wrap64 (x9_1 + 1)), (by first | rfl | (simp; done) | (simp [*]; done)), H', ⟨by have := HK1.out; omega⟩, ⟨rk_ HO321.out⟩, ⟨bb_ HB.out⟩⟩
       ·rw [if_neg c16] at H
        exact absurd H (by simp)
     ·rw [if_neg c4] at H
      exact absurd H (by simp)
    ·rw [if_neg c3] at H
     exact absurd H (by simp)
   ·rw [if_neg c2] at H
    have c2b0 : decide (x9_1 < (l0.length : Int)) = false := decide_eq_false c2
    clear c2
    obtain rfl := Option.some.inj H
    go_wp2
    go_ret
    exact ⟨_, er_, Rx_ HO_3.out, bb_ HB.out⟩

/-! ### slices_IndexFunc_int64_int64_125: function 125 -/
/-- The first place at which p holds, counted from i on, or -1. -/
def idxOf {α : Type} (p : α → Bool) : List α → Int → Int
  | [], _ => -1
  | x :: r, i => if p x = true then i else idxOf p r (i + 1)
theorem idxOf_any {α : Type} (p : α → Bool) : ∀ (l : List α) (i : Int), 0 ≤ i → decide (0 ≤ idxOf p l i) = l.any p
  | [], i, _ => by simp [idxOf]
  | x :: r, i, h => by
    unfold idxOf
    by_cases hp : p x = true
    · simp [hp, h]
    · rw [if_neg hp, idxOf_any p r (i + 1) (by omega)]
      simp [hp]
theorem rd_drop (l : List Int) (k : Nat) (h : k < l.length) : l.drop k = rd l k :: l.drop (k + 1) := by
  rw [List.drop_eq_getElem_cons h]
  simp [rd, List.getD, List.getElem?_eq_getElem h]
theorem rd_mem (l : List Int) (k : Nat) (h : k < l.length) : rd l k ∈ l := by
  simp [rd, List.getD, List.getElem?_eq_getElem h]
theorem indexInts (g : Nat) (lb : Array Value) (eg : ∀ args W, (callFunc g args).run Try.prog W = .ok (.enter g args) W)
    (p : Int → Bool) (A0 : Option Addr) (c0 : Nat) (l0 : List Int) (w : World) (hr0 : Kd.C (Kd.int .i64) w A0 l0.length l0)
    (hp : ∀ (W : World) (x : Int), x ∈ l0 → Below w.heap.size w W → Calls Try.prog g (#[.int .i64 x] ++ lb) W fun e w' => e = .returned (.bool (p x)) ∧ Below W.heap.size W w') :
    Calls Try.prog 125 #[.slice A0 l0.length c0, .func (.func g) #[] lb] w fun e w' => e = .returned (.int .i64 (idxOf p l0 0)) ∧ Below w.heap.size w w' := by
  have hbig := hr0.2.1
  have HR0 := Aside0.mk hr0
  have HP := Aside0.mk hp
  clear hr0 hp
  go_enter Try.func125, Try.ntmps125
  go_wp2
  go_loopg [5, 8] l0.length (fun gg _ s8 wr => ∃ kk : Nat, kk ≤ l0.length ∧ l0.length - kk ≤ gg ∧ s8 = .int .i64 kk ∧ Aside0 (Below w.heap.size w wr) ∧ Aside0 (idxOf p l0 0 = idxOf p (l0.drop kk) kk))
  case atStart => exact ⟨0, Nat.zero_le _, by omega, rfl, ⟨Below.refl _ w⟩, ⟨by simp⟩⟩
  case round =>
    obtain ⟨kk, hkk, hg, rfl, BW, AI⟩ := hrel
    by_cases hlt : kk < l0.length
    · have hltz : (kk : Int) < (l0.length : Int) := by omega
      obtain ⟨ad, e, hx0⟩ := Kd.at_int HR0.out (kk : Int) (by omega) (by omega)
      cases e
      have hx : wr.cell? (ad.add kk) = some (.int .i64 (rd l0 kk)) := by
        have := (BW.out.cell (World.block_lt_of_cell? w _ hx0)).trans hx0
        simpa using this
      clear hx0
      have hcall := HP.out wr (rd l0 kk) (rd_mem l0 kk hlt) BW.out
      have AD := Aside0.mk (rd_drop l0 kk hlt)
      generalize rd l0 kk = y at hx hcall AD
      cases hq : p y with
      | true =>
        rw [hq] at hcall
        have HQ := Aside0.mk hq
        clear hq
        go_wp2_with ((with_reducible refine hcall.mono ?_); rintro e w' ⟨rfl, hb'⟩)
        go_ret
        refine ⟨?_, BW.out.trans (hb'.mono BW.out.size)⟩
        rw [AI.out, AD.out]
        simp [idxOf, HQ.out]
      | false =>
        rw [hq] at hcall
        have HQ := Aside0.mk hq
        clear hq
        go_wp2_with ((with_reducible refine hcall.mono ?_); rintro e w' ⟨rfl, hb'⟩)
        go_roundg (l0.length - (kk + 1))
        case measure => omega
        case rel =>
          refine ⟨kk + 1, by omega, by omega, by go_num, ⟨BW.out.trans (hb'.mono BW.out.size)⟩, ⟨?_⟩⟩
          rw [AI.out, AD.out]
          simp [idxOf, HQ.out]
    · have hltz : ¬ (kk : Int) < (l0.length : Int) := by omega
      have hk : kk = l0.length := by omega
      have HK := Aside0.mk hk
      clear hk
      go_wp2
      go_ret
      refine ⟨?_, BW.out⟩
      rw [AI.out, HK.out]
      simp [idxOf]

/-! ### slices_ContainsFunc_int64_int64_121: function 121 -/
theorem containsInts (g : Nat) (lb : Array Value) (eg : ∀ args W, (callFunc g args).run Try.prog W = .ok (.enter g args) W)
    (p : Int → Bool) (A0 : Option Addr) (c0 : Nat) (l0 : List Int) (w : World) (hr0 : Kd.C (Kd.int .i64) w A0 l0.length l0)
    (hp : ∀ (W : World) (x : Int), x ∈ l0 → Below w.heap.size w W → Calls Try.prog g (#[.int .i64 x] ++ lb) W fun e w' => e = .returned (.bool (p x)) ∧ Below W.heap.size W w') :
    Calls Try.prog 121 #[.slice A0 l0.length c0, .func (.func g) #[] lb] w fun e w' => e = .returned (.bool (l0.any p)) ∧ Below w.heap.size w w' := by
  rw [← idxOf_any p l0 0 (Int.le_refl 0)]
  have hI := indexInts g lb eg p A0 c0 l0 w hr0 hp
  clear hr0 hp eg
  go_enter Try.func121, Try.ntmps121
  go_wp2_with (go_at_call 125; refine hI.mono ?_; rintro e w' ⟨rfl, hb'⟩)
  go_ret
  exact ⟨rfl, hb'⟩

/-! ### impl_isWord: function 99 -/
def abs64 (x : Int) : Int := if x < 0 then wrap64 (-x) else x
def isWord_bad (g x : Int) : Bool := x == 0 || (decide (g < abs64 x) || decide (x < wrap64 (-g)))
def impl_isWord.f (l0 : List Int) (a1 : Int) : Option Bool := some (decide (l0.length ≤ 120) && !(l0.any (isWord_bad a1)))
theorem abs_quiet (x : Int) (w : World) : Calls Try.prog 76 #[.int .i64 x] w fun e w' => e = .returned (.int .i64 (abs64 x)) ∧ w' = w := by
  by_cases h : x < 0
  · have E := Aside0.mk (show abs64 x = wrap64 (-x) from if_pos h)
    go_enter Try.func76, Try.ntmps76
    go_wp2
    go_ret
    exact ⟨by rw [E.out] <;> rfl, rfl⟩
  · have E := Aside0.mk (show abs64 x = x from if_neg h)
    go_enter Try.func76, Try.ntmps76
    go_wp2
    go_ret
    exact ⟨by rw [E.out] <;> rfl, rfl⟩
theorem isWord_lit (x g : Int) (B : Nat) (w : World) (hc : w.cell? ⟨B, 0, none⟩ = some (.int .i64 g)) :
    Calls Try.prog 122 #[.int .i64 x, .pointer (some ⟨B, 0, none⟩)] w fun e w' => e = .returned (.bool (isWord_bad g x)) ∧ Drawn0 w w' := by
  have ha := abs_quiet x
  by_cases h0 : x = 0
  · have h0b : (x == 0) = true := by simpa using h0
    have E := Aside0.mk (show isWord_bad g x = true by simp [isWord_bad, h0b])
    clear h0
    go_enter Try.func122, Try.ntmps122
    go_wp2
    go_quiet (fail)
    go_wp2
    go_ret
    exact ⟨by rw [E.out] <;> rfl, by repeat (first | exact Drawn0.refl _ | apply Drawn0.step)⟩
  · have h0b : (x == 0) = false := by simpa using h0
    by_cases h1 : g < abs64 x
    · have h1b : decide (g < abs64 x) = true := decide_eq_true h1
      have E := Aside0.mk (show isWord_bad g x = true by simp [isWord_bad, h1b])
      clear h0 h1
      go_enter Try.func122, Try.ntmps122
      go_wp2
      go_quiet ((go_at_call 76; exact Calls.quiet_of_same (ha _)))
      go_wp2
      go_ret
      exact ⟨by rw [E.out] <;> rfl, by repeat (first | exact Drawn0.refl _ | apply Drawn0.step)⟩
    · have h1b : decide (g < abs64 x) = false := decide_eq_false h1
      have E := Aside0.mk (show isWord_bad g x = decide (x < wrap64 (-g)) by simp [isWord_bad, h0b, h1b])
      clear h0 h1
      go_enter Try.func122, Try.ntmps122
      go_wp2
      go_quiet ((go_at_call 76; exact Calls.quiet_of_same (ha _)))
      go_wp2
      go_ret
      exact ⟨by rw [E.out] <;> rfl, by repeat (first | exact Drawn0.refl _ | apply Drawn0.step)⟩
theorem impl_isWord.calls (A0 : Option Addr) (c0 : Nat) (l0 : List Int) (a1 : Int) (r : Bool) (w : World) (hr0 : Kd.C (Kd.int .i64) w A0 l0.length l0) (hc0 : l0.length ≤ c0) (h : impl_isWord.f l0 a1 = some r) :
    Calls Try.prog 99 #[.slice A0 l0.length c0, .int .i64 a1] w fun e w' => e = .returned (.bool r) ∧ Below w.heap.size w w' := by
  obtain rfl := Option.some.inj h
  clear h
  have hC := fun (W : World) (hb : Below w.heap.size w W) (hB : w.heap.size < W.heap.size) (hc : W.cell? ⟨w.heap.size, 0, none⟩ = some (.int .i64 a1)) =>
    containsInts 122 #[.pointer (some ⟨w.heap.size, 0, none⟩)] (Go.Proofs.enters_of Try.func122 (by kernel_rfl) rfl) (isWord_bad a1) A0 c0 l0 W (Kd.C_below hr0 hb)
      (fun W' x _ hb' => (isWord_lit x a1 w.heap.size W' ((hb'.cell (p := ⟨w.heap.size, 0, none⟩) hB).trans hc)).mono fun _ _ ⟨he, hd⟩ => ⟨he, hd.below⟩)
  have HC := Aside0.mk hC
  clear hC hr0 hc0
  by_cases hl : l0.length ≤ 120
  · have hlz : (l0.length : Int) ≤ 120 := by omega
    have E := Aside0.mk (show (decide (l0.length ≤ 120) && !(l0.any (isWord_bad a1))) = !(l0.any (isWord_bad a1)) by simp [hl])
    clear hl
    go_enter Try.func99, Try.ntmps99
    go_wp2_with (go_at_call 121; refine (HC.out _ ((Below.refl _ w).alloc (Nat.le_refl _) _) (by simp) (by simp)).mono ?_; rintro e w' ⟨rfl, hb'⟩)
    go_ret
    exact ⟨by rw [E.out] <;> rfl, ((Below.refl _ w).alloc (Nat.le_refl _) _).trans (hb'.mono (by simp))⟩
  · have hlz : ¬ (l0.length : Int) ≤ 120 := by omega
    have E := Aside0.mk (show (decide (l0.length ≤ 120) && !(l0.any (isWord_bad a1))) = false by simp [hl])
    clear hl
    go_enter Try.func99, Try.ntmps99
    go_wp2
    go_ret
    exact ⟨by rw [E.out] <;> rfl, (Below.refl _ w).alloc (Nat.le_refl _) _⟩
end Go.Proofs.Ytbcdngjajjgmkaa.PFnSimplify
