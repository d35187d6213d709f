/- Written by this session's program out of the kit's print and this session's contracts. -/
import Derived.Test.YtbcdngjajjgmkaaVFnExactSimplifyPresentationPx0
import Derived.Test.YtbcdngjajjgmkaaVFnExactSimplifyPresentationPx2
import Derived.Test.YtbcdngjajjgmkaaVFnExactSimplifyPresentationPx3
import Derived.Test.YtbcdngjajjgmkaaVFnExactSimplifyPresentationPx4
import Derived.Test.YtbcdngjajjgmkaaVFnExactSimplifyPresentationPx6
import Derived.Test.YtbcdngjajjgmkaaVFnExactSimplifyPresentationPx9
namespace Go.Proofs.Ytbcdngjajjgmkaa.PFnExactSimplifyPresentation
open Go.RowKit Go.Proofs.YtbcdngjajjgmkaaW.PrintWords Go.Proofs.YtbcdngjajjgmkaaW.PrintLast Go.Proofs.YtbcdngjajjgmkaaW.PrintMore
set_option maxHeartbeats 16000000
set_option maxRecDepth 100000
set_option linter.unusedVariables false
set_option linter.unusedSimpArgs false

/-! ### spec_ApplyTietze: function 23 -/
def spec_ApplyTietze.j0 : Nat → Bool → Int → List (List Int) → Int → Int → Int → List Int → Option (Int × (List (List Int)) × Int)
 | 0, _, _, _, _, _, _, _ => none
 | k + 1, x30, x335000, x335001, x336000, x336001, x336002, x336003 => if x30 = true then (some (0, ([] : List (List Int)), 1)) else ((spec_l04Possible.f k x335000 x335001 x336000 x336001 x336002 x336003).bind fun t341 => (if t341 = true then ((spec_l04Move.f k x335000 x335001 x336000 x336001 x336002 x336003).bind fun bt342 => ((spec_IsPresentation.f k bt342.1 bt342.2).bind fun t347 => (if t347 = true then (some (bt342.1, bt342.2, 0)) else (some (0, ([] : List (List Int)), 3))))) else (some (0, ([] : List (List Int)), 5))))
def spec_ApplyTietze.f (k : Nat) (a0_0 : Int) (l0_1 : List (List Int)) (a1_0 : Int) (a1_1 : Int) (a1_2 : Int) (l1_3 : List Int) : Option (Int × (List (List Int)) × Int) := (spec_IsPresentation.f k a0_0 l0_1).bind fun t337 => (if t337 = true then ((spec_l01In.f a1_0 1 6).bind fun t338 => (if t338 = true then ((spec_l04Missing.f k a0_0 l0_1 a1_0 a1_1 a1_2 l1_3).bind fun t339 => (if t339 = true then (some (0, ([] : List (List Int)), 4)) else (if a1_0 = 6 then ((spec_l04Letters.f k l1_3 a0_0).bind fun t340 => (spec_ApplyTietze.j0 k (!t340) a0_0 l0_1 a1_0 a1_1 a1_2 l1_3)) else (spec_ApplyTietze.j0 k false a0_0 l0_1 a1_0 a1_1 a1_2 l1_3)))) else (some (0, ([] : List (List Int)), 2)))) else (some (0, ([] : List (List Int)), 1)))
theorem spec_ApplyTietze.calls (k : Nat) (a0_0 : Int) (A0_1 : Option Addr) (c0_1 : Nat) (l0_1 : List (List Int)) (a1_0 : Int) (a1_1 : Int) (a1_2 : Int) (A1_3 : Option Addr) (c1_3 : Nat) (l1_3 : List Int) (r1 : Int) (r2 : List (List Int)) (r3 : Int) (w : World) (hr0_1 : Kd.C (Kd.slice 2 (Kd.int .i64)) w A0_1 l0_1.length l0_1) (hc0_1 : l0_1.length ≤ c0_1) (hr1_3 : Kd.C (Kd.int .i64) w A1_3 l1_3.length l1_3) (hc1_3 : l1_3.length ≤ c1_3) (h : spec_ApplyTietze.f k a0_0 l0_1 a1_0 a1_1 a1_2 l1_3 = some (r1, r2, r3)) :
  Calls Try.prog 23 #[.agg #[.int .i64 a0_0, .slice A0_1 l0_1.length c0_1], .agg #[.int .i64 a1_0, .int .i64 a1_1, .int .i64 a1_2, .slice A1_3 l1_3.length c1_3]] w fun e w' => ∃ v1_ : Value, e = .returned (.tuple #[.agg #[.int .i64 r1, v1_], .int .i64 r3]) ∧ Kd.N (Kd.slice 2 (Kd.int .i64)) 39 w' w.heap.size (fun k_ => (w.heap.size ≤ k_)) v1_ r2 ∧ Below w.heap.size w w' := by
 have hu28 := Try.underlying28
 have hu44 := Try.underlying44
 have HR0_1 := am_ hr0_1
 have HC0_1 := am_ hc0_1
 clear hr0_1 hc0_1
 have HR1_3 := am_ hr1_3
 have HC1_3 := am_ hc1_3
 clear hr1_3 hc1_3
 have HB := am_ (Below.refl w.heap.size w)
 have H : ((spec_IsPresentation.f k a0_0 l0_1).bind fun t337 => (if t337 = true then ((spec_l01In.f a1_0 1 6).bind fun t338 => (if t338 = true then ((spec_l04Missing.f k a0_0 l0_1 a1_0 a1_1 a1_2 l1_3).bind fun t339 => (if t339 = true then (some (0, ([] : List (List Int)), 4)) else (if a1_0 = 6 then ((spec_l04Letters.f k l1_3 a0_0).bind fun t340 => (spec_ApplyTietze.j0 k (!t340) a0_0 l0_1 a1_0 a1_1 a1_2 l1_3)) else (spec_ApplyTietze.j0 k false a0_0 l0_1 a1_0 a1_1 a1_2 l1_3)))) else (some (0, ([] : List (List Int)), 2)))) else (some (0, ([] : List (List Int)), 1)))) = some (r1, r2, r3) := h
 clear h
 replace H := Option.bind_eq_some_iff.mp H
 obtain ⟨t337, A30, H⟩ := H
 replace H : (if t337 = true then ((spec_l01In.f a1_0 1 6).bind fun t338 => (if t338 = true then ((spec_l04Missing.f k a0_0 l0_1 a1_0 a1_1 a1_2 l1_3).bind fun t339 => (if t339 = true then (some (0, ([] : List (List Int)), 4)) else (if a1_0 = 6 then ((spec_l04Letters.f k l1_3 a0_0).bind fun t340 => (spec_ApplyTietze.j0 k (!t340) a0_0 l0_1 a1_0 a1_1 a1_2 l1_3)) else (spec_ApplyTietze.j0 k false a0_0 l0_1 a1_0 a1_1 a1_2 l1_3)))) else (some (0, ([] : List (List Int)), 2)))) else (some (0, ([] : List (List Int)), 1))) = some (r1, r2, r3) := H
 have A3 := am_ A30
 clear A30
 by_cases c4 : t337 = true
 ·subst c4
  have H1 : ((spec_l01In.f a1_0 1 6).bind fun t338 => (if t338 = true then ((spec_l04Missing.f k a0_0 l0_1 a1_0 a1_1 a1_2 l1_3).bind fun t339 => (if t339 = true then (some (0, ([] : List (List Int)), 4)) else (if a1_0 = 6 then ((spec_l04Letters.f k l1_3 a0_0).bind fun t340 => (spec_ApplyTietze.j0 k (!t340) a0_0 l0_1 a1_0 a1_1 a1_2 l1_3)) else (spec_ApplyTietze.j0 k false a0_0 l0_1 a1_0 a1_1 a1_2 l1_3)))) else (some (0, ([] : List (List Int)), 2)))) = some (r1, r2, r3) := by rw [if_pos rfl] at H; exact H
  clear H
  have H := H1
  clear H1
  replace H := Option.bind_eq_some_iff.mp H
  obtain ⟨t338, A50, H⟩ := H
  replace H : (if t338 = true then ((spec_l04Missing.f k a0_0 l0_1 a1_0 a1_1 a1_2 l1_3).bind fun t339 => (if t339 = true then (some (0, ([] : List (List Int)), 4)) else (if a1_0 = 6 then ((spec_l04Letters.f k l1_3 a0_0).bind fun t340 => (spec_ApplyTietze.j0 k (!t340) a0_0 l0_1 a1_0 a1_1 a1_2 l1_3)) else (spec_ApplyTietze.j0 k false a0_0 l0_1 a1_0 a1_1 a1_2 l1_3)))) else (some (0, ([] : List (List Int)), 2))) = some (r1, r2, r3) := H
  have A5 := am_ A50
  clear A50
  by_cases c6 : t338 = true
  ·subst c6
   have H1 : ((spec_l04Missing.f k a0_0 l0_1 a1_0 a1_1 a1_2 l1_3).bind fun t339 => (if t339 = true then (some (0, ([] : List (List Int)), 4)) else (if a1_0 = 6 then ((spec_l04Letters.f k l1_3 a0_0).bind fun t340 => (spec_ApplyTietze.j0 k (!t340) a0_0 l0_1 a1_0 a1_1 a1_2 l1_3)) else (spec_ApplyTietze.j0 k false a0_0 l0_1 a1_0 a1_1 a1_2 l1_3)))) = some (r1, r2, r3) := by rw [if_pos rfl] at H; exact H
   clear H
   have H := H1
   clear H1
   replace H := Option.bind_eq_some_iff.mp H
   obtain ⟨t339, A70, H⟩ := H
   replace H : (if t339 = true then (some (0, ([] : List (List Int)), 4)) else (if a1_0 = 6 then ((spec_l04Letters.f k l1_3 a0_0).bind fun t340 => (spec_ApplyTietze.j0 k (!t340) a0_0 l0_1 a1_0 a1_1 a1_2 l1_3)) else (spec_ApplyTietze.j0 k false a0_0 l0_1 a1_0 a1_1 a1_2 l1_3))) = some (r1, r2, r3) := H
   have A7 := am_ A70
   clear A70
   by_cases c8 : t339 = true
   ·subst c8
    have H1 : (some (0, ([] : List (List Int)), 4)) = some (r1, r2, r3) := by rw [if_pos rfl] at H; exact H
    clear H
    have H := H1
    clear H1
    simp only [Option.some.injEq, Prod.mk.injEq] at H
    obtain ⟨rfl, rfl, rfl⟩ := H
    go_enter Try.func23, Try.ntmps23
    go_wp2_with (first | (refine be_ 2 28 #[.int .i64 a0_0, .slice A0_1 l0_1.length c0_1] ?_; intro gb334 hg w9 hbox hb; have n_ := ba0_ HB hbox hb hg; clear  HB hb hbox hg; obtain ⟨HB, BK334, GW334, GE334⟩ := n_) | (refine be_ 3 44 #[.int .i64 a1_0, .int .i64 a1_1, .int .i64 a1_2, .slice A1_3 l1_3.length c1_3] ?_; intro gb335 hg w10 hbox hb; have n_ := ba1_ BK334 HB hbox hb hg; clear BK334 HB hb hbox hg; obtain ⟨BK334, HB, BK335, GW335, GE335, NB334_335, NB335_334⟩ := n_) | (refine be_ 4 28 #[.int .i64 0, .slice none 0 0] ?_; intro gb336 hg w11 hbox hb; have n_ := ba2_ BK334 BK335 HB hbox hb hg; clear BK334 BK335 HB hb hbox hg; obtain ⟨BK334, BK335, HB, BK336, GW336, GE336, NB334_336, NB336_334, NB335_336, NB336_335⟩ := n_; have hnb12 := NB334_335.out; have hnc12 := NB335_334.out; have hnb13 := NB334_336.out; have hnc13 := NB336_334.out; obtain ⟨hcz14_0, hcz14_1, hfz14_0, hfz14_1⟩ := bx2_ BK334) | ((with_reducible refine gate_callee (f := 35) rfl ?_); refine goesL_ (some 8) rfl rfl Try.func35 (by kernel_rfl) rfl #[.agg #[.int .i64 a0_0, .slice A0_1 l0_1.length c0_1]] rfl lm_ ?_; (with_reducible refine (spec_IsPresentation.calls k a0_0 _ _ l0_1 true _ ?side1 ?side2 A3.out).mono ?_); (case side1 => exact cb_ HR0_1 HB); (case side2 => exact HC0_1.out); rintro e w15 ⟨rfl, hb⟩; refine ⟨_, rfl, ?_⟩; have n_ := bd3_ BK334 BK335 BK336 HB hb; clear BK334 BK335 BK336 HB; obtain ⟨BK334, BK335, BK336, HB⟩ := n_; (try clear hb); (try clear hb2); (try clear hk); (try clear hi); have hnb16 := NB335_336.out; have hnc16 := NB336_335.out; obtain ⟨hcz17_0, hcz17_1, hcz17_2, hcz17_3, hfz17_0, hfz17_1, hfz17_2, hfz17_3⟩ := bx4_ BK335) | ((with_reducible refine gate_callee (f := 39) rfl ?_); refine goesL_ (some 13) rfl rfl Try.func39 (by kernel_rfl) rfl #[.int .i64 a1_0, .int .i64 1, .int .i64 6] rfl lm_ ?_; (with_reducible refine (spec_l01In.calls a1_0 1 6 true _ A5.out).mono ?_); rintro e w' ⟨rfl, ⟨nd, rfl⟩⟩; refine ⟨_, rfl, ?_⟩; (try (rw [drewN_self w15]; generalize hq_ : World.drewN w15 _ = w15; have n0_ : Aside0 (w15.heap[gb334]? = some (.cells #[.int .i64 a0_0, .slice A0_1 l0_1.length c0_1] 28 (0, 0))) := ⟨by rw [← hq_]; exact (bk_ BK334.out)⟩; have n1_ : Aside0 (w15.heap[gb335]? = some (.cells #[.int .i64 a1_0, .int .i64 a1_1, .int .i64 a1_2, .slice A1_3 l1_3.length c1_3] 44 (0, 0))) := ⟨by rw [← hq_]; exact (bk_ BK335.out)⟩; have n2_ : Aside0 (w15.heap[gb336]? = some (.cells #[.int .i64 0, .slice none 0 0] 28 (0, 0))) := ⟨by rw [← hq_]; exact (bk_ BK336.out)⟩; have n3_ : Aside0 (Below w.heap.size w w15) := ⟨by rw [← hq_]; exact (bb_ HB.out)⟩; clear BK334 BK335 BK336 HB hq_; have BK334 := n0_; have BK335 := n1_; have BK336 := n2_; have HB := n3_; clear n0_ n1_ n2_ n3_)); (try obtain ⟨hcz17_0, hcz17_1, hcz17_2, hcz17_3, hfz17_0, hfz17_1, hfz17_2, hfz17_3⟩ := bx4_ BK335); obtain ⟨hcz18_0, hcz18_1, hfz18_0, hfz18_1⟩ := bx2_ BK334) | ((with_reducible refine gate_callee (f := 60) rfl ?_); refine goesL_ (some 18) rfl rfl Try.func60 (by kernel_rfl) rfl #[.agg #[.int .i64 a0_0, .slice A0_1 l0_1.length c0_1], .agg #[.int .i64 a1_0, .int .i64 a1_1, .int .i64 a1_2, .slice A1_3 l1_3.length c1_3]] rfl lm_ ?_; (with_reducible refine (spec_l04Missing.calls k a0_0 _ _ l0_1 a1_0 a1_1 a1_2 _ _ l1_3 true _ ?side1 ?side2 ?side3 ?side4 A7.out).mono ?_); (case side1 => exact cb_ HR0_1 HB); (case side2 => exact HC0_1.out); (case side3 => exact cb_ HR1_3 HB); (case side4 => exact HC1_3.out); rintro e w19 ⟨rfl, hb⟩; refine ⟨_, rfl, ?_⟩; have n_ := bd3_ BK334 BK335 BK336 HB hb; clear BK334 BK335 BK336 HB; obtain ⟨BK334, BK335, BK336, HB⟩ := n_; (try clear hb); (try clear hb2); (try clear hk); (try clear hi); obtain ⟨hcz20_0, hcz20_1, hfz20_0, hfz20_1⟩ := bx2_ BK336))
    refine bodyPost_ret (results_ct rfl _ _ gb336 28 #[.int .i64 0, .slice none 0 0] (0, 0) _ rfl (pu2_ BK336) Try.underlying28 rfl (by kernel_rfl)) rfl ?_
    exact ⟨_, er_, by first | exact Kd.S_nil _ _ _ _ _ | exact Kd.N_nil _ _ _ _ _ | exact Kd.V_nil _ _ _ _ _ | exact Kd.Q_nil _ _ _ _ _ | exact Kd.R_nil _ _ _ _ _, bb_ HB.out⟩
   ·replace c8 := Bool.eq_false_iff.mpr c8
    subst c8
    have H1 : (if a1_0 = 6 then ((spec_l04Letters.f k l1_3 a0_0).bind fun t340 => (spec_ApplyTietze.j0 k (!t340) a0_0 l0_1 a1_0 a1_1 a1_2 l1_3)) else (spec_ApplyTietze.j0 k false a0_0 l0_1 a1_0 a1_1 a1_2 l1_3)) = some (r1, r2, r3) := by rw [if_neg (show ¬ (false = true) by decide)] at H; exact H
    clear H
    have H := H1
    clear H1
    have HC21 := am_ H
    clear H
    go_enter Try.func23, Try.ntmps23
    go_upto_region 7 with (first | (refine be_ 2 28 #[.int .i64 a0_0, .slice A0_1 l0_1.length c0_1] ?_; intro gb334 hg w22 hbox hb; have n_ := ba0_ HB hbox hb hg; clear  HB hb hbox hg; obtain ⟨HB, BK334, GW334, GE334⟩ := n_) | (refine be_ 3 44 #[.int .i64 a1_0, .int .i64 a1_1, .int .i64 a1_2, .slice A1_3 l1_3.length c1_3] ?_; intro gb335 hg w23 hbox hb; have n_ := ba1_ BK334 HB hbox hb hg; clear BK334 HB hb hbox hg; obtain ⟨BK334, HB, BK335, GW335, GE335, NB334_335, NB335_334⟩ := n_) | (refine be_ 4 28 #[.int .i64 0, .slice none 0 0] ?_; intro gb336 hg w24 hbox hb; have n_ := ba2_ BK334 BK335 HB hbox hb hg; clear BK334 BK335 HB hb hbox hg; obtain ⟨BK334, BK335, HB, BK336, GW336, GE336, NB334_336, NB336_334, NB335_336, NB336_335⟩ := n_; have hnb25 := NB334_335.out; have hnc25 := NB335_334.out; have hnb26 := NB334_336.out; have hnc26 := NB336_334.out; obtain ⟨hcz27_0, hcz27_1, hfz27_0, hfz27_1⟩ := bx2_ BK334) | ((with_reducible refine gate_callee (f := 35) rfl ?_); refine goesL_ (some 8) rfl rfl Try.func35 (by kernel_rfl) rfl #[.agg #[.int .i64 a0_0, .slice A0_1 l0_1.length c0_1]] rfl lm_ ?_; (with_reducible refine (spec_IsPresentation.calls k a0_0 _ _ l0_1 true _ ?side1 ?side2 A3.out).mono ?_); (case side1 => exact cb_ HR0_1 HB); (case side2 => exact HC0_1.out); rintro e w28 ⟨rfl, hb⟩; refine ⟨_, rfl, ?_⟩; have n_ := bd3_ BK334 BK335 BK336 HB hb; clear BK334 BK335 BK336 HB; obtain ⟨BK334, BK335, BK336, HB⟩ := n_; (try clear hb); (try clear hb2); (try clear hk); (try clear hi); have hnb29 := NB335_336.out; have hnc29 := NB336_335.out; obtain ⟨hcz30_0, hcz30_1, hcz30_2, hcz30_3, hfz30_0, hfz30_1, hfz30_2, hfz30_3⟩ := bx4_ BK335) | ((with_reducible refine gate_callee (f := 39) rfl ?_); refine goesL_ (some 13) rfl rfl Try.func39 (by kernel_rfl) rfl #[.int .i64 a1_0, .int .i64 1, .int .i64 6] rfl lm_ ?_; (with_reducible refine (spec_l01In.calls a1_0 1 6 true _ A5.out).mono ?_); rintro e w' ⟨rfl, ⟨nd, rfl⟩⟩; refine ⟨_, rfl, ?_⟩; obtain ⟨hcz31_0, hcz31_1, hfz31_0, hfz31_1⟩ := bx2_ BK334) | ((with_reducible refine gate_callee (f := 60) rfl ?_); refine goesL_ (some 18) rfl rfl Try.func60 (by kernel_rfl) rfl #[.agg #[.int .i64 a0_0, .slice A0_1 l0_1.length c0_1], .agg #[.int .i64 a1_0, .int .i64 a1_1, .int .i64 a1_2, .slice A1_3 l1_3.length c1_3]] rfl lm_ ?_; (with_reducible refine (spec_l04Missing.calls k a0_0 _ _ l0_1 a1_0 a1_1 a1_2 _ _ l1_3 false _ ?side1 ?side2 ?side3 ?side4 A7.out).mono ?_); (case side1 => repeat (first | exact (Kd.C_below HR0_1.out (bb_ HB.out)) | (with_reducible refine Kd.C_alloc ?_ _) | (with_reducible refine Kd.C_drewN ?_ _) | (with_reducible refine Kd.C_drew ?_))); (case side2 => exact HC0_1.out); (case side3 => repeat (first | exact (Kd.C_below HR1_3.out (bb_ HB.out)) | (with_reducible refine Kd.C_alloc ?_ _) | (with_reducible refine Kd.C_drewN ?_ _) | (with_reducible refine Kd.C_drew ?_))); (case side4 => exact HC1_3.out); rintro e w32 ⟨rfl, hb⟩; refine ⟨_, rfl, ?_⟩; have n_ := bd3_ BK334 BK335 BK336 HB hb; clear BK334 BK335 BK336 HB; obtain ⟨BK334, BK335, BK336, HB⟩ := n_; (try clear hb); (try clear hb2); (try clear hk); (try clear hi)))
    (try simp only [Act.put, List.setIfInBounds_toArray, List.set_cons_zero, List.set_cons_succ])
    go_cut [30] (fun v30 wc => ∃ (kq : Nat) (x30_20 : Bool), v30 = .bool x30_20 ∧ Aside0 (spec_ApplyTietze.j0 kq x30_20 a0_0 l0_1 a1_0 a1_1 a1_2 l1_3 = some (r1, r2, r3)) ∧ Aside0 (kq ≤ k) ∧ Aside0 (wc.heap[gb334]? = some (.cells #[.int .i64 a0_0, (.slice A0_1 l0_1.length c0_1)] 28 (0, 0))) ∧ Aside0 (wc.heap[gb335]? = some (.cells #[.int .i64 a1_0, .int .i64 a1_1, .int .i64 a1_2, (.slice A1_3 l1_3.length c1_3)] 44 (0, 0))) ∧ Aside0 (wc.heap[gb336]? = some (.cells #[.int .i64 0, (.slice none 0 0)] 28 (0, 0))) ∧ Aside0 (Below w.heap.size w wc))
    case first =>
     have H := HC21.out
     clear HC21
     by_cases c33 : a1_0 = 6
     ·rw [if_pos c33] at H
      have c33b0 : (a1_0 == 6) = true := beq_iff_eq.mpr c33
      have c33b1 : (a1_0 != 6) = false := bne_eq_false_iff_eq.mpr c33
      clear c33
      (first | rw [c33b0] | (simp only [i64_w, i32_w]; rw [c33b0]) | skip)
      replace H := Option.bind_eq_some_iff.mp H
      obtain ⟨t340, A340, H⟩ := H
      replace H : (spec_ApplyTietze.j0 k (!t340) a0_0 l0_1 a1_0 a1_1 a1_2 l1_3) = some (r1, r2, r3) := H
      have A34 := am_ A340
      clear A340
      have H' := am_ H
      clear H
      have hnb35 := NB335_334.out
      have hnc35 := NB334_335.out
      have hnb36 := NB335_336.out
      have hnc36 := NB336_335.out
      obtain ⟨hcz37_0, hcz37_1, hcz37_2, hcz37_3, hfz37_0, hfz37_1, hfz37_2, hfz37_3⟩ := bx4_ BK335
      have hnb38 := NB334_336.out
      have hnc38 := NB336_334.out
      obtain ⟨hcz39_0, hcz39_1, hfz39_0, hfz39_1⟩ := bx2_ BK334
      go_wp2_with (first | (go_at_call 61; (with_reducible refine (spec_l04Letters.calls k _ _ l1_3 a0_0 t340 _ ?side1 ?side2 A34.out).mono ?_); (case side1 => exact cb_ HR1_3 HB); (case side2 => exact HC1_3.out); rintro e w40 ⟨rfl, hb⟩; have n_ := bd3_ BK334 BK335 BK336 HB hb; clear BK334 BK335 BK336 HB; obtain ⟨BK334, BK335, BK336, HB⟩ := n_; (try clear hb); (try clear hb2); (try clear hk); (try clear hi)))
      go_meet
      case rel => exact ⟨_, (!t340), (by first | rfl | (simp; done) | (simp [*]; done)), H', ⟨by first | omega | exact Nat.le_refl _⟩, ⟨bk_ BK334.out⟩, ⟨bk_ BK335.out⟩, ⟨bk_ BK336.out⟩, ⟨bb_ HB.out⟩⟩
     ·rw [if_neg c33] at H
      have c33b0 : (a1_0 == 6) = false := beq_eq_false_iff_ne.mpr c33
      have c33b1 : (a1_0 != 6) = true := bne_iff_ne.mpr c33
      (first | rw [c33b0] | (simp only [i64_w, i32_w]; rw [c33b0]) | skip)
      have H' := am_ H
      clear H
      have hnb41 := NB335_334.out
      have hnc41 := NB334_335.out
      have hnb42 := NB335_336.out
      have hnc42 := NB336_335.out
      obtain ⟨hcz43_0, hcz43_1, hcz43_2, hcz43_3, hfz43_0, hfz43_1, hfz43_2, hfz43_3⟩ := bx4_ BK335
      go_wp2
      go_meet
      case rel => exact ⟨_, (false), (by first | rfl | (simp; done) | (simp [*]; done)), H', ⟨by first | omega | exact Nat.le_refl _⟩, ⟨bk_ BK334.out⟩, ⟨bk_ BK335.out⟩, ⟨bk_ BK336.out⟩, ⟨bb_ HB.out⟩⟩
    case rest =>
     clear HC21
     try clear c1
     try clear c2
     try clear p2
     try clear c3
     try clear c4
     try clear c6
     try clear c8
     try clear c12
     try clear c13
     try clear c16
     try clear c23
     try clear c25
     try clear c26
     try clear c29
     try clear c33
     try clear c33b0
     try clear c33b1
     try clear c35
     try clear c36
     try clear c38
     try clear c39
     try clear c41
     try clear c42
     try clear hcz14_0
     try clear hcz14_1
     try clear hcz17_0
     try clear hcz17_1
     try clear hcz17_2
     try clear hcz17_3
     try clear hcz18_0
     try clear hcz18_1
     try clear hcz20_0
     try clear hcz20_1
     try clear hcz27_0
     try clear hcz27_1
     try clear hcz30_0
     try clear hcz30_1
     try clear hcz30_2
     try clear hcz30_3
     try clear hcz31_0
     try clear hcz31_1
     try clear hcz37_0
     try clear hcz37_1
     try clear hcz37_2
     try clear hcz37_3
     try clear hcz39_0
     try clear hcz39_1
     try clear hcz43_0
     try clear hcz43_1
     try clear hcz43_2
     try clear hcz43_3
     try clear hfz14_0
     try clear hfz14_1
     try clear hfz17_0
     try clear hfz17_1
     try clear hfz17_2
     try clear hfz17_3
     try clear hfz18_0
     try clear hfz18_1
     try clear hfz20_0
     try clear hfz20_1
     try clear hfz27_0
     try clear hfz27_1
     try clear hfz30_0
     try clear hfz30_1
     try clear hfz30_2
     try clear hfz30_3
     try clear hfz31_0
     try clear hfz31_1
     try clear hfz37_0
     try clear hfz37_1
     try clear hfz37_2
     try clear hfz37_3
     try clear hfz39_0
     try clear hfz39_1
     try clear hfz43_0
     try clear hfz43_1
     try clear hfz43_2
     try clear hfz43_3
     obtain ⟨kq, x30_20, rfl, HA, HJ20, BK334, BK335, BK336, HB⟩ := hcut
     cases kq with
     | zero => exact absurd HA.out (by simp [spec_ApplyTietze.j0])
     | succ kj20 =>
      have H := HA.out
      clear HA
      simp only [spec_ApplyTietze.j0] at H
      by_cases c44 : x30_20 = true
      ·subst c44
       have H1 : (some (0, ([] : List (List Int)), 1)) = some (r1, r2, r3) := by rw [if_pos rfl] at H; exact H
       clear H
       have H := H1
       clear H1
       simp only [Option.some.injEq, Prod.mk.injEq] at H
       obtain ⟨rfl, rfl, rfl⟩ := H
       have hnb45 := NB336_334.out
       have hnc45 := NB334_336.out
       have hnb46 := NB336_335.out
       have hnc46 := NB335_336.out
       obtain ⟨hcz47_0, hcz47_1, hfz47_0, hfz47_1⟩ := bx2_ BK336
       go_wp2
       refine bodyPost_ret (results_ct rfl _ _ gb336 28 #[.int .i64 0, .slice none 0 0] (0, 0) _ rfl (pu2_ BK336) Try.underlying28 rfl (by kernel_rfl)) rfl ?_
       exact ⟨_, er_, by first | exact Kd.S_nil _ _ _ _ _ | exact Kd.N_nil _ _ _ _ _ | exact Kd.V_nil _ _ _ _ _ | exact Kd.Q_nil _ _ _ _ _ | exact Kd.R_nil _ _ _ _ _, bb_ HB.out⟩
      ·replace c44 := Bool.eq_false_iff.mpr c44
       subst c44
       have H1 : ((spec_l04Possible.f kj20 a0_0 l0_1 a1_0 a1_1 a1_2 l1_3).bind fun t341 => (if t341 = true then ((spec_l04Move.f kj20 a0_0 l0_1 a1_0 a1_1 a1_2 l1_3).bind fun bt342 => ((spec_IsPresentation.f kj20 bt342.1 bt342.2).bind fun t347 => (if t347 = true then (some (bt342.1, bt342.2, 0)) else (some (0, ([] : List (List Int)), 3))))) else (some (0, ([] : List (List Int)), 5)))) = some (r1, r2, r3) := by rw [if_neg (show ¬ (false = true) by decide)] at H; exact H
       clear H
       have H := H1
       clear H1
       replace H := Option.bind_eq_some_iff.mp H
       obtain ⟨t341, A480, H⟩ := H
       replace H : (if t341 = true then ((spec_l04Move.f kj20 a0_0 l0_1 a1_0 a1_1 a1_2 l1_3).bind fun bt342 => ((spec_IsPresentation.f kj20 bt342.1 bt342.2).bind fun t347 => (if t347 = true then (some (bt342.1, bt342.2, 0)) else (some (0, ([] : List (List Int)), 3))))) else (some (0, ([] : List (List Int)), 5))) = some (r1, r2, r3) := H
       have A48 := am_ A480
       clear A480
       by_cases c49 : t341 = true
       ·subst c49
        have H1 : ((spec_l04Move.f kj20 a0_0 l0_1 a1_0 a1_1 a1_2 l1_3).bind fun bt342 => ((spec_IsPresentation.f kj20 bt342.1 bt342.2).bind fun t347 => (if t347 = true then (some (bt342.1, bt342.2, 0)) else (some (0, ([] : List (List Int)), 3))))) = some (r1, r2, r3) := by rw [if_pos rfl] at H; exact H
        clear H
        have H := H1
        clear H1
        replace H := Option.bind_eq_some_iff.mp H
        obtain ⟨⟨t342, t343⟩, A500, H⟩ := H
        replace H : ((spec_IsPresentation.f kj20 t342 t343).bind fun t347 => (if t347 = true then (some (t342, t343, 0)) else (some (0, ([] : List (List Int)), 3)))) = some (r1, r2, r3) := H
        have A50 := am_ A500
        clear A500
        replace H := Option.bind_eq_some_iff.mp H
        obtain ⟨t347, A510, H⟩ := H
        replace H : (if t347 = true then (some (t342, t343, 0)) else (some (0, ([] : List (List Int)), 3))) = some (r1, r2, r3) := H
        have A51 := am_ A510
        clear A510
        by_cases c52 : t347 = true
        ·subst c52
         have H1 : (some (t342, t343, 0)) = some (r1, r2, r3) := by rw [if_pos rfl] at H; exact H
         clear H
         have H := H1
         clear H1
         simp only [Option.some.injEq, Prod.mk.injEq] at H
         obtain ⟨rfl, rfl, rfl⟩ := H
         have hnb53 := NB334_335.out
         have hnc53 := NB335_334.out
         have hnb54 := NB334_336.out
         have hnc54 := NB336_334.out
         obtain ⟨hcz55_0, hcz55_1, hfz55_0, hfz55_1⟩ := bx2_ BK334
         have hnb56 := NB335_336.out
         have hnc56 := NB336_335.out
         obtain ⟨hcz57_0, hcz57_1, hcz57_2, hcz57_3, hfz57_0, hfz57_1, hfz57_2, hfz57_3⟩ := bx4_ BK335
         go_wp2_with (first | ((with_reducible refine gate_callee (f := 62) rfl ?_); refine goesL_ (some 34) rfl rfl Try.func62 (by kernel_rfl) rfl #[.agg #[.int .i64 a0_0, .slice A0_1 l0_1.length c0_1], .agg #[.int .i64 a1_0, .int .i64 a1_1, .int .i64 a1_2, .slice A1_3 l1_3.length c1_3]] rfl lm_ ?_; (with_reducible refine (spec_l04Possible.calls kj20 a0_0 _ _ l0_1 a1_0 a1_1 a1_2 _ _ l1_3 true _ ?side1 ?side2 ?side3 ?side4 A48.out).mono ?_); (case side1 => exact cb_ HR0_1 HB); (case side2 => exact HC0_1.out); (case side3 => exact cb_ HR1_3 HB); (case side4 => exact HC1_3.out); rintro e w58 ⟨rfl, hb⟩; refine ⟨_, rfl, ?_⟩; have n_ := bd3_ BK334 BK335 BK336 HB hb; clear BK334 BK335 BK336 HB; obtain ⟨BK334, BK335, BK336, HB⟩ := n_; (try clear hb); (try clear hb2); (try clear hk); (try clear hi); obtain ⟨hcz59_0, hcz59_1, hfz59_0, hfz59_1⟩ := bx2_ BK334; obtain ⟨hcz60_0, hcz60_1, hcz60_2, hcz60_3, hfz60_0, hfz60_1, hfz60_2, hfz60_3⟩ := bx4_ BK335) | ((with_reducible refine gate_callee (f := 63) rfl ?_); refine goesL_ (some 39) rfl rfl Try.func63 (by kernel_rfl) rfl #[.agg #[.int .i64 a0_0, .slice A0_1 l0_1.length c0_1], .agg #[.int .i64 a1_0, .int .i64 a1_1, .int .i64 a1_2, .slice A1_3 l1_3.length c1_3]] rfl lm_ ?_; (with_reducible refine (spec_l04Move.calls kj20 a0_0 _ _ l0_1 a1_0 a1_1 a1_2 _ _ l1_3 t342 t343 _ ?side1 ?side2 ?side3 ?side4 A50.out).mono ?_); (case side1 => exact cb_ HR0_1 HB); (case side2 => exact HC0_1.out); (case side3 => exact cb_ HR1_3 HB); (case side4 => exact HC1_3.out); rintro e w61 ⟨v344, rfl, ho0, hb⟩; refine ⟨_, rfl, ?_⟩; have n0_ := am_ (Kd.N_lower (Kd.N_mono (ok' := fun k_ => (w.heap.size ≤ k_) ∧ k_ ≠ gb334 ∧ k_ ≠ gb335 ∧ k_ ≠ gb336) ho0 (fun k_ hk_ => ⟨(Nat.le_trans (below_size (bb_ HB.out)) hk_), (Kd.freshB (g := gb334) (o := .cells #[.int .i64 a0_0, .slice A0_1 l0_1.length c0_1] 28 (0, 0)) (bk_ BK334.out) k_ hk_), (Kd.freshB (g := gb335) (o := .cells #[.int .i64 a1_0, .int .i64 a1_1, .int .i64 a1_2, .slice A1_3 l1_3.length c1_3] 44 (0, 0)) (bk_ BK335.out) k_ hk_), (Kd.freshB (g := gb336) (o := .cells #[.int .i64 0, .slice none 0 0] 28 (0, 0)) (bk_ BK336.out) k_ hk_)⟩)) (below_size (bb_ HB.out))); have n1_ := am_ (bw_ BK334 hb); have n2_ := am_ (bw_ BK335 hb); have n3_ := am_ (bw_ BK336 hb); have n4_ := am_ (below_step (bb_ HB.out) hb); clear BK334 BK335 BK336 HB; revert n0_ n1_ n2_ n3_ n4_; intro HO345 BK334 BK335 BK336 HB; (try clear hb); (try clear hb2); (try clear hk); (try clear hi); (try clear ho0)) | (refine be_ 6 28 #[.int .i64 0, .slice none 0 0] ?_; intro gb346 hg w62 hbox hb; have n0_ := am_ (Kd.N_below (Kd.N_elderB (Nx_ HO345.out) gb346 (Nat.le_of_eq hg.symm)) hb); have n1_ := am_ (bw_ BK334 hb); have n2_ := am_ (bw_ BK335 hb); have n3_ := am_ (bw_ BK336 hb); have n4_ := am_ (below_step (bb_ HB.out) hb); have n5_ := am_ (hbox); have n6_ := gs_ HB hg; have n7_ := gs_ HB hg; have n8_ := am_ (nl_ BK334 hg); have n9_ := am_ (ng_ BK334 hg); have n10_ := am_ (nl_ BK335 hg); have n11_ := am_ (ng_ BK335 hg); have n12_ := am_ (nl_ BK336 hg); have n13_ := am_ (ng_ BK336 hg); clear HO345 BK334 BK335 BK336 HB; revert n0_ n1_ n2_ n3_ n4_ n5_ n6_ n7_ n8_ n9_ n10_ n11_ n12_ n13_; intro HO345 BK334 BK335 BK336 HB BK346 GW346 GE346 NB334_346 NB346_334 NB335_346 NB346_335 NB336_346 NB346_336; clear hb hbox hg; have hnb63 := NB346_334.out; have hnc63 := NB334_346.out; have hnb64 := NB346_335.out; have hnc64 := NB335_346.out; have hnb65 := NB346_336.out; have hnc65 := NB336_346.out; obtain ⟨hcz66_0, hcz66_1, hfz66_0, hfz66_1⟩ := bx2_ BK346; obtain ⟨Ao67, co67, eo67⟩ := Kd.N_slice HO345.out; subst eo67) | ((with_reducible refine gate_callee (f := 35) rfl ?_); refine goesL_ (some 41) rfl rfl Try.func35 (by kernel_rfl) rfl #[.agg #[.int .i64 t342, .slice Ao67 t343.length co67]] rfl lm_ ?_; (with_reducible refine (spec_IsPresentation.calls kj20 t342 _ _ t343 true _ ?side1 ?side2 A51.out).mono ?_); (case side1 => refine (Kd.N_reads' (e := 39) (base := w.heap.size) (ok := fun k_ => (((w.heap.size ≤ k_) ∧ (k_ ≠ gb334 ∧ (k_ ≠ gb335 ∧ k_ ≠ gb336))) ∧ k_ ≠ gb346)) (n := t343.length) (c := co67) ?_).2.2; exact (Nx_ (Kd.N_mono (Kd.N_far (p := ⟨gb346, 1, none⟩) (Kd.N_far (p := ⟨gb346, 0, none⟩) (Kd.N_mono HO345.out (fun k_ hk => (⟨hk, hk.2⟩ : _ ∧ k_ ≠ gb346))) (fun _ hk => hk.2) (.int .i64 t342)) (fun _ hk => hk.2) (.slice Ao67 t343.length co67)) (fun _ h_ => h_.1)))); (case side2 => exact (Kd.N_reads' HO345.out).2.1); rintro e w68 ⟨rfl, hb⟩; refine ⟨_, rfl, ?_⟩; have n0_ := am_ (Kd.N_below (Nx_ (Kd.N_mono (Kd.N_far (p := ⟨gb346, 1, none⟩) (Kd.N_far (p := ⟨gb346, 0, none⟩) (Kd.N_mono HO345.out (fun k_ hk => (⟨hk, hk.2⟩ : _ ∧ k_ ≠ gb346))) (fun _ hk => hk.2) (.int .i64 t342)) (fun _ hk => hk.2) (.slice Ao67 t343.length co67)) (fun _ h_ => h_.1))) hb); have n1_ := am_ (bw_ BK334 hb); have n2_ := am_ (bw_ BK335 hb); have n3_ := am_ (bw_ BK336 hb); have n4_ := am_ (blk_below (g := gb346) (o := .cells #[.int .i64 t342, .slice Ao67 t343.length co67] 28 (0, 0)) (pu2_ BK346) hb); have n5_ := am_ (below_step (bb_ HB.out) hb); clear HO345 BK334 BK335 BK336 BK346 HB; revert n0_ n1_ n2_ n3_ n4_ n5_; intro HO345 BK334 BK335 BK336 BK346 HB; (try clear hb); (try clear hb2); (try clear hk); (try clear hi); obtain ⟨hcz69_0, hcz69_1, hfz69_0, hfz69_1⟩ := bx2_ BK346; obtain ⟨hcz70_0, hcz70_1, hfz70_0, hfz70_1⟩ := bx2_ BK336))
         refine bodyPost_ret (results_ct rfl _ _ gb336 28 #[.int .i64 t342, .slice Ao67 t343.length co67] (0, 0) _ rfl (pu2_ BK336) Try.underlying28 rfl (by kernel_rfl)) rfl ?_
         exact ⟨_, er_, Nx_ (Kd.N_mono (Kd.N_far (p := ⟨gb336, 1, none⟩) (Kd.N_far (p := ⟨gb336, 0, none⟩) (Kd.N_mono HO345.out (fun k_ hk => (⟨hk, hk.1.2.2.2⟩ : _ ∧ k_ ≠ gb336))) (fun _ hk => hk.2) (.int .i64 t342)) (fun _ hk => hk.2) (.slice Ao67 t343.length co67)) (fun _ hk => hk.1.1.1)), bb_ HB.out⟩
        ·replace c52 := Bool.eq_false_iff.mpr c52
         subst c52
         have H1 : (some (0, ([] : List (List Int)), 3)) = some (r1, r2, r3) := by rw [if_neg (show ¬ (false = true) by decide)] at H; exact H
         clear H
         have H := H1
         clear H1
         simp only [Option.some.injEq, Prod.mk.injEq] at H
         obtain ⟨rfl, rfl, rfl⟩ := H
         have hnb71 := NB334_335.out
         have hnc71 := NB335_334.out
         have hnb72 := NB334_336.out
         have hnc72 := NB336_334.out
         obtain ⟨hcz73_0, hcz73_1, hfz73_0, hfz73_1⟩ := bx2_ BK334
         have hnb74 := NB335_336.out
         have hnc74 := NB336_335.out
         obtain ⟨hcz75_0, hcz75_1, hcz75_2, hcz75_3, hfz75_0, hfz75_1, hfz75_2, hfz75_3⟩ := bx4_ BK335
         go_wp2_with (first | ((with_reducible refine gate_callee (f := 62) rfl ?_); refine goesL_ (some 34) rfl rfl Try.func62 (by kernel_rfl) rfl #[.agg #[.int .i64 a0_0, .slice A0_1 l0_1.length c0_1], .agg #[.int .i64 a1_0, .int .i64 a1_1, .int .i64 a1_2, .slice A1_3 l1_3.length c1_3]] rfl lm_ ?_; (with_reducible refine (spec_l04Possible.calls kj20 a0_0 _ _ l0_1 a1_0 a1_1 a1_2 _ _ l1_3 true _ ?side1 ?side2 ?side3 ?side4 A48.out).mono ?_); (case side1 => exact cb_ HR0_1 HB); (case side2 => exact HC0_1.out); (case side3 => exact cb_ HR1_3 HB); (case side4 => exact HC1_3.out); rintro e w76 ⟨rfl, hb⟩; refine ⟨_, rfl, ?_⟩; have n_ := bd3_ BK334 BK335 BK336 HB hb; clear BK334 BK335 BK336 HB; obtain ⟨BK334, BK335, BK336, HB⟩ := n_; (try clear hb); (try clear hb2); (try clear hk); (try clear hi); obtain ⟨hcz77_0, hcz77_1, hfz77_0, hfz77_1⟩ := bx2_ BK334; obtain ⟨hcz78_0, hcz78_1, hcz78_2, hcz78_3, hfz78_0, hfz78_1, hfz78_2, hfz78_3⟩ := bx4_ BK335) | ((with_reducible refine gate_callee (f := 63) rfl ?_); refine goesL_ (some 39) rfl rfl Try.func63 (by kernel_rfl) rfl #[.agg #[.int .i64 a0_0, .slice A0_1 l0_1.length c0_1], .agg #[.int .i64 a1_0, .int .i64 a1_1, .int .i64 a1_2, .slice A1_3 l1_3.length c1_3]] rfl lm_ ?_; (with_reducible refine (spec_l04Move.calls kj20 a0_0 _ _ l0_1 a1_0 a1_1 a1_2 _ _ l1_3 t342 t343 _ ?side1 ?side2 ?side3 ?side4 A50.out).mono ?_); (case side1 => exact cb_ HR0_1 HB); (case side2 => exact HC0_1.out); (case side3 => exact cb_ HR1_3 HB); (case side4 => exact HC1_3.out); rintro e w79 ⟨v344, rfl, ho0, hb⟩; refine ⟨_, rfl, ?_⟩; have n0_ := am_ (Kd.N_lower (Kd.N_mono (ok' := fun k_ => (w.heap.size ≤ k_) ∧ k_ ≠ gb334 ∧ k_ ≠ gb335 ∧ k_ ≠ gb336) ho0 (fun k_ hk_ => ⟨(Nat.le_trans (below_size (bb_ HB.out)) hk_), (Kd.freshB (g := gb334) (o := .cells #[.int .i64 a0_0, .slice A0_1 l0_1.length c0_1] 28 (0, 0)) (bk_ BK334.out) k_ hk_), (Kd.freshB (g := gb335) (o := .cells #[.int .i64 a1_0, .int .i64 a1_1, .int .i64 a1_2, .slice A1_3 l1_3.length c1_3] 44 (0, 0)) (bk_ BK335.out) k_ hk_), (Kd.freshB (g := gb336) (o := .cells #[.int .i64 0, .slice none 0 0] 28 (0, 0)) (bk_ BK336.out) k_ hk_)⟩)) (below_size (bb_ HB.out))); have n1_ := am_ (bw_ BK334 hb); have n2_ := am_ (bw_ BK335 hb); have n3_ := am_ (bw_ BK336 hb); have n4_ := am_ (below_step (bb_ HB.out) hb); clear BK334 BK335 BK336 HB; revert n0_ n1_ n2_ n3_ n4_; intro HO345 BK334 BK335 BK336 HB; (try clear hb); (try clear hb2); (try clear hk); (try clear hi); (try clear ho0)) | (refine be_ 6 28 #[.int .i64 0, .slice none 0 0] ?_; intro gb346 hg w80 hbox hb; have n0_ := am_ (Kd.N_below (Kd.N_elderB (Nx_ HO345.out) gb346 (Nat.le_of_eq hg.symm)) hb); have n1_ := am_ (bw_ BK334 hb); have n2_ := am_ (bw_ BK335 hb); have n3_ := am_ (bw_ BK336 hb); have n4_ := am_ (below_step (bb_ HB.out) hb); have n5_ := am_ (hbox); have n6_ := gs_ HB hg; have n7_ := gs_ HB hg; have n8_ := am_ (nl_ BK334 hg); have n9_ := am_ (ng_ BK334 hg); have n10_ := am_ (nl_ BK335 hg); have n11_ := am_ (ng_ BK335 hg); have n12_ := am_ (nl_ BK336 hg); have n13_ := am_ (ng_ BK336 hg); clear HO345 BK334 BK335 BK336 HB; revert n0_ n1_ n2_ n3_ n4_ n5_ n6_ n7_ n8_ n9_ n10_ n11_ n12_ n13_; intro HO345 BK334 BK335 BK336 HB BK346 GW346 GE346 NB334_346 NB346_334 NB335_346 NB346_335 NB336_346 NB346_336; clear hb hbox hg; have hnb81 := NB346_334.out; have hnc81 := NB334_346.out; have hnb82 := NB346_335.out; have hnc82 := NB335_346.out; have hnb83 := NB346_336.out; have hnc83 := NB336_346.out; obtain ⟨hcz84_0, hcz84_1, hfz84_0, hfz84_1⟩ := bx2_ BK346; obtain ⟨Ao85, co85, eo85⟩ := Kd.N_slice HO345.out; subst eo85) | ((with_reducible refine gate_callee (f := 35) rfl ?_); refine goesL_ (some 41) rfl rfl Try.func35 (by kernel_rfl) rfl #[.agg #[.int .i64 t342, .slice Ao85 t343.length co85]] rfl lm_ ?_; (with_reducible refine (spec_IsPresentation.calls kj20 t342 _ _ t343 false _ ?side1 ?side2 A51.out).mono ?_); (case side1 => refine (Kd.N_reads' (e := 39) (base := w.heap.size) (ok := fun k_ => (((w.heap.size ≤ k_) ∧ (k_ ≠ gb334 ∧ (k_ ≠ gb335 ∧ k_ ≠ gb336))) ∧ k_ ≠ gb346)) (n := t343.length) (c := co85) ?_).2.2; exact (Nx_ (Kd.N_mono (Kd.N_far (p := ⟨gb346, 1, none⟩) (Kd.N_far (p := ⟨gb346, 0, none⟩) (Kd.N_mono HO345.out (fun k_ hk => (⟨hk, hk.2⟩ : _ ∧ k_ ≠ gb346))) (fun _ hk => hk.2) (.int .i64 t342)) (fun _ hk => hk.2) (.slice Ao85 t343.length co85)) (fun _ h_ => h_.1)))); (case side2 => exact (Kd.N_reads' HO345.out).2.1); rintro e w86 ⟨rfl, hb⟩; refine ⟨_, rfl, ?_⟩; have n0_ := am_ (Kd.N_below (Nx_ (Kd.N_mono (Kd.N_far (p := ⟨gb346, 1, none⟩) (Kd.N_far (p := ⟨gb346, 0, none⟩) (Kd.N_mono HO345.out (fun k_ hk => (⟨hk, hk.2⟩ : _ ∧ k_ ≠ gb346))) (fun _ hk => hk.2) (.int .i64 t342)) (fun _ hk => hk.2) (.slice Ao85 t343.length co85)) (fun _ h_ => h_.1))) hb); have n1_ := am_ (bw_ BK334 hb); have n2_ := am_ (bw_ BK335 hb); have n3_ := am_ (bw_ BK336 hb); have n4_ := am_ (blk_below (g := gb346) (o := .cells #[.int .i64 t342, .slice Ao85 t343.length co85] 28 (0, 0)) (pu2_ BK346) hb); have n5_ := am_ (below_step (bb_ HB.out) hb); clear HO345 BK334 BK335 BK336 BK346 HB; revert n0_ n1_ n2_ n3_ n4_ n5_; intro HO345 BK334 BK335 BK336 BK346 HB; (try clear hb); (try clear hb2); (try clear hk); (try clear hi); obtain ⟨hcz87_0, hcz87_1, hfz87_0, hfz87_1⟩ := bx2_ BK336))
         refine bodyPost_ret (results_ct rfl _ _ gb336 28 #[.int .i64 0, .slice none 0 0] (0, 0) _ rfl (pu2_ BK336) Try.underlying28 rfl (by kernel_rfl)) rfl ?_
         exact ⟨_, er_, by first | exact Kd.S_nil _ _ _ _ _ | exact Kd.N_nil _ _ _ _ _ | exact Kd.V_nil _ _ _ _ _ | exact Kd.Q_nil _ _ _ _ _ | exact Kd.R_nil _ _ _ _ _, bb_ HB.out⟩
       ·replace c49 := Bool.eq_false_iff.mpr c49
        subst c49
        have H1 : (some (0, ([] : List (List Int)), 5)) = some (r1, r2, r3) := by rw [if_neg (show ¬ (false = true) by decide)] at H; exact H
        clear H
        have H := H1
        clear H1
        simp only [Option.some.injEq, Prod.mk.injEq] at H
        obtain ⟨rfl, rfl, rfl⟩ := H
        have hnb88 := NB334_335.out
        have hnc88 := NB335_334.out
        have hnb89 := NB334_336.out
        have hnc89 := NB336_334.out
        obtain ⟨hcz90_0, hcz90_1, hfz90_0, hfz90_1⟩ := bx2_ BK334
        have hnb91 := NB335_336.out
        have hnc91 := NB336_335.out
        obtain ⟨hcz92_0, hcz92_1, hcz92_2, hcz92_3, hfz92_0, hfz92_1, hfz92_2, hfz92_3⟩ := bx4_ BK335
        go_wp2_with (first | ((with_reducible refine gate_callee (f := 62) rfl ?_); refine goesL_ (some 34) rfl rfl Try.func62 (by kernel_rfl) rfl #[.agg #[.int .i64 a0_0, .slice A0_1 l0_1.length c0_1], .agg #[.int .i64 a1_0, .int .i64 a1_1, .int .i64 a1_2, .slice A1_3 l1_3.length c1_3]] rfl lm_ ?_; (with_reducible refine (spec_l04Possible.calls kj20 a0_0 _ _ l0_1 a1_0 a1_1 a1_2 _ _ l1_3 false _ ?side1 ?side2 ?side3 ?side4 A48.out).mono ?_); (case side1 => exact cb_ HR0_1 HB); (case side2 => exact HC0_1.out); (case side3 => exact cb_ HR1_3 HB); (case side4 => exact HC1_3.out); rintro e w93 ⟨rfl, hb⟩; refine ⟨_, rfl, ?_⟩; have n_ := bd3_ BK334 BK335 BK336 HB hb; clear BK334 BK335 BK336 HB; obtain ⟨BK334, BK335, BK336, HB⟩ := n_; (try clear hb); (try clear hb2); (try clear hk); (try clear hi); obtain ⟨hcz94_0, hcz94_1, hfz94_0, hfz94_1⟩ := bx2_ BK336))
        refine bodyPost_ret (results_ct rfl _ _ gb336 28 #[.int .i64 0, .slice none 0 0] (0, 0) _ rfl (pu2_ BK336) Try.underlying28 rfl (by kernel_rfl)) rfl ?_
        exact ⟨_, er_, by first | exact Kd.S_nil _ _ _ _ _ | exact Kd.N_nil _ _ _ _ _ | exact Kd.V_nil _ _ _ _ _ | exact Kd.Q_nil _ _ _ _ _ | exact Kd.R_nil _ _ _ _ _, bb_ HB.out⟩
  ·replace c6 := Bool.eq_false_iff.mpr c6
   subst c6
   have H1 : (some (0, ([] : List (List Int)), 2)) = some (r1, r2, r3) := by rw [if_neg (show ¬ (false = true) by decide)] at H; exact H
   clear H
   have H := H1
   clear H1
   simp only [Option.some.injEq, Prod.mk.injEq] at H
   obtain ⟨rfl, rfl, rfl⟩ := H
   go_enter Try.func23, Try.ntmps23
   go_wp2_with (first | (refine be_ 2 28 #[.int .i64 a0_0, .slice A0_1 l0_1.length c0_1] ?_; intro gb334 hg w95 hbox hb; have n_ := ba0_ HB hbox hb hg; clear  HB hb hbox hg; obtain ⟨HB, BK334, GW334, GE334⟩ := n_) | (refine be_ 3 44 #[.int .i64 a1_0, .int .i64 a1_1, .int .i64 a1_2, .slice A1_3 l1_3.length c1_3] ?_; intro gb335 hg w96 hbox hb; have n_ := ba1_ BK334 HB hbox hb hg; clear BK334 HB hb hbox hg; obtain ⟨BK334, HB, BK335, GW335, GE335, NB334_335, NB335_334⟩ := n_) | (refine be_ 4 28 #[.int .i64 0, .slice none 0 0] ?_; intro gb336 hg w97 hbox hb; have n_ := ba2_ BK334 BK335 HB hbox hb hg; clear BK334 BK335 HB hb hbox hg; obtain ⟨BK334, BK335, HB, BK336, GW336, GE336, NB334_336, NB336_334, NB335_336, NB336_335⟩ := n_; have hnb98 := NB334_335.out; have hnc98 := NB335_334.out; have hnb99 := NB334_336.out; have hnc99 := NB336_334.out; obtain ⟨hcz100_0, hcz100_1, hfz100_0, hfz100_1⟩ := bx2_ BK334) | ((with_reducible refine gate_callee (f := 35) rfl ?_); refine goesL_ (some 8) rfl rfl Try.func35 (by kernel_rfl) rfl #[.agg #[.int .i64 a0_0, .slice A0_1 l0_1.length c0_1]] rfl lm_ ?_; (with_reducible refine (spec_IsPresentation.calls k a0_0 _ _ l0_1 true _ ?side1 ?side2 A3.out).mono ?_); (case side1 => exact cb_ HR0_1 HB); (case side2 => exact HC0_1.out); rintro e w101 ⟨rfl, hb⟩; refine ⟨_, rfl, ?_⟩; have n_ := bd3_ BK334 BK335 BK336 HB hb; clear BK334 BK335 BK336 HB; obtain ⟨BK334, BK335, BK336, HB⟩ := n_; (try clear hb); (try clear hb2); (try clear hk); (try clear hi); have hnb102 := NB335_336.out; have hnc102 := NB336_335.out; obtain ⟨hcz103_0, hcz103_1, hcz103_2, hcz103_3, hfz103_0, hfz103_1, hfz103_2, hfz103_3⟩ := bx4_ BK335) | ((with_reducible refine gate_callee (f := 39) rfl ?_); refine goesL_ (some 13) rfl rfl Try.func39 (by kernel_rfl) rfl #[.int .i64 a1_0, .int .i64 1, .int .i64 6] rfl lm_ ?_; (with_reducible refine (spec_l01In.calls a1_0 1 6 false _ A5.out).mono ?_); rintro e w' ⟨rfl, ⟨nd, rfl⟩⟩; refine ⟨_, rfl, ?_⟩; (try (rw [drewN_self w101]; generalize hq_ : World.drewN w101 _ = w101; have n0_ : Aside0 (w101.heap[gb334]? = some (.cells #[.int .i64 a0_0, .slice A0_1 l0_1.length c0_1] 28 (0, 0))) := ⟨by rw [← hq_]; exact (bk_ BK334.out)⟩; have n1_ : Aside0 (w101.heap[gb335]? = some (.cells #[.int .i64 a1_0, .int .i64 a1_1, .int .i64 a1_2, .slice A1_3 l1_3.length c1_3] 44 (0, 0))) := ⟨by rw [← hq_]; exact (bk_ BK335.out)⟩; have n2_ : Aside0 (w101.heap[gb336]? = some (.cells #[.int .i64 0, .slice none 0 0] 28 (0, 0))) := ⟨by rw [← hq_]; exact (bk_ BK336.out)⟩; have n3_ : Aside0 (Below w.heap.size w w101) := ⟨by rw [← hq_]; exact (bb_ HB.out)⟩; clear BK334 BK335 BK336 HB hq_; have BK334 := n0_; have BK335 := n1_; have BK336 := n2_; have HB := n3_; clear n0_ n1_ n2_ n3_)); (try obtain ⟨hcz100_0, hcz100_1, hfz100_0, hfz100_1⟩ := bx2_ BK334); (try obtain ⟨hcz103_0, hcz103_1, hcz103_2, hcz103_3, hfz103_0, hfz103_1, hfz103_2, hfz103_3⟩ := bx4_ BK335); obtain ⟨hcz104_0, hcz104_1, hfz104_0, hfz104_1⟩ := bx2_ BK336))
   refine bodyPost_ret (results_ct rfl _ _ gb336 28 #[.int .i64 0, .slice none 0 0] (0, 0) _ rfl (pu2_ BK336) Try.underlying28 rfl (by kernel_rfl)) rfl ?_
   exact ⟨_, er_, by first | exact Kd.S_nil _ _ _ _ _ | exact Kd.N_nil _ _ _ _ _ | exact Kd.V_nil _ _ _ _ _ | exact Kd.Q_nil _ _ _ _ _ | exact Kd.R_nil _ _ _ _ _, bb_ HB.out⟩
 ·replace c4 := Bool.eq_false_iff.mpr c4
  subst c4
  have H1 : (some (0, ([] : List (List Int)), 1)) = some (r1, r2, r3) := by rw [if_neg (show ¬ (false = true) by decide)] at H; exact H
  clear H
  have H := H1
  clear H1
  simp only [Option.some.injEq, Prod.mk.injEq] at H
  obtain ⟨rfl, rfl, rfl⟩ := H
  go_enter Try.func23, Try.ntmps23
  go_wp2_with (first | (refine be_ 2 28 #[.int .i64 a0_0, .slice A0_1 l0_1.length c0_1] ?_; intro gb334 hg w105 hbox hb; have n_ := ba0_ HB hbox hb hg; clear  HB hb hbox hg; obtain ⟨HB, BK334, GW334, GE334⟩ := n_) | (refine be_ 3 44 #[.int .i64 a1_0, .int .i64 a1_1, .int .i64 a1_2, .slice A1_3 l1_3.length c1_3] ?_; intro gb335 hg w106 hbox hb; have n_ := ba1_ BK334 HB hbox hb hg; clear BK334 HB hb hbox hg; obtain ⟨BK334, HB, BK335, GW335, GE335, NB334_335, NB335_334⟩ := n_) | (refine be_ 4 28 #[.int .i64 0, .slice none 0 0] ?_; intro gb336 hg w107 hbox hb; have n_ := ba2_ BK334 BK335 HB hbox hb hg; clear BK334 BK335 HB hb hbox hg; obtain ⟨BK334, BK335, HB, BK336, GW336, GE336, NB334_336, NB336_334, NB335_336, NB336_335⟩ := n_; have hnb108 := NB334_335.out; have hnc108 := NB335_334.out; have hnb109 := NB334_336.out; have hnc109 := NB336_334.out; obtain ⟨hcz110_0, hcz110_1, hfz110_0, hfz110_1⟩ := bx2_ BK334) | ((with_reducible refine gate_callee (f := 35) rfl ?_); refine goesL_ (some 8) rfl rfl Try.func35 (by kernel_rfl) rfl #[.agg #[.int .i64 a0_0, .slice A0_1 l0_1.length c0_1]] rfl lm_ ?_; (with_reducible refine (spec_IsPresentation.calls k a0_0 _ _ l0_1 false _ ?side1 ?side2 A3.out).mono ?_); (case side1 => exact cb_ HR0_1 HB); (case side2 => exact HC0_1.out); rintro e w111 ⟨rfl, hb⟩; refine ⟨_, rfl, ?_⟩; have n_ := bd3_ BK334 BK335 BK336 HB hb; clear BK334 BK335 BK336 HB; obtain ⟨BK334, BK335, BK336, HB⟩ := n_; (try clear hb); (try clear hb2); (try clear hk); (try clear hi); have hnb112 := NB336_335.out; have hnc112 := NB335_336.out; obtain ⟨hcz113_0, hcz113_1, hfz113_0, hfz113_1⟩ := bx2_ BK336))
  refine bodyPost_ret (results_ct rfl _ _ gb336 28 #[.int .i64 0, .slice none 0 0] (0, 0) _ rfl (pu2_ BK336) Try.underlying28 rfl (by kernel_rfl)) rfl ?_
  exact ⟨_, er_, by first | exact Kd.S_nil _ _ _ _ _ | exact Kd.N_nil _ _ _ _ _ | exact Kd.V_nil _ _ _ _ _ | exact Kd.Q_nil _ _ _ _ _ | exact Kd.R_nil _ _ _ _ _, bb_ HB.out⟩

/-! ### spec_l04Step: function 69 -/
mutual
def spec_l04Step.l0 : Nat → Int → Int → List (List Int) → Option (Int × Int × Int × List Int × Int × (List (List Int)) × Bool)
  | 0, _, _, _ => none
  | k + 1, x5, x349000, x349001 => if x5 < (x349001.length : Int) then ((spec_ApplyTietze.f k x349000 x349001 4 x5 0 ([] : List Int)).bind fun bt352 => (if bt352.2.2 = 0 then (some (4, x5, 0, ([] : List Int), bt352.1, bt352.2.1, true)) else (spec_l04Step.l0 k (wrap64 (x5 + 1)) x349000 x349001))) else (spec_l04Step.l1 k 0 x349000 x349001)
def spec_l04Step.l1 : Nat → Int → Int → List (List Int) → Option (Int × Int × Int × List Int × Int × (List (List Int)) × Bool)
  | 0, _, _, _ => none
  | k + 1, x9, x349000, x349001 => if x9 < (x349001.length : Int) then (spec_l04Step.l2 k x9 1 x349000 x349001) else (some (0, 0, 0, ([] : List Int), x349000, x349001, false))
def spec_l04Step.l2 : Nat → Int → Int → Int → List (List Int) → Option (Int × Int × Int × List Int × Int × (List (List Int)) × Bool)
  | 0, _, _, _, _ => none
  | k + 1, x9, x10, x349000, x349001 => if x10 ≤ x349000 then ((spec_ApplyTietze.f k x349000 x349001 5 x9 x10 ([] : List Int)).bind fun bt359 => (if bt359.2.2 = 0 then (some (5, x9, x10, ([] : List Int), bt359.1, bt359.2.1, true)) else (spec_l04Step.l2 k x9 (wrap64 (x10 + 1)) x349000 x349001))) else (spec_l04Step.l1 k (wrap64 (x9 + 1)) x349000 x349001)
end
def spec_l04Step.f (k : Nat) (a0_0 : Int) (l0_1 : List (List Int)) : Option (Int × Int × Int × List Int × Int × (List (List Int)) × Bool) := spec_l04Step.l0 k 0 a0_0 l0_1
def zL_ : Nat → Nat → List Bool
  | 0, _ => []
  | n + 1, m => (m % 2 == 1) :: zL_ n (m / 2)
def zA_ (n m : Nat) : Array Bool := (zL_ n m).toArray
theorem zz_ {P : Program} {ops : Array Oper} {Q : Exit → Act → World → Prop} {md : Region.Mode} {S : World → Prop} {ds : List Nat} (i : Nat) (N : Tmp) (l' : Array Bool) {oi : Oper} {v : Value} {fuel : Nat} {l : Array Bool} {a a' : Act} {w : World}
    (h : wpAnyLast P md ops Q S ds fuel l' a' w) (hi : ops[i]? = some oi := by exact rfl) (hN : oi.dst = some N := by exact rfl) (hc : anyB md ops l l' i = true := by kernel_rfl)
    (hQ : ∀ c a w, Q (.panic c) (a.put oi.dst v) w → Q (.panic c) a w := by exact fun _ _ _ h => h) (hy : Yields P ops oi v a := by exact Or.inl ⟨by rfl, by intro w'; go_simp; with_reducible rfl⟩) (ha : a.put (some N) v = a' := by simp only [Act.put, List.setIfInBounds_toArray, List.set_cons_zero, List.set_cons_succ, i64_w, i32_w]; rfl) :
    wpAnyLast P md ops Q S ds (fuel + 1) l a w := pure_ l' hi hN hc hQ hy ha h
theorem zt_ {P : Program} {ops : Array Oper} {Q : Exit → Act → World → Prop} {md : Region.Mode} {S : World → Prop} {ds : List Nat} (i : Nat) (N : Tmp) (l' : Array Bool) {oi : Oper} {v : Value} {fuel : Nat} {l : Array Bool} {a a' : Act} {w : World}
    (hS : S w) (h : wpAnyLast P md ops Q S ds fuel l' a' w) (hi : ops[i]? = some oi := by exact rfl) (hN : oi.dst = some N := by exact rfl) (hc : takeB md ops ds l l' i = true := by kernel_rfl)
    (hQ : ∀ c a w, Q (.panic c) (a.put oi.dst v) w → Q (.panic c) a w := by exact fun _ _ _ h => h) (hy : YieldsIf P ops S oi v a := by exact Or.inl ⟨by rfl, by intro w' hS_; (try dsimp only at hS_); go_simp; with_reducible rfl⟩) (ha : a.put (some N) v = a' := by simp only [Act.put, List.setIfInBounds_toArray, List.set_cons_zero, List.set_cons_succ, i64_w, i32_w]; rfl) :
    wpAnyLast P md ops Q S ds (fuel + 1) l a w := take_ l' hi hN hc hQ hy hS ha h
def ZQ (w : World) (b1 b2 b3 : Nat) (cs ms os : Array Value) (W : World) : Prop :=
  W.heap[b1]? = some (.cells cs 28 (0, 0)) ∧ W.heap[b2]? = some (.cells ms 44 (0, 0)) ∧ W.heap[b3]? = some (.cells os 28 (0, 0)) ∧ Below w.heap.size w W
def ZD (w : World) (b1 b2 b3 : Nat) : Prop := b1 ≠ b2 ∧ b1 ≠ b3 ∧ b2 ≠ b3 ∧ w.heap.size ≤ b2 ∧ w.heap.size ≤ b3
def ZX (w : World) (b1 b2 b3 b : Nat) : Prop := b1 ≠ b ∧ b2 ≠ b ∧ b3 ≠ b ∧ w.heap.size ≤ b
theorem zbox_put4 {W : World} {b t : Nat} {x0 x1 x2 x3 y0 y1 y2 y3 : Value} (h : W.heap[b]? = some (.cells #[y0, y1, y2, y3] t (0, 0))) : ((((W.setCell ⟨b, 0, none⟩ x0).setCell ⟨b, 1, none⟩ x1).setCell ⟨b, 2, none⟩ x2).setCell ⟨b, 3, none⟩ x3).heap[b]? = some (.cells #[x0, x1, x2, x3] t (0, 0)) :=
  blk_put (blk_put (blk_put (blk_put h 0 x0 rfl) 1 x1 rfl) 2 x2 rfl) 3 x3 rfl
theorem zbox_put2 {W : World} {b t : Nat} {x0 x1 y0 y1 : Value} (h : W.heap[b]? = some (.cells #[y0, y1] t (0, 0))) : ((W.setCell ⟨b, 0, none⟩ x0).setCell ⟨b, 1, none⟩ x1).heap[b]? = some (.cells #[x0, x1] t (0, 0)) := blk_put (blk_put h 0 x0 rfl) 1 x1 rfl
theorem zbox_far4 {W : World} {b c : Nat} {x0 x1 x2 x3 : Value} {v : Array Value} {t : Nat} (h : W.heap[c]? = some (.cells v t (0, 0))) (hne : c ≠ b) : ((((W.setCell ⟨b, 0, none⟩ x0).setCell ⟨b, 1, none⟩ x1).setCell ⟨b, 2, none⟩ x2).setCell ⟨b, 3, none⟩ x3).heap[c]? = some (.cells v t (0, 0)) := blk_far (blk_far (blk_far (blk_far h hne _) hne _) hne _) hne _
theorem zbox_far2 {W : World} {b c : Nat} {x0 x1 : Value} {v : Array Value} {t : Nat} (h : W.heap[c]? = some (.cells v t (0, 0))) (hne : c ≠ b) : ((W.setCell ⟨b, 0, none⟩ x0).setCell ⟨b, 1, none⟩ x1).heap[c]? = some (.cells v t (0, 0)) := blk_far (blk_far h hne _) hne _
theorem zbelow_put4 {w W : World} {b : Nat} {x0 x1 x2 x3 : Value} (h : Below w.heap.size w W) (hb : w.heap.size ≤ b) : Below w.heap.size w ((((W.setCell ⟨b, 0, none⟩ x0).setCell ⟨b, 1, none⟩ x1).setCell ⟨b, 2, none⟩ x2).setCell ⟨b, 3, none⟩ x3) := below_set (below_set (below_set (below_set h hb) hb) hb) hb
theorem zbelow_put2 {w W : World} {b : Nat} {x0 x1 : Value} (h : Below w.heap.size w W) (hb : w.heap.size ≤ b) : Below w.heap.size w ((W.setCell ⟨b, 0, none⟩ x0).setCell ⟨b, 1, none⟩ x1) := below_set (below_set h hb) hb
theorem zS_put2 {W : World} {base b : Nat} {ok : Nat → Prop} {u : Value} {rows : List (List Int)} {x0 x1 y0 y1 : Value} (hs : Kd.S (Kd.slice 2 (Kd.int .i64)) 39 W base ok u rows) (h : W.heap[b]? = some (.cells #[y0, y1] 28 (0, 0))) : Kd.S (Kd.slice 2 (Kd.int .i64)) 39 ((W.setCell ⟨b, 0, none⟩ x0).setCell ⟨b, 1, none⟩ x1) base ok u rows :=
  Kd.S_set (Kd.S_set hs h (by decide) 0 x0) (blk_put h 0 x0 rfl) (by decide) 1 x1
section
variable {w W W1 : World} {b1 b2 b3 bx : Nat} {cs ms os : Array Value}
theorem ZQ.p (h : ZQ w b1 b2 b3 cs ms os W) : W.heap[b1]? = some (.cells cs 28 (0, 0)) := h.1
theorem ZQ.m (h : ZQ w b1 b2 b3 cs ms os W) : W.heap[b2]? = some (.cells ms 44 (0, 0)) := h.2.1
theorem ZQ.o (h : ZQ w b1 b2 b3 cs ms os W) : W.heap[b3]? = some (.cells os 28 (0, 0)) := h.2.2.1
theorem ZQ.b (h : ZQ w b1 b2 b3 cs ms os W) : Below w.heap.size w W := h.2.2.2
theorem ZQ.below (h : ZQ w b1 b2 b3 cs ms os W) (hb : Below W.heap.size W W1) : ZQ w b1 b2 b3 cs ms os W1 := ⟨blk_below h.p hb, blk_below h.m hb, blk_below h.o hb, below_step h.b hb⟩
theorem ZQ.put4 (h : ZQ w b1 b2 b3 cs ms os W) (hx : ZX w b1 b2 b3 bx) {x0 x1 x2 x3 : Value} : ZQ w b1 b2 b3 cs ms os ((((W.setCell ⟨bx, 0, none⟩ x0).setCell ⟨bx, 1, none⟩ x1).setCell ⟨bx, 2, none⟩ x2).setCell ⟨bx, 3, none⟩ x3) := ⟨zbox_far4 h.p hx.1, zbox_far4 h.m hx.2.1, zbox_far4 h.o hx.2.2.1, zbelow_put4 h.b hx.2.2.2⟩
theorem ZQ.put2 (h : ZQ w b1 b2 b3 cs ms os W) (hx : ZX w b1 b2 b3 bx) {x0 x1 : Value} : ZQ w b1 b2 b3 cs ms os ((W.setCell ⟨bx, 0, none⟩ x0).setCell ⟨bx, 1, none⟩ x1) := ⟨zbox_far2 h.p hx.1, zbox_far2 h.m hx.2.1, zbox_far2 h.o hx.2.2.1, zbelow_put2 h.b hx.2.2.2⟩
theorem ZQ.m4 {x0 x1 x2 x3 y0 y1 y2 y3 : Value} (h : ZQ w b1 b2 b3 cs #[y0, y1, y2, y3] os W) (hd : ZD w b1 b2 b3) : ZQ w b1 b2 b3 cs #[x0, x1, x2, x3] os ((((W.setCell ⟨b2, 0, none⟩ x0).setCell ⟨b2, 1, none⟩ x1).setCell ⟨b2, 2, none⟩ x2).setCell ⟨b2, 3, none⟩ x3) := ⟨zbox_far4 h.p hd.1, zbox_put4 h.m, zbox_far4 h.o hd.2.2.1.symm, zbelow_put4 h.b hd.2.2.2.1⟩
theorem ZQ.o2 {x0 x1 y0 y1 : Value} (h : ZQ w b1 b2 b3 cs ms #[y0, y1] W) (hd : ZD w b1 b2 b3) : ZQ w b1 b2 b3 cs ms #[x0, x1] ((W.setCell ⟨b3, 0, none⟩ x0).setCell ⟨b3, 1, none⟩ x1) := ⟨zbox_far2 h.p hd.2.1, zbox_far2 h.m hd.2.2.1, zbox_put2 h.o, zbelow_put2 h.b hd.2.2.2.2⟩
end
theorem zV_put4 {W : World} {base b : Nat} {ok : Nat → Prop} {u : Value} {rows : List (List Int)} {x0 x1 x2 x3 : Value} (hs : Kd.V (Kd.slice 2 (Kd.int .i64)) 39 W base ok u rows) (h : ∀ k, ok k → k ≠ b) : Kd.V (Kd.slice 2 (Kd.int .i64)) 39 ((((W.setCell ⟨b, 0, none⟩ x0).setCell ⟨b, 1, none⟩ x1).setCell ⟨b, 2, none⟩ x2).setCell ⟨b, 3, none⟩ x3) base ok u rows :=
  Kd.V_far (p := ⟨b, 3, none⟩) (Kd.V_far (p := ⟨b, 2, none⟩) (Kd.V_far (p := ⟨b, 1, none⟩) (Kd.V_far (p := ⟨b, 0, none⟩) hs h x0) h x1) h x2) h x3
theorem zV_put2 {W : World} {base b : Nat} {ok : Nat → Prop} {u : Value} {rows : List (List Int)} {x0 x1 : Value} (hs : Kd.V (Kd.slice 2 (Kd.int .i64)) 39 W base ok u rows) (h : ∀ k, ok k → k ≠ b) : Kd.V (Kd.slice 2 (Kd.int .i64)) 39 ((W.setCell ⟨b, 0, none⟩ x0).setCell ⟨b, 1, none⟩ x1) base ok u rows :=
  Kd.V_far (p := ⟨b, 1, none⟩) (Kd.V_far (p := ⟨b, 0, none⟩) hs h x0) h x1
theorem spec_l04Step.run (k : Nat) (a0_0 : Int) (A0_1 : Option Addr) (c0_1 : Nat) (l0_1 : List (List Int)) (r1 r2 r3 : Int) (r4 : List Int) (r5 : Int) (r6 : List (List Int)) (r7 : Bool) (w : World) (hr0_1 : Kd.C (Kd.slice 2 (Kd.int .i64)) w A0_1 l0_1.length l0_1) (hc0_1 : l0_1.length ≤ c0_1) (h : spec_l04Step.f k a0_0 l0_1 = some (r1, r2, r3, r4, r5, r6, r7)) :
    Calls Try.prog 69 #[.agg #[.int .i64 a0_0, .slice A0_1 l0_1.length c0_1]] w fun e w' => ∃ (A5 : Option Addr) (n5 c5 : Nat), e = .returned (.tuple #[.agg #[.int .i64 r1, .int .i64 r2, .int .i64 r3, .slice none 0 0], .agg #[.int .i64 r5, .slice A5 n5 c5], .bool r7]) ∧ r4 = [] ∧ (r7 = true → Kd.V (Kd.slice 2 (Kd.int .i64)) 39 w' w.heap.size (fun k_ => w.heap.size ≤ k_) (.slice A5 n5 c5) r6) ∧ Below w.heap.size w w' := by
  unfold spec_l04Step.f at h
  have HR0 := Aside0.mk hr0_1
  have HC0 := Aside0.mk hc0_1
  have H' := Aside0.mk h
  clear hr0_1 hc0_1 h
  go_enter Try.func69, Try.ntmps69
  go_wp2_with (first
    | (refine be_ 1 28 #[.int .i64 a0_0, .slice A0_1 l0_1.length c0_1] ?_; intro b1 hg w2 hbox hb; have B1 := Aside0.mk hbox; have HB2 := Aside0.mk hb; clear hg hbox hb)
    | (refine be_ 2 44 #[.int .i64 0, .int .i64 0, .int .i64 0, .slice none 0 0] ?_; intro b2 hg w3 hbox hb; have B13 := Aside0.mk (blk_below B1.out hb); have G2 := Aside0.mk (show w.heap.size ≤ b2 by rw [hg]; exact HB2.out.size); have B2 := Aside0.mk hbox; have N12 := Aside0.mk (show b1 ≠ b2 by rw [hg]; exact Nat.ne_of_lt (blk_lt B1.out)); have HB3 := Aside0.mk (below_step HB2.out hb); clear hg hbox hb B1 HB2)
    | (refine be_ 3 28 #[.int .i64 0, .slice none 0 0] ?_; intro b3 hg w4 hbox hb; have HQ := Aside0.mk (show ZQ w b1 b2 b3 #[.int .i64 a0_0, .slice A0_1 l0_1.length c0_1] #[.int .i64 0, .int .i64 0, .int .i64 0, .slice none 0 0] #[.int .i64 0, .slice none 0 0] w4 from ⟨blk_below B13.out hb, blk_below B2.out hb, hbox, below_step HB3.out hb⟩); have HD := Aside0.mk (show ZD w b1 b2 b3 from ⟨N12.out, by rw [hg]; exact Nat.ne_of_lt (blk_lt B13.out), by rw [hg]; exact Nat.ne_of_lt (blk_lt B2.out), G2.out, by rw [hg]; exact HB3.out.size⟩); clear hg hbox hb B13 B2 HB3 N12 G2))
  go_loopg [5] k (fun kq v5 w' => ∃ x5 : Int, v5 = .int .i64 x5 ∧ Aside0 (spec_l04Step.l0 kq x5 a0_0 l0_1 = some (r1, r2, r3, r4, r5, r6, r7)) ∧ Aside0 (kq ≤ k) ∧ Aside0 (ZQ w b1 b2 b3 #[.int .i64 a0_0, .slice A0_1 l0_1.length c0_1] #[.int .i64 0, .int .i64 0, .int .i64 0, .slice none 0 0] #[.int .i64 0, .slice none 0 0] w'))
  case atStart => exact ⟨0, rfl, H', ⟨Nat.le_refl _⟩, HQ⟩
  case round =>
    clear H' HQ
    obtain ⟨x5, rfl, HA, HK1, HQ⟩ := hrel
    cases gk with
    | zero => exact absurd HA.out (by simp [spec_l04Step.l0])
    | succ k1 =>
      have H := HA.out
      clear HA
      simp only [spec_l04Step.l0] at H
      have q10 : wr.cell? ⟨b1, 0, none⟩ = some (.int .i64 a0_0) := (blk_cell HQ.out.p 0).trans rfl
      have q11 : wr.cell? ⟨b1, 1, none⟩ = some (.slice A0_1 l0_1.length c0_1) := (blk_cell HQ.out.p 1).trans rfl
      by_cases c5 : x5 < (l0_1.length : Int)
      · rw [if_pos c5] at H
        have c5b : decide (x5 < (l0_1.length : Int)) = true := decide_eq_true c5
        clear c5
        obtain ⟨⟨g, rows, code⟩, hap, H⟩ := Option.bind_eq_some_iff.mp H
        simp only at H
        have HAP := Aside0.mk fun (W : World) (hW : Below w.heap.size w W) => spec_ApplyTietze.calls k1 a0_0 A0_1 c0_1 l0_1 4 x5 0 none 0 [] g rows code W (Kd.C_below HR0.out hW) HC0.out (Kd.C_nil _ _) (Nat.le_refl _) hap
        clear hap
        by_cases cc : code = 0
        · rw [if_pos cc] at H
          have ccb : (code == 0) = true := beq_iff_eq.mpr cc
          clear cc
          simp only [Option.some.injEq, Prod.mk.injEq] at H
          obtain ⟨rfl, rfl, rfl, rfl, rfl, rfl, rfl⟩ := H
          go_wp2_with (first
            | (refine be_ 6 44 #[.int .i64 0, .int .i64 0, .int .i64 0, .slice none 0 0] ?_; intro b9 hg w9 hbox hb; have HX9 := Aside0.mk (show ZX w b1 b2 b3 b9 from ⟨by rw [hg]; exact Nat.ne_of_lt (blk_lt HQ.out.p), by rw [hg]; exact Nat.ne_of_lt (blk_lt HQ.out.m), by rw [hg]; exact Nat.ne_of_lt (blk_lt HQ.out.o), by rw [hg]; exact HQ.out.b.size⟩); have HQ9 := Aside0.mk (HQ.out.below hb); have BM := Aside0.mk hbox; have hn91 := HX9.out.1; have hn19 := HX9.out.1.symm; clear q10 q11; have q10 : w9.cell? ⟨b1, 0, none⟩ = some (.int .i64 a0_0) := (blk_cell HQ9.out.p 0).trans rfl; have q11 : w9.cell? ⟨b1, 1, none⟩ = some (.slice A0_1 l0_1.length c0_1) := (blk_cell HQ9.out.p 1).trans rfl; clear hg hbox hb HQ; have z0 : w9.cell? ⟨b9, 0, none⟩ = some (.int .i64 0) := (blk_cell BM.out 0).trans rfl; have zf0 := blk_frozen BM.out 0; have z1 : w9.cell? ⟨b9, 1, none⟩ = some (.int .i64 0) := (blk_cell BM.out 1).trans rfl; have zf1 := blk_frozen BM.out 1; have z2 : w9.cell? ⟨b9, 2, none⟩ = some (.int .i64 0) := (blk_cell BM.out 2).trans rfl; have zf2 := blk_frozen BM.out 2; have z3 : w9.cell? ⟨b9, 3, none⟩ = some (.slice none 0 0) := (blk_cell BM.out 3).trans rfl; have zf3 := blk_frozen BM.out 3)
            | (go_at_call 23; have HQC := Aside0.mk (show ZQ w b1 b2 b3 #[.int .i64 a0_0, .slice A0_1 l0_1.length c0_1] #[.int .i64 0, .int .i64 0, .int .i64 0, .slice none 0 0] #[.int .i64 0, .slice none 0 0] ((((w9.setCell ⟨b9, 0, none⟩ (.int .i64 4)).setCell ⟨b9, 1, none⟩ (.int .i64 x5)).setCell ⟨b9, 2, none⟩ (.int .i64 0)).setCell ⟨b9, 3, none⟩ (.slice none 0 0)) from HQ9.out.put4 HX9.out); refine (HAP.out _ HQC.out.b).mono ?_; rintro e w10 ⟨u, rfl, hN, hb⟩; obtain ⟨Au, cu, eu⟩ := Kd.N_slice hN; subst eu; have HV10 := Aside0.mk (show Kd.V (Kd.slice 2 (Kd.int .i64)) 39 w10 w.heap.size (fun k_ => w.heap.size ≤ k_ ∧ k_ ≠ b2 ∧ k_ ≠ b3 ∧ k_ < w10.heap.size) (.slice Au rows.length cu) rows from Kd.V_mono (Kd.V_bound (Kd.V_lower (Kd.N_V hN) HQC.out.b.size)) (fun k_ hk => ⟨Nat.le_trans HQC.out.b.size hk.1, (by have h2 := blk_lt HQC.out.m; have h3 := hk.1; omega), (by have h2 := blk_lt HQC.out.o; have h3 := hk.1; omega), hk.2⟩)); have HQ10 := Aside0.mk (HQC.out.below hb); have BM10 := Aside0.mk (blk_below (show ((((w9.setCell ⟨b9, 0, none⟩ (.int .i64 4)).setCell ⟨b9, 1, none⟩ (.int .i64 x5)).setCell ⟨b9, 2, none⟩ (.int .i64 0)).setCell ⟨b9, 3, none⟩ (.slice none 0 0)).heap[b9]? = some (.cells #[.int .i64 4, .int .i64 x5, .int .i64 0, .slice none 0 0] 44 (0, 0)) from zbox_put4 BM.out) hb); clear hb hN z0 z1 z2 z3 zf0 zf1 zf2 zf3 q10 q11 HQ9 BM HAP HQC)
            | (refine be_ 7 28 #[.int .i64 0, .slice none 0 0] ?_; intro b10 hg w12 hbox hb; have HX10 := Aside0.mk (show ZX w b1 b2 b3 b10 ∧ b9 ≠ b10 from ⟨⟨by rw [hg]; exact Nat.ne_of_lt (blk_lt HQ10.out.p), by rw [hg]; exact Nat.ne_of_lt (blk_lt HQ10.out.m), by rw [hg]; exact Nat.ne_of_lt (blk_lt HQ10.out.o), by rw [hg]; exact HQ10.out.b.size⟩, by rw [hg]; exact Nat.ne_of_lt (blk_lt BM10.out)⟩); have HV12 := Aside0.mk (show Kd.V (Kd.slice 2 (Kd.int .i64)) 39 w12 w.heap.size (fun k_ => w.heap.size ≤ k_ ∧ k_ ≠ b2 ∧ k_ ≠ b3 ∧ k_ ≠ b10) (.slice Au rows.length cu) rows from Kd.V_mono (Kd.V_below HV10.out hb) (fun k_ hk => ⟨hk.1, hk.2.1, hk.2.2.1, by rw [hg]; exact Nat.ne_of_lt hk.2.2.2⟩)); have HQ12 := Aside0.mk (HQ10.out.below hb); have BM12 := Aside0.mk (blk_below BM10.out hb); have BO := Aside0.mk hbox; clear hg hbox hb HQ10 BM10 HV10; have z0 : w12.cell? ⟨b10, 0, none⟩ = some (.int .i64 0) := (blk_cell BO.out 0).trans rfl; have z1 : w12.cell? ⟨b10, 1, none⟩ = some (.slice none 0 0) := (blk_cell BO.out 1).trans rfl; have zf0 := blk_frozen BO.out 0; have zf1 := blk_frozen BO.out 1))
          clear z0 z1 zf0 zf1
          have HQ13 := Aside0.mk (show ZQ w b1 b2 b3 #[.int .i64 a0_0, .slice A0_1 l0_1.length c0_1] #[.int .i64 0, .int .i64 0, .int .i64 0, .slice none 0 0] #[.int .i64 0, .slice none 0 0] ((w12.setCell ⟨b10, 0, none⟩ (.int .i64 g)).setCell ⟨b10, 1, none⟩ (.slice Au rows.length cu)) from HQ12.out.put2 HX10.out.1)
          have BM13 := Aside0.mk (show ((w12.setCell ⟨b10, 0, none⟩ (.int .i64 g)).setCell ⟨b10, 1, none⟩ (.slice Au rows.length cu)).heap[b9]? = some (.cells #[.int .i64 4, .int .i64 x5, .int .i64 0, .slice none 0 0] 44 (0, 0)) from zbox_far2 BM12.out HX10.out.2)
          have BO13 := Aside0.mk (show ((w12.setCell ⟨b10, 0, none⟩ (.int .i64 g)).setCell ⟨b10, 1, none⟩ (.slice Au rows.length cu)).heap[b10]? = some (.cells #[.int .i64 g, .slice Au rows.length cu] 28 (0, 0)) from zbox_put2 BO.out)
          have HS13 := Aside0.mk (show Kd.V (Kd.slice 2 (Kd.int .i64)) 39 ((w12.setCell ⟨b10, 0, none⟩ (.int .i64 g)).setCell ⟨b10, 1, none⟩ (.slice Au rows.length cu)) w.heap.size (fun k_ => w.heap.size ≤ k_ ∧ k_ ≠ b2 ∧ k_ ≠ b3 ∧ k_ ≠ b10) (.slice Au rows.length cu) rows from zV_put2 HV12.out (fun _ h => h.2.2.2))
          clear HQ12 BM12 BO HV12
          generalize ((w12.setCell ⟨b10, 0, none⟩ (.int .i64 g)).setCell ⟨b10, 1, none⟩ (.slice Au rows.length cu)) = w13 at HQ13 BM13 BO13 HS13 ⊢
          have hb1 := below_drew1 (Below.refl w13.heap.size w13)
          have HQ15 := Aside0.mk (HQ13.out.below hb1)
          have BM15 := Aside0.mk (blk_below BM13.out hb1)
          have BO15 := Aside0.mk (blk_below BO13.out hb1)
          have HS15 := Aside0.mk (Kd.V_below HS13.out hb1)
          refine start_ (n := 5) (S := fun w' => w'.cell? ⟨b9, 0, none⟩ = some (.int .i64 4) ∧ w'.cell? ⟨b9, 1, none⟩ = some (.int .i64 x5) ∧ w'.cell? ⟨b9, 2, none⟩ = some (.int .i64 0) ∧ w'.cell? ⟨b9, 3, none⟩ = some (.slice none 0 0) ∧ w'.cell? ⟨b10, 0, none⟩ = some (.int .i64 g) ∧ w'.cell? ⟨b10, 1, none⟩ = some (.slice Au rows.length cu)) (ds := []) (zA_ 5 0) (by kernel_rfl) rfl (by kernel_rfl) ⟨(blk_cell BM15.out 0).trans rfl, (blk_cell BM15.out 1).trans rfl, (blk_cell BM15.out 2).trans rfl, (blk_cell BM15.out 3).trans rfl, (blk_cell BO15.out 0).trans rfl, (blk_cell BO15.out 1).trans rfl⟩ (fun hHeld => ?_)
          clear HQ13 BM13 BO13 HS13 hb1
          generalize w13.drew = w15 at HQ15 BM15 BO15 HS15 hHeld ⊢
          refine zt_ 0 31 (zA_ 5 1) hHeld ?_
          refine zt_ 1 32 (zA_ 5 3) hHeld ?_
          have y0 : w15.cell? ⟨b2, 0, none⟩ = some (.int .i64 0) := (blk_cell HQ15.out.m 0).trans rfl
          have yf0 := blk_frozen HQ15.out.m 0
          have y1 : w15.cell? ⟨b2, 1, none⟩ = some (.int .i64 0) := (blk_cell HQ15.out.m 1).trans rfl
          have yf1 := blk_frozen HQ15.out.m 1
          have y2 : w15.cell? ⟨b2, 2, none⟩ = some (.int .i64 0) := (blk_cell HQ15.out.m 2).trans rfl
          have yf2 := blk_frozen HQ15.out.m 2
          have y3 : w15.cell? ⟨b2, 3, none⟩ = some (.slice none 0 0) := (blk_cell HQ15.out.m 3).trans rfl
          have yf3 := blk_frozen HQ15.out.m 3
          refine one_ (i := 2) (N := none) (zA_ 5 7) rfl rfl (by kernel_rfl) (by decide) (fun K hK => ?_)
          refine skip_ (w1 := ?_) (by rfl) rfl ?_ ?_
          rotate_left
          · go_simp
            rfl
          have HQ15a := Aside0.mk (show ZQ w b1 b2 b3 #[.int .i64 a0_0, .slice A0_1 l0_1.length c0_1] #[.int .i64 4, .int .i64 x5, .int .i64 0, .slice none 0 0] #[.int .i64 0, .slice none 0 0] ((((w15.setCell ⟨b2, 0, none⟩ (.int .i64 4)).setCell ⟨b2, 1, none⟩ (.int .i64 x5)).setCell ⟨b2, 2, none⟩ (.int .i64 0)).setCell ⟨b2, 3, none⟩ (.slice none 0 0)) from HQ15.out.m4 HD.out)
          have BM15a := Aside0.mk (show ((((w15.setCell ⟨b2, 0, none⟩ (.int .i64 4)).setCell ⟨b2, 1, none⟩ (.int .i64 x5)).setCell ⟨b2, 2, none⟩ (.int .i64 0)).setCell ⟨b2, 3, none⟩ (.slice none 0 0)).heap[b9]? = _ from zbox_far4 BM15.out (Ne.symm HX9.out.2.1))
          have BO15a := Aside0.mk (show ((((w15.setCell ⟨b2, 0, none⟩ (.int .i64 4)).setCell ⟨b2, 1, none⟩ (.int .i64 x5)).setCell ⟨b2, 2, none⟩ (.int .i64 0)).setCell ⟨b2, 3, none⟩ (.slice none 0 0)).heap[b10]? = _ from zbox_far4 BO15.out (Ne.symm HX10.out.1.2.1))
          have HS15a := Aside0.mk (show Kd.V (Kd.slice 2 (Kd.int .i64)) 39 ((((w15.setCell ⟨b2, 0, none⟩ (.int .i64 4)).setCell ⟨b2, 1, none⟩ (.int .i64 x5)).setCell ⟨b2, 2, none⟩ (.int .i64 0)).setCell ⟨b2, 3, none⟩ (.slice none 0 0)) w.heap.size (fun k_ => w.heap.size ≤ k_ ∧ k_ ≠ b2 ∧ k_ ≠ b3 ∧ k_ ≠ b10) (.slice Au rows.length cu) rows from zV_put4 HS15.out (fun _ h => h.2.1))
          clear y0 y1 y2 y3 yf0 yf1 yf2 yf3 hHeld HQ15 HS15 BM15 BO15
          refine hK.out _ _ ⟨(blk_cell BM15a.out 0).trans rfl, (blk_cell BM15a.out 1).trans rfl, (blk_cell BM15a.out 2).trans rfl, (blk_cell BM15a.out 3).trans rfl, (blk_cell BO15a.out 0).trans rfl, (blk_cell BO15a.out 1).trans rfl⟩ (fun hHeld => ?_)
          clear hK K
          generalize ((((w15.setCell ⟨b2, 0, none⟩ (.int .i64 4)).setCell ⟨b2, 1, none⟩ (.int .i64 x5)).setCell ⟨b2, 2, none⟩ (.int .i64 0)).setCell ⟨b2, 3, none⟩ (.slice none 0 0)) = w15a at HQ15a HS15a BM15a BO15a hHeld ⊢
          have y0 : w15a.cell? ⟨b3, 0, none⟩ = some (.int .i64 0) := (blk_cell HQ15a.out.o 0).trans rfl
          have yf0 := blk_frozen HQ15a.out.o 0
          have y1 : w15a.cell? ⟨b3, 1, none⟩ = some (.slice none 0 0) := (blk_cell HQ15a.out.o 1).trans rfl
          have yf1 := blk_frozen HQ15a.out.o 1
          refine one_ (i := 3) (N := none) (zA_ 5 15) rfl rfl (by kernel_rfl) (by decide) (fun K hK => ?_)
          refine skip_ (w1 := ?_) (by rfl) rfl ?_ ?_
          rotate_left
          · go_simp
            rfl
          have HQ15b := Aside0.mk (show ZQ w b1 b2 b3 #[.int .i64 a0_0, .slice A0_1 l0_1.length c0_1] #[.int .i64 4, .int .i64 x5, .int .i64 0, .slice none 0 0] #[.int .i64 g, .slice Au rows.length cu] ((w15a.setCell ⟨b3, 0, none⟩ (.int .i64 g)).setCell ⟨b3, 1, none⟩ (.slice Au rows.length cu)) from HQ15a.out.o2 HD.out)
          have BM15b := Aside0.mk (show ((w15a.setCell ⟨b3, 0, none⟩ (.int .i64 g)).setCell ⟨b3, 1, none⟩ (.slice Au rows.length cu)).heap[b9]? = _ from zbox_far2 BM15a.out (Ne.symm HX9.out.2.2.1))
          have BO15b := Aside0.mk (show ((w15a.setCell ⟨b3, 0, none⟩ (.int .i64 g)).setCell ⟨b3, 1, none⟩ (.slice Au rows.length cu)).heap[b10]? = _ from zbox_far2 BO15a.out (Ne.symm HX10.out.1.2.2.1))
          have HS15b := Aside0.mk (show Kd.V (Kd.slice 2 (Kd.int .i64)) 39 ((w15a.setCell ⟨b3, 0, none⟩ (.int .i64 g)).setCell ⟨b3, 1, none⟩ (.slice Au rows.length cu)) w.heap.size (fun k_ => w.heap.size ≤ k_ ∧ k_ ≠ b2 ∧ k_ ≠ b3 ∧ k_ ≠ b10) (.slice Au rows.length cu) rows from zV_put2 HS15a.out (fun _ h => h.2.2.1))
          clear y0 y1 yf0 yf1 hHeld HQ15a HS15a BM15a BO15a
          refine hK.out _ _ ⟨(blk_cell BM15b.out 0).trans rfl, (blk_cell BM15b.out 1).trans rfl, (blk_cell BM15b.out 2).trans rfl, (blk_cell BM15b.out 3).trans rfl, (blk_cell BO15b.out 0).trans rfl, (blk_cell BO15b.out 1).trans rfl⟩ (fun hHeld => ?_)
          clear hK K
          generalize ((w15a.setCell ⟨b3, 0, none⟩ (.int .i64 g)).setCell ⟨b3, 1, none⟩ (.slice Au rows.length cu)) = w15b at HQ15b HS15b BM15b BO15b hHeld ⊢
          refine zz_ 4 4 (zA_ 5 31) ?_
          refine done_ (by kernel_rfl) ?_
          try go_wp2
          refine bodyPost_ret (results_list (rs := [.cell 2 44, .cell 3 28, .tmp 4]) rfl (by simp) (.cell b2 44 #[.int .i64 4, .int .i64 x5, .int .i64 0, .slice none 0 0] (0, 0) _ rfl HQ15b.out.m Try.underlying44 rfl (by kernel_rfl) (.cell b3 28 #[.int .i64 g, .slice Au rows.length cu] (0, 0) _ rfl HQ15b.out.o Try.underlying28 rfl (by kernel_rfl) (.tmp .nil)))) rfl ?_
          (try refine ⟨_, _, _, by first | rfl | trivial, ?_⟩)
          first | exact ⟨rfl, fun _ => Kd.V_mono HS15b.out (fun _ h => h.1), HQ15b.out.b⟩ | exact ⟨trivial, fun _ => Kd.V_mono HS15b.out (fun _ h => h.1), HQ15b.out.b⟩ | exact ⟨fun _ => Kd.V_mono HS15b.out (fun _ h => h.1), HQ15b.out.b⟩ | exact ⟨rfl, Kd.V_mono HS15b.out (fun _ h => h.1), HQ15b.out.b⟩ | exact ⟨Kd.V_mono HS15b.out (fun _ h => h.1), HQ15b.out.b⟩ | exact ⟨⟨_, _, _, rfl⟩, HQ15b.out.b⟩ | exact HQ15b.out.b
        · have H' := Aside0.mk (show spec_l04Step.l0 k1 (wrap64 (x5 + 1)) a0_0 l0_1 = some (r1, r2, r3, r4, r5, r6, r7) by rw [if_neg cc] at H; exact H)
          have ccb : (code == 0) = false := beq_eq_false_iff_ne.mpr cc
          clear H cc
          go_wp2_with (first
            | (refine be_ 6 44 #[.int .i64 0, .int .i64 0, .int .i64 0, .slice none 0 0] ?_; intro b9 hg w9 hbox hb; have HX9 := Aside0.mk (show ZX w b1 b2 b3 b9 from ⟨by rw [hg]; exact Nat.ne_of_lt (blk_lt HQ.out.p), by rw [hg]; exact Nat.ne_of_lt (blk_lt HQ.out.m), by rw [hg]; exact Nat.ne_of_lt (blk_lt HQ.out.o), by rw [hg]; exact HQ.out.b.size⟩); have HQ9 := Aside0.mk (HQ.out.below hb); have BM := Aside0.mk hbox; have hn91 := HX9.out.1; have hn19 := HX9.out.1.symm; clear q10 q11; have q10 : w9.cell? ⟨b1, 0, none⟩ = some (.int .i64 a0_0) := (blk_cell HQ9.out.p 0).trans rfl; have q11 : w9.cell? ⟨b1, 1, none⟩ = some (.slice A0_1 l0_1.length c0_1) := (blk_cell HQ9.out.p 1).trans rfl; clear hg hbox hb HQ; have z0 : w9.cell? ⟨b9, 0, none⟩ = some (.int .i64 0) := (blk_cell BM.out 0).trans rfl; have zf0 := blk_frozen BM.out 0; have z1 : w9.cell? ⟨b9, 1, none⟩ = some (.int .i64 0) := (blk_cell BM.out 1).trans rfl; have zf1 := blk_frozen BM.out 1; have z2 : w9.cell? ⟨b9, 2, none⟩ = some (.int .i64 0) := (blk_cell BM.out 2).trans rfl; have zf2 := blk_frozen BM.out 2; have z3 : w9.cell? ⟨b9, 3, none⟩ = some (.slice none 0 0) := (blk_cell BM.out 3).trans rfl; have zf3 := blk_frozen BM.out 3)
            | (go_at_call 23; have HQC := Aside0.mk (show ZQ w b1 b2 b3 #[.int .i64 a0_0, .slice A0_1 l0_1.length c0_1] #[.int .i64 0, .int .i64 0, .int .i64 0, .slice none 0 0] #[.int .i64 0, .slice none 0 0] ((((w9.setCell ⟨b9, 0, none⟩ (.int .i64 4)).setCell ⟨b9, 1, none⟩ (.int .i64 x5)).setCell ⟨b9, 2, none⟩ (.int .i64 0)).setCell ⟨b9, 3, none⟩ (.slice none 0 0)) from HQ9.out.put4 HX9.out); refine (HAP.out _ HQC.out.b).mono ?_; rintro e w10 ⟨u, rfl, hN, hb⟩; obtain ⟨Au, cu, eu⟩ := Kd.N_slice hN; subst eu; have HV10 := Aside0.mk (show Kd.V (Kd.slice 2 (Kd.int .i64)) 39 w10 w.heap.size (fun k_ => w.heap.size ≤ k_ ∧ k_ ≠ b2 ∧ k_ ≠ b3 ∧ k_ < w10.heap.size) (.slice Au rows.length cu) rows from Kd.V_mono (Kd.V_bound (Kd.V_lower (Kd.N_V hN) HQC.out.b.size)) (fun k_ hk => ⟨Nat.le_trans HQC.out.b.size hk.1, (by have h2 := blk_lt HQC.out.m; have h3 := hk.1; omega), (by have h2 := blk_lt HQC.out.o; have h3 := hk.1; omega), hk.2⟩)); have HQ10 := Aside0.mk (HQC.out.below hb); have BM10 := Aside0.mk (blk_below (show ((((w9.setCell ⟨b9, 0, none⟩ (.int .i64 4)).setCell ⟨b9, 1, none⟩ (.int .i64 x5)).setCell ⟨b9, 2, none⟩ (.int .i64 0)).setCell ⟨b9, 3, none⟩ (.slice none 0 0)).heap[b9]? = some (.cells #[.int .i64 4, .int .i64 x5, .int .i64 0, .slice none 0 0] 44 (0, 0)) from zbox_put4 BM.out) hb); clear hb hN z0 z1 z2 z3 zf0 zf1 zf2 zf3 q10 q11 HQ9 BM HAP HQC)
            | (refine be_ 7 28 #[.int .i64 0, .slice none 0 0] ?_; intro b10 hg w12 hbox hb; have HX10 := Aside0.mk (show ZX w b1 b2 b3 b10 ∧ b9 ≠ b10 from ⟨⟨by rw [hg]; exact Nat.ne_of_lt (blk_lt HQ10.out.p), by rw [hg]; exact Nat.ne_of_lt (blk_lt HQ10.out.m), by rw [hg]; exact Nat.ne_of_lt (blk_lt HQ10.out.o), by rw [hg]; exact HQ10.out.b.size⟩, by rw [hg]; exact Nat.ne_of_lt (blk_lt BM10.out)⟩); have HV12 := Aside0.mk (show Kd.V (Kd.slice 2 (Kd.int .i64)) 39 w12 w.heap.size (fun k_ => w.heap.size ≤ k_ ∧ k_ ≠ b2 ∧ k_ ≠ b3 ∧ k_ ≠ b10) (.slice Au rows.length cu) rows from Kd.V_mono (Kd.V_below HV10.out hb) (fun k_ hk => ⟨hk.1, hk.2.1, hk.2.2.1, by rw [hg]; exact Nat.ne_of_lt hk.2.2.2⟩)); have HQ12 := Aside0.mk (HQ10.out.below hb); have BM12 := Aside0.mk (blk_below BM10.out hb); have BO := Aside0.mk hbox; clear hg hbox hb HQ10 BM10 HV10; have z0 : w12.cell? ⟨b10, 0, none⟩ = some (.int .i64 0) := (blk_cell BO.out 0).trans rfl; have z1 : w12.cell? ⟨b10, 1, none⟩ = some (.slice none 0 0) := (blk_cell BO.out 1).trans rfl; have zf0 := blk_frozen BO.out 0; have zf1 := blk_frozen BO.out 1))
          clear z0 z1 zf0 zf1
          have HQ13 := Aside0.mk (show ZQ w b1 b2 b3 #[.int .i64 a0_0, .slice A0_1 l0_1.length c0_1] #[.int .i64 0, .int .i64 0, .int .i64 0, .slice none 0 0] #[.int .i64 0, .slice none 0 0] ((w12.setCell ⟨b10, 0, none⟩ (.int .i64 g)).setCell ⟨b10, 1, none⟩ (.slice Au rows.length cu)) from HQ12.out.put2 HX10.out.1)
          have BM13 := Aside0.mk (show ((w12.setCell ⟨b10, 0, none⟩ (.int .i64 g)).setCell ⟨b10, 1, none⟩ (.slice Au rows.length cu)).heap[b9]? = some (.cells #[.int .i64 4, .int .i64 x5, .int .i64 0, .slice none 0 0] 44 (0, 0)) from zbox_far2 BM12.out HX10.out.2)
          have BO13 := Aside0.mk (show ((w12.setCell ⟨b10, 0, none⟩ (.int .i64 g)).setCell ⟨b10, 1, none⟩ (.slice Au rows.length cu)).heap[b10]? = some (.cells #[.int .i64 g, .slice Au rows.length cu] 28 (0, 0)) from zbox_put2 BO.out)
          have HS13 := Aside0.mk (show Kd.V (Kd.slice 2 (Kd.int .i64)) 39 ((w12.setCell ⟨b10, 0, none⟩ (.int .i64 g)).setCell ⟨b10, 1, none⟩ (.slice Au rows.length cu)) w.heap.size (fun k_ => w.heap.size ≤ k_ ∧ k_ ≠ b2 ∧ k_ ≠ b3 ∧ k_ ≠ b10) (.slice Au rows.length cu) rows from zV_put2 HV12.out (fun _ h => h.2.2.2))
          clear HQ12 BM12 BO HV12
          generalize ((w12.setCell ⟨b10, 0, none⟩ (.int .i64 g)).setCell ⟨b10, 1, none⟩ (.slice Au rows.length cu)) = w13 at HQ13 BM13 BO13 HS13 ⊢
          go_roundg k1
          case measure => have := HK1.out; omega
          case rel => exact ⟨wrap64 (x5 + 1), rfl, H', ⟨by have := HK1.out; omega⟩, HQ13⟩
      · rw [if_neg c5] at H
        have c5b : decide (x5 < (l0_1.length : Int)) = false := decide_eq_false c5
        clear c5
        have H' := Aside0.mk H
        clear H
        go_wp2
        clear q10 q11
        go_loopg [9] k1 (fun kq v9 w' => ∃ x9 : Int, v9 = .int .i64 x9 ∧ Aside0 (spec_l04Step.l1 kq x9 a0_0 l0_1 = some (r1, r2, r3, r4, r5, r6, r7)) ∧ Aside0 (kq ≤ k1) ∧ Aside0 (ZQ w b1 b2 b3 #[.int .i64 a0_0, .slice A0_1 l0_1.length c0_1] #[.int .i64 0, .int .i64 0, .int .i64 0, .slice none 0 0] #[.int .i64 0, .slice none 0 0] w'))
        case atStart => exact ⟨0, rfl, H', ⟨Nat.le_refl _⟩, HQ⟩
        case round =>
          clear H' HQ
          obtain ⟨x9, rfl, HA, HK2, HQ⟩ := hrel
          cases gk with
          | zero => exact absurd HA.out (by simp [spec_l04Step.l1])
          | succ k2 =>
            have H := HA.out
            clear HA
            simp only [spec_l04Step.l1] at H
            have q10 : wr.cell? ⟨b1, 0, none⟩ = some (.int .i64 a0_0) := (blk_cell HQ.out.p 0).trans rfl
            have q11 : wr.cell? ⟨b1, 1, none⟩ = some (.slice A0_1 l0_1.length c0_1) := (blk_cell HQ.out.p 1).trans rfl
            by_cases c9 : x9 < (l0_1.length : Int)
            · rw [if_pos c9] at H
              have c9b : decide (x9 < (l0_1.length : Int)) = true := decide_eq_true c9
              clear c9
              have H' := Aside0.mk H
              clear H
              go_wp2
              clear q10 q11
              go_loopg [10] k2 (fun kq v10 w' => ∃ x10 : Int, v10 = .int .i64 x10 ∧ Aside0 (spec_l04Step.l2 kq x9 x10 a0_0 l0_1 = some (r1, r2, r3, r4, r5, r6, r7)) ∧ Aside0 (kq ≤ k2) ∧ Aside0 (ZQ w b1 b2 b3 #[.int .i64 a0_0, .slice A0_1 l0_1.length c0_1] #[.int .i64 0, .int .i64 0, .int .i64 0, .slice none 0 0] #[.int .i64 0, .slice none 0 0] w'))
              case atStart => exact ⟨1, rfl, H', ⟨Nat.le_refl _⟩, HQ⟩
              case round =>
                clear H' HQ
                obtain ⟨x10, rfl, HA, HK3, HQ⟩ := hrel
                cases gk with
                | zero => exact absurd HA.out (by simp [spec_l04Step.l2])
                | succ k3 =>
                  have H := HA.out
                  clear HA
                  simp only [spec_l04Step.l2] at H
                  have q10 : wr.cell? ⟨b1, 0, none⟩ = some (.int .i64 a0_0) := (blk_cell HQ.out.p 0).trans rfl
                  have q11 : wr.cell? ⟨b1, 1, none⟩ = some (.slice A0_1 l0_1.length c0_1) := (blk_cell HQ.out.p 1).trans rfl
                  by_cases c10 : x10 ≤ a0_0
                  · rw [if_pos c10] at H
                    have c10b : decide (x10 ≤ a0_0) = true := decide_eq_true c10
                    clear c10
                    obtain ⟨⟨g, rows, code⟩, hap, H⟩ := Option.bind_eq_some_iff.mp H
                    simp only at H
                    have HAP := Aside0.mk fun (W : World) (hW : Below w.heap.size w W) => spec_ApplyTietze.calls k3 a0_0 A0_1 c0_1 l0_1 5 x9 x10 none 0 [] g rows code W (Kd.C_below HR0.out hW) HC0.out (Kd.C_nil _ _) (Nat.le_refl _) hap
                    clear hap
                    by_cases cc : code = 0
                    · rw [if_pos cc] at H
                      have ccb : (code == 0) = true := beq_iff_eq.mpr cc
                      clear cc
                      simp only [Option.some.injEq, Prod.mk.injEq] at H
                      obtain ⟨rfl, rfl, rfl, rfl, rfl, rfl, rfl⟩ := H
                      go_wp2_with (first
                        | (refine be_ 11 44 #[.int .i64 0, .int .i64 0, .int .i64 0, .slice none 0 0] ?_; intro b9 hg w9 hbox hb; have HX9 := Aside0.mk (show ZX w b1 b2 b3 b9 from ⟨by rw [hg]; exact Nat.ne_of_lt (blk_lt HQ.out.p), by rw [hg]; exact Nat.ne_of_lt (blk_lt HQ.out.m), by rw [hg]; exact Nat.ne_of_lt (blk_lt HQ.out.o), by rw [hg]; exact HQ.out.b.size⟩); have HQ9 := Aside0.mk (HQ.out.below hb); have BM := Aside0.mk hbox; have hn91 := HX9.out.1; have hn19 := HX9.out.1.symm; clear q10 q11; have q10 : w9.cell? ⟨b1, 0, none⟩ = some (.int .i64 a0_0) := (blk_cell HQ9.out.p 0).trans rfl; have q11 : w9.cell? ⟨b1, 1, none⟩ = some (.slice A0_1 l0_1.length c0_1) := (blk_cell HQ9.out.p 1).trans rfl; clear hg hbox hb HQ; have z0 : w9.cell? ⟨b9, 0, none⟩ = some (.int .i64 0) := (blk_cell BM.out 0).trans rfl; have zf0 := blk_frozen BM.out 0; have z1 : w9.cell? ⟨b9, 1, none⟩ = some (.int .i64 0) := (blk_cell BM.out 1).trans rfl; have zf1 := blk_frozen BM.out 1; have z2 : w9.cell? ⟨b9, 2, none⟩ = some (.int .i64 0) := (blk_cell BM.out 2).trans rfl; have zf2 := blk_frozen BM.out 2; have z3 : w9.cell? ⟨b9, 3, none⟩ = some (.slice none 0 0) := (blk_cell BM.out 3).trans rfl; have zf3 := blk_frozen BM.out 3)
                        | (go_at_call 23; have HQC := Aside0.mk (show ZQ w b1 b2 b3 #[.int .i64 a0_0, .slice A0_1 l0_1.length c0_1] #[.int .i64 0, .int .i64 0, .int .i64 0, .slice none 0 0] #[.int .i64 0, .slice none 0 0] ((((w9.setCell ⟨b9, 0, none⟩ (.int .i64 5)).setCell ⟨b9, 1, none⟩ (.int .i64 x9)).setCell ⟨b9, 2, none⟩ (.int .i64 x10)).setCell ⟨b9, 3, none⟩ (.slice none 0 0)) from HQ9.out.put4 HX9.out); refine (HAP.out _ HQC.out.b).mono ?_; rintro e w10 ⟨u, rfl, hN, hb⟩; obtain ⟨Au, cu, eu⟩ := Kd.N_slice hN; subst eu; have HV10 := Aside0.mk (show Kd.V (Kd.slice 2 (Kd.int .i64)) 39 w10 w.heap.size (fun k_ => w.heap.size ≤ k_ ∧ k_ ≠ b2 ∧ k_ ≠ b3 ∧ k_ < w10.heap.size) (.slice Au rows.length cu) rows from Kd.V_mono (Kd.V_bound (Kd.V_lower (Kd.N_V hN) HQC.out.b.size)) (fun k_ hk => ⟨Nat.le_trans HQC.out.b.size hk.1, (by have h2 := blk_lt HQC.out.m; have h3 := hk.1; omega), (by have h2 := blk_lt HQC.out.o; have h3 := hk.1; omega), hk.2⟩)); have HQ10 := Aside0.mk (HQC.out.below hb); have BM10 := Aside0.mk (blk_below (show ((((w9.setCell ⟨b9, 0, none⟩ (.int .i64 5)).setCell ⟨b9, 1, none⟩ (.int .i64 x9)).setCell ⟨b9, 2, none⟩ (.int .i64 x10)).setCell ⟨b9, 3, none⟩ (.slice none 0 0)).heap[b9]? = some (.cells #[.int .i64 5, .int .i64 x9, .int .i64 x10, .slice none 0 0] 44 (0, 0)) from zbox_put4 BM.out) hb); clear hb hN z0 z1 z2 z3 zf0 zf1 zf2 zf3 q10 q11 HQ9 BM HAP HQC)
                        | (refine be_ 12 28 #[.int .i64 0, .slice none 0 0] ?_; intro b10 hg w12 hbox hb; have HX10 := Aside0.mk (show ZX w b1 b2 b3 b10 ∧ b9 ≠ b10 from ⟨⟨by rw [hg]; exact Nat.ne_of_lt (blk_lt HQ10.out.p), by rw [hg]; exact Nat.ne_of_lt (blk_lt HQ10.out.m), by rw [hg]; exact Nat.ne_of_lt (blk_lt HQ10.out.o), by rw [hg]; exact HQ10.out.b.size⟩, by rw [hg]; exact Nat.ne_of_lt (blk_lt BM10.out)⟩); have HV12 := Aside0.mk (show Kd.V (Kd.slice 2 (Kd.int .i64)) 39 w12 w.heap.size (fun k_ => w.heap.size ≤ k_ ∧ k_ ≠ b2 ∧ k_ ≠ b3 ∧ k_ ≠ b10) (.slice Au rows.length cu) rows from Kd.V_mono (Kd.V_below HV10.out hb) (fun k_ hk => ⟨hk.1, hk.2.1, hk.2.2.1, by rw [hg]; exact Nat.ne_of_lt hk.2.2.2⟩)); have HQ12 := Aside0.mk (HQ10.out.below hb); have BM12 := Aside0.mk (blk_below BM10.out hb); have BO := Aside0.mk hbox; clear hg hbox hb HQ10 BM10 HV10; have z0 : w12.cell? ⟨b10, 0, none⟩ = some (.int .i64 0) := (blk_cell BO.out 0).trans rfl; have z1 : w12.cell? ⟨b10, 1, none⟩ = some (.slice none 0 0) := (blk_cell BO.out 1).trans rfl; have zf0 := blk_frozen BO.out 0; have zf1 := blk_frozen BO.out 1))
                      clear z0 z1 zf0 zf1
                      have HQ13 := Aside0.mk (show ZQ w b1 b2 b3 #[.int .i64 a0_0, .slice A0_1 l0_1.length c0_1] #[.int .i64 0, .int .i64 0, .int .i64 0, .slice none 0 0] #[.int .i64 0, .slice none 0 0] ((w12.setCell ⟨b10, 0, none⟩ (.int .i64 g)).setCell ⟨b10, 1, none⟩ (.slice Au rows.length cu)) from HQ12.out.put2 HX10.out.1)
                      have BM13 := Aside0.mk (show ((w12.setCell ⟨b10, 0, none⟩ (.int .i64 g)).setCell ⟨b10, 1, none⟩ (.slice Au rows.length cu)).heap[b9]? = some (.cells #[.int .i64 5, .int .i64 x9, .int .i64 x10, .slice none 0 0] 44 (0, 0)) from zbox_far2 BM12.out HX10.out.2)
                      have BO13 := Aside0.mk (show ((w12.setCell ⟨b10, 0, none⟩ (.int .i64 g)).setCell ⟨b10, 1, none⟩ (.slice Au rows.length cu)).heap[b10]? = some (.cells #[.int .i64 g, .slice Au rows.length cu] 28 (0, 0)) from zbox_put2 BO.out)
                      have HS13 := Aside0.mk (show Kd.V (Kd.slice 2 (Kd.int .i64)) 39 ((w12.setCell ⟨b10, 0, none⟩ (.int .i64 g)).setCell ⟨b10, 1, none⟩ (.slice Au rows.length cu)) w.heap.size (fun k_ => w.heap.size ≤ k_ ∧ k_ ≠ b2 ∧ k_ ≠ b3 ∧ k_ ≠ b10) (.slice Au rows.length cu) rows from zV_put2 HV12.out (fun _ h => h.2.2.2))
                      clear HQ12 BM12 BO HV12
                      generalize ((w12.setCell ⟨b10, 0, none⟩ (.int .i64 g)).setCell ⟨b10, 1, none⟩ (.slice Au rows.length cu)) = w13 at HQ13 BM13 BO13 HS13 ⊢
                      have hb1 := below_drew1 (Below.refl w13.heap.size w13)
                      have HQ15 := Aside0.mk (HQ13.out.below hb1)
                      have BM15 := Aside0.mk (blk_below BM13.out hb1)
                      have BO15 := Aside0.mk (blk_below BO13.out hb1)
                      have HS15 := Aside0.mk (Kd.V_below HS13.out hb1)
                      refine start_ (n := 5) (S := fun w' => w'.cell? ⟨b9, 0, none⟩ = some (.int .i64 5) ∧ w'.cell? ⟨b9, 1, none⟩ = some (.int .i64 x9) ∧ w'.cell? ⟨b9, 2, none⟩ = some (.int .i64 x10) ∧ w'.cell? ⟨b9, 3, none⟩ = some (.slice none 0 0) ∧ w'.cell? ⟨b10, 0, none⟩ = some (.int .i64 g) ∧ w'.cell? ⟨b10, 1, none⟩ = some (.slice Au rows.length cu)) (ds := []) (zA_ 5 0) (by kernel_rfl) rfl (by kernel_rfl) ⟨(blk_cell BM15.out 0).trans rfl, (blk_cell BM15.out 1).trans rfl, (blk_cell BM15.out 2).trans rfl, (blk_cell BM15.out 3).trans rfl, (blk_cell BO15.out 0).trans rfl, (blk_cell BO15.out 1).trans rfl⟩ (fun hHeld => ?_)
                      clear HQ13 BM13 BO13 HS13 hb1
                      generalize w13.drew = w15 at HQ15 BM15 BO15 HS15 hHeld ⊢
                      refine zt_ 0 57 (zA_ 5 1) hHeld ?_
                      refine zt_ 1 58 (zA_ 5 3) hHeld ?_
                      have y0 : w15.cell? ⟨b2, 0, none⟩ = some (.int .i64 0) := (blk_cell HQ15.out.m 0).trans rfl
                      have yf0 := blk_frozen HQ15.out.m 0
                      have y1 : w15.cell? ⟨b2, 1, none⟩ = some (.int .i64 0) := (blk_cell HQ15.out.m 1).trans rfl
                      have yf1 := blk_frozen HQ15.out.m 1
                      have y2 : w15.cell? ⟨b2, 2, none⟩ = some (.int .i64 0) := (blk_cell HQ15.out.m 2).trans rfl
                      have yf2 := blk_frozen HQ15.out.m 2
                      have y3 : w15.cell? ⟨b2, 3, none⟩ = some (.slice none 0 0) := (blk_cell HQ15.out.m 3).trans rfl
                      have yf3 := blk_frozen HQ15.out.m 3
                      refine one_ (i := 2) (N := none) (zA_ 5 7) rfl rfl (by kernel_rfl) (by decide) (fun K hK => ?_)
                      refine skip_ (w1 := ?_) (by rfl) rfl ?_ ?_
                      rotate_left
                      · go_simp
                        rfl
                      have HQ15a := Aside0.mk (show ZQ w b1 b2 b3 #[.int .i64 a0_0, .slice A0_1 l0_1.length c0_1] #[.int .i64 5, .int .i64 x9, .int .i64 x10, .slice none 0 0] #[.int .i64 0, .slice none 0 0] ((((w15.setCell ⟨b2, 0, none⟩ (.int .i64 5)).setCell ⟨b2, 1, none⟩ (.int .i64 x9)).setCell ⟨b2, 2, none⟩ (.int .i64 x10)).setCell ⟨b2, 3, none⟩ (.slice none 0 0)) from HQ15.out.m4 HD.out)
                      have BM15a := Aside0.mk (show ((((w15.setCell ⟨b2, 0, none⟩ (.int .i64 5)).setCell ⟨b2, 1, none⟩ (.int .i64 x9)).setCell ⟨b2, 2, none⟩ (.int .i64 x10)).setCell ⟨b2, 3, none⟩ (.slice none 0 0)).heap[b9]? = _ from zbox_far4 BM15.out (Ne.symm HX9.out.2.1))
                      have BO15a := Aside0.mk (show ((((w15.setCell ⟨b2, 0, none⟩ (.int .i64 5)).setCell ⟨b2, 1, none⟩ (.int .i64 x9)).setCell ⟨b2, 2, none⟩ (.int .i64 x10)).setCell ⟨b2, 3, none⟩ (.slice none 0 0)).heap[b10]? = _ from zbox_far4 BO15.out (Ne.symm HX10.out.1.2.1))
                      have HS15a := Aside0.mk (show Kd.V (Kd.slice 2 (Kd.int .i64)) 39 ((((w15.setCell ⟨b2, 0, none⟩ (.int .i64 5)).setCell ⟨b2, 1, none⟩ (.int .i64 x9)).setCell ⟨b2, 2, none⟩ (.int .i64 x10)).setCell ⟨b2, 3, none⟩ (.slice none 0 0)) w.heap.size (fun k_ => w.heap.size ≤ k_ ∧ k_ ≠ b2 ∧ k_ ≠ b3 ∧ k_ ≠ b10) (.slice Au rows.length cu) rows from zV_put4 HS15.out (fun _ h => h.2.1))
                      clear y0 y1 y2 y3 yf0 yf1 yf2 yf3 hHeld HQ15 HS15 BM15 BO15
                      refine hK.out _ _ ⟨(blk_cell BM15a.out 0).trans rfl, (blk_cell BM15a.out 1).trans rfl, (blk_cell BM15a.out 2).trans rfl, (blk_cell BM15a.out 3).trans rfl, (blk_cell BO15a.out 0).trans rfl, (blk_cell BO15a.out 1).trans rfl⟩ (fun hHeld => ?_)
                      clear hK K
                      generalize ((((w15.setCell ⟨b2, 0, none⟩ (.int .i64 5)).setCell ⟨b2, 1, none⟩ (.int .i64 x9)).setCell ⟨b2, 2, none⟩ (.int .i64 x10)).setCell ⟨b2, 3, none⟩ (.slice none 0 0)) = w15a at HQ15a HS15a BM15a BO15a hHeld ⊢
                      have y0 : w15a.cell? ⟨b3, 0, none⟩ = some (.int .i64 0) := (blk_cell HQ15a.out.o 0).trans rfl
                      have yf0 := blk_frozen HQ15a.out.o 0
                      have y1 : w15a.cell? ⟨b3, 1, none⟩ = some (.slice none 0 0) := (blk_cell HQ15a.out.o 1).trans rfl
                      have yf1 := blk_frozen HQ15a.out.o 1
                      refine one_ (i := 3) (N := none) (zA_ 5 15) rfl rfl (by kernel_rfl) (by decide) (fun K hK => ?_)
                      refine skip_ (w1 := ?_) (by rfl) rfl ?_ ?_
                      rotate_left
                      · go_simp
                        rfl
                      have HQ15b := Aside0.mk (show ZQ w b1 b2 b3 #[.int .i64 a0_0, .slice A0_1 l0_1.length c0_1] #[.int .i64 5, .int .i64 x9, .int .i64 x10, .slice none 0 0] #[.int .i64 g, .slice Au rows.length cu] ((w15a.setCell ⟨b3, 0, none⟩ (.int .i64 g)).setCell ⟨b3, 1, none⟩ (.slice Au rows.length cu)) from HQ15a.out.o2 HD.out)
                      have BM15b := Aside0.mk (show ((w15a.setCell ⟨b3, 0, none⟩ (.int .i64 g)).setCell ⟨b3, 1, none⟩ (.slice Au rows.length cu)).heap[b9]? = _ from zbox_far2 BM15a.out (Ne.symm HX9.out.2.2.1))
                      have BO15b := Aside0.mk (show ((w15a.setCell ⟨b3, 0, none⟩ (.int .i64 g)).setCell ⟨b3, 1, none⟩ (.slice Au rows.length cu)).heap[b10]? = _ from zbox_far2 BO15a.out (Ne.symm HX10.out.1.2.2.1))
                      have HS15b := Aside0.mk (show Kd.V (Kd.slice 2 (Kd.int .i64)) 39 ((w15a.setCell ⟨b3, 0, none⟩ (.int .i64 g)).setCell ⟨b3, 1, none⟩ (.slice Au rows.length cu)) w.heap.size (fun k_ => w.heap.size ≤ k_ ∧ k_ ≠ b2 ∧ k_ ≠ b3 ∧ k_ ≠ b10) (.slice Au rows.length cu) rows from zV_put2 HS15a.out (fun _ h => h.2.2.1))
                      clear y0 y1 yf0 yf1 hHeld HQ15a HS15a BM15a BO15a
                      refine hK.out _ _ ⟨(blk_cell BM15b.out 0).trans rfl, (blk_cell BM15b.out 1).trans rfl, (blk_cell BM15b.out 2).trans rfl, (blk_cell BM15b.out 3).trans rfl, (blk_cell BO15b.out 0).trans rfl, (blk_cell BO15b.out 1).trans rfl⟩ (fun hHeld => ?_)
                      clear hK K
                      generalize ((w15a.setCell ⟨b3, 0, none⟩ (.int .i64 g)).setCell ⟨b3, 1, none⟩ (.slice Au rows.length cu)) = w15b at HQ15b HS15b BM15b BO15b hHeld ⊢
                      refine zz_ 4 4 (zA_ 5 31) ?_
                      refine done_ (by kernel_rfl) ?_
                      try go_wp2
                      refine bodyPost_ret (results_list (rs := [.cell 2 44, .cell 3 28, .tmp 4]) rfl (by simp) (.cell b2 44 #[.int .i64 5, .int .i64 x9, .int .i64 x10, .slice none 0 0] (0, 0) _ rfl HQ15b.out.m Try.underlying44 rfl (by kernel_rfl) (.cell b3 28 #[.int .i64 g, .slice Au rows.length cu] (0, 0) _ rfl HQ15b.out.o Try.underlying28 rfl (by kernel_rfl) (.tmp .nil)))) rfl ?_
                      (try refine ⟨_, _, _, by first | rfl | trivial, ?_⟩)
                      first | exact ⟨rfl, fun _ => Kd.V_mono HS15b.out (fun _ h => h.1), HQ15b.out.b⟩ | exact ⟨trivial, fun _ => Kd.V_mono HS15b.out (fun _ h => h.1), HQ15b.out.b⟩ | exact ⟨fun _ => Kd.V_mono HS15b.out (fun _ h => h.1), HQ15b.out.b⟩ | exact ⟨rfl, Kd.V_mono HS15b.out (fun _ h => h.1), HQ15b.out.b⟩ | exact ⟨Kd.V_mono HS15b.out (fun _ h => h.1), HQ15b.out.b⟩ | exact ⟨⟨_, _, _, rfl⟩, HQ15b.out.b⟩ | exact HQ15b.out.b
                    · have H' := Aside0.mk (show spec_l04Step.l2 k3 x9 (wrap64 (x10 + 1)) a0_0 l0_1 = some (r1, r2, r3, r4, r5, r6, r7) by rw [if_neg cc] at H; exact H)
                      have ccb : (code == 0) = false := beq_eq_false_iff_ne.mpr cc
                      clear H cc
                      go_wp2_with (first
                        | (refine be_ 11 44 #[.int .i64 0, .int .i64 0, .int .i64 0, .slice none 0 0] ?_; intro b9 hg w9 hbox hb; have HX9 := Aside0.mk (show ZX w b1 b2 b3 b9 from ⟨by rw [hg]; exact Nat.ne_of_lt (blk_lt HQ.out.p), by rw [hg]; exact Nat.ne_of_lt (blk_lt HQ.out.m), by rw [hg]; exact Nat.ne_of_lt (blk_lt HQ.out.o), by rw [hg]; exact HQ.out.b.size⟩); have HQ9 := Aside0.mk (HQ.out.below hb); have BM := Aside0.mk hbox; have hn91 := HX9.out.1; have hn19 := HX9.out.1.symm; clear q10 q11; have q10 : w9.cell? ⟨b1, 0, none⟩ = some (.int .i64 a0_0) := (blk_cell HQ9.out.p 0).trans rfl; have q11 : w9.cell? ⟨b1, 1, none⟩ = some (.slice A0_1 l0_1.length c0_1) := (blk_cell HQ9.out.p 1).trans rfl; clear hg hbox hb HQ; have z0 : w9.cell? ⟨b9, 0, none⟩ = some (.int .i64 0) := (blk_cell BM.out 0).trans rfl; have zf0 := blk_frozen BM.out 0; have z1 : w9.cell? ⟨b9, 1, none⟩ = some (.int .i64 0) := (blk_cell BM.out 1).trans rfl; have zf1 := blk_frozen BM.out 1; have z2 : w9.cell? ⟨b9, 2, none⟩ = some (.int .i64 0) := (blk_cell BM.out 2).trans rfl; have zf2 := blk_frozen BM.out 2; have z3 : w9.cell? ⟨b9, 3, none⟩ = some (.slice none 0 0) := (blk_cell BM.out 3).trans rfl; have zf3 := blk_frozen BM.out 3)
                        | (go_at_call 23; have HQC := Aside0.mk (show ZQ w b1 b2 b3 #[.int .i64 a0_0, .slice A0_1 l0_1.length c0_1] #[.int .i64 0, .int .i64 0, .int .i64 0, .slice none 0 0] #[.int .i64 0, .slice none 0 0] ((((w9.setCell ⟨b9, 0, none⟩ (.int .i64 5)).setCell ⟨b9, 1, none⟩ (.int .i64 x9)).setCell ⟨b9, 2, none⟩ (.int .i64 x10)).setCell ⟨b9, 3, none⟩ (.slice none 0 0)) from HQ9.out.put4 HX9.out); refine (HAP.out _ HQC.out.b).mono ?_; rintro e w10 ⟨u, rfl, hN, hb⟩; obtain ⟨Au, cu, eu⟩ := Kd.N_slice hN; subst eu; have HV10 := Aside0.mk (show Kd.V (Kd.slice 2 (Kd.int .i64)) 39 w10 w.heap.size (fun k_ => w.heap.size ≤ k_ ∧ k_ ≠ b2 ∧ k_ ≠ b3 ∧ k_ < w10.heap.size) (.slice Au rows.length cu) rows from Kd.V_mono (Kd.V_bound (Kd.V_lower (Kd.N_V hN) HQC.out.b.size)) (fun k_ hk => ⟨Nat.le_trans HQC.out.b.size hk.1, (by have h2 := blk_lt HQC.out.m; have h3 := hk.1; omega), (by have h2 := blk_lt HQC.out.o; have h3 := hk.1; omega), hk.2⟩)); have HQ10 := Aside0.mk (HQC.out.below hb); have BM10 := Aside0.mk (blk_below (show ((((w9.setCell ⟨b9, 0, none⟩ (.int .i64 5)).setCell ⟨b9, 1, none⟩ (.int .i64 x9)).setCell ⟨b9, 2, none⟩ (.int .i64 x10)).setCell ⟨b9, 3, none⟩ (.slice none 0 0)).heap[b9]? = some (.cells #[.int .i64 5, .int .i64 x9, .int .i64 x10, .slice none 0 0] 44 (0, 0)) from zbox_put4 BM.out) hb); clear hb hN z0 z1 z2 z3 zf0 zf1 zf2 zf3 q10 q11 HQ9 BM HAP HQC)
                        | (refine be_ 12 28 #[.int .i64 0, .slice none 0 0] ?_; intro b10 hg w12 hbox hb; have HX10 := Aside0.mk (show ZX w b1 b2 b3 b10 ∧ b9 ≠ b10 from ⟨⟨by rw [hg]; exact Nat.ne_of_lt (blk_lt HQ10.out.p), by rw [hg]; exact Nat.ne_of_lt (blk_lt HQ10.out.m), by rw [hg]; exact Nat.ne_of_lt (blk_lt HQ10.out.o), by rw [hg]; exact HQ10.out.b.size⟩, by rw [hg]; exact Nat.ne_of_lt (blk_lt BM10.out)⟩); have HV12 := Aside0.mk (show Kd.V (Kd.slice 2 (Kd.int .i64)) 39 w12 w.heap.size (fun k_ => w.heap.size ≤ k_ ∧ k_ ≠ b2 ∧ k_ ≠ b3 ∧ k_ ≠ b10) (.slice Au rows.length cu) rows from Kd.V_mono (Kd.V_below HV10.out hb) (fun k_ hk => ⟨hk.1, hk.2.1, hk.2.2.1, by rw [hg]; exact Nat.ne_of_lt hk.2.2.2⟩)); have HQ12 := Aside0.mk (HQ10.out.below hb); have BM12 := Aside0.mk (blk_below BM10.out hb); have BO := Aside0.mk hbox; clear hg hbox hb HQ10 BM10 HV10; have z0 : w12.cell? ⟨b10, 0, none⟩ = some (.int .i64 0) := (blk_cell BO.out 0).trans rfl; have z1 : w12.cell? ⟨b10, 1, none⟩ = some (.slice none 0 0) := (blk_cell BO.out 1).trans rfl; have zf0 := blk_frozen BO.out 0; have zf1 := blk_frozen BO.out 1))
                      clear z0 z1 zf0 zf1
                      have HQ13 := Aside0.mk (show ZQ w b1 b2 b3 #[.int .i64 a0_0, .slice A0_1 l0_1.length c0_1] #[.int .i64 0, .int .i64 0, .int .i64 0, .slice none 0 0] #[.int .i64 0, .slice none 0 0] ((w12.setCell ⟨b10, 0, none⟩ (.int .i64 g)).setCell ⟨b10, 1, none⟩ (.slice Au rows.length cu)) from HQ12.out.put2 HX10.out.1)
                      have BM13 := Aside0.mk (show ((w12.setCell ⟨b10, 0, none⟩ (.int .i64 g)).setCell ⟨b10, 1, none⟩ (.slice Au rows.length cu)).heap[b9]? = some (.cells #[.int .i64 5, .int .i64 x9, .int .i64 x10, .slice none 0 0] 44 (0, 0)) from zbox_far2 BM12.out HX10.out.2)
                      have BO13 := Aside0.mk (show ((w12.setCell ⟨b10, 0, none⟩ (.int .i64 g)).setCell ⟨b10, 1, none⟩ (.slice Au rows.length cu)).heap[b10]? = some (.cells #[.int .i64 g, .slice Au rows.length cu] 28 (0, 0)) from zbox_put2 BO.out)
                      have HS13 := Aside0.mk (show Kd.V (Kd.slice 2 (Kd.int .i64)) 39 ((w12.setCell ⟨b10, 0, none⟩ (.int .i64 g)).setCell ⟨b10, 1, none⟩ (.slice Au rows.length cu)) w.heap.size (fun k_ => w.heap.size ≤ k_ ∧ k_ ≠ b2 ∧ k_ ≠ b3 ∧ k_ ≠ b10) (.slice Au rows.length cu) rows from zV_put2 HV12.out (fun _ h => h.2.2.2))
                      clear HQ12 BM12 BO HV12
                      generalize ((w12.setCell ⟨b10, 0, none⟩ (.int .i64 g)).setCell ⟨b10, 1, none⟩ (.slice Au rows.length cu)) = w13 at HQ13 BM13 BO13 HS13 ⊢
                      go_roundg k3
                      case measure => have := HK2.out; have := HK3.out; omega
                      case rel => exact ⟨wrap64 (x10 + 1), rfl, H', ⟨by have := HK2.out; have := HK3.out; omega⟩, HQ13⟩
                  · rw [if_neg c10] at H
                    have c10b : decide (x10 ≤ a0_0) = false := decide_eq_false c10
                    clear c10
                    have H' := Aside0.mk H
                    clear H
                    go_wp2
                    go_roundg k3
                    case measure => have := HK2.out; have := HK3.out; omega
                    case rel => exact ⟨wrap64 (x9 + 1), rfl, H', ⟨by have := HK2.out; have := HK3.out; omega⟩, HQ⟩
            · rw [if_neg c9] at H
              have c9b : decide (x9 < (l0_1.length : Int)) = false := decide_eq_false c9
              clear c9
              simp only [Option.some.injEq, Prod.mk.injEq] at H
              obtain ⟨rfl, rfl, rfl, rfl, rfl, rfl, rfl⟩ := H
              go_wp2
              clear q10 q11
              have hb1 := below_drew1 (Below.refl wr.heap.size wr)
              have HQ15 := Aside0.mk (HQ.out.below hb1)
              refine start_ (n := 5) (S := fun w' => w'.cell? ⟨b1, 0, none⟩ = some (.int .i64 a0_0) ∧ w'.cell? ⟨b1, 1, none⟩ = some (.slice A0_1 l0_1.length c0_1)) (ds := []) (zA_ 5 0) (by kernel_rfl) rfl (by kernel_rfl) ⟨(blk_cell HQ15.out.p 0).trans rfl, (blk_cell HQ15.out.p 1).trans rfl⟩ (fun hHeld => ?_)
              clear HQ hb1
              generalize wr.drew = w15 at HQ15 hHeld ⊢
              refine zz_ 0 59 (zA_ 5 1) ?_
              refine zt_ 1 60 (zA_ 5 3) hHeld ?_
              have y0 : w15.cell? ⟨b2, 0, none⟩ = some (.int .i64 0) := (blk_cell HQ15.out.m 0).trans rfl
              have yf0 := blk_frozen HQ15.out.m 0
              have y1 : w15.cell? ⟨b2, 1, none⟩ = some (.int .i64 0) := (blk_cell HQ15.out.m 1).trans rfl
              have yf1 := blk_frozen HQ15.out.m 1
              have y2 : w15.cell? ⟨b2, 2, none⟩ = some (.int .i64 0) := (blk_cell HQ15.out.m 2).trans rfl
              have yf2 := blk_frozen HQ15.out.m 2
              have y3 : w15.cell? ⟨b2, 3, none⟩ = some (.slice none 0 0) := (blk_cell HQ15.out.m 3).trans rfl
              have yf3 := blk_frozen HQ15.out.m 3
              refine one_ (i := 2) (N := none) (zA_ 5 7) rfl rfl (by kernel_rfl) (by decide) (fun K hK => ?_)
              refine skip_ (w1 := ?_) (by rfl) rfl ?_ ?_
              rotate_left
              · go_simp
                rfl
              have HQ15a := Aside0.mk (show ZQ w b1 b2 b3 #[.int .i64 a0_0, .slice A0_1 l0_1.length c0_1] #[.int .i64 0, .int .i64 0, .int .i64 0, .slice none 0 0] #[.int .i64 0, .slice none 0 0] ((((w15.setCell ⟨b2, 0, none⟩ (.int .i64 0)).setCell ⟨b2, 1, none⟩ (.int .i64 0)).setCell ⟨b2, 2, none⟩ (.int .i64 0)).setCell ⟨b2, 3, none⟩ (.slice none 0 0)) from HQ15.out.m4 HD.out)
              clear y0 y1 y2 y3 yf0 yf1 yf2 yf3 hHeld HQ15
              refine hK.out _ _ ⟨(blk_cell HQ15a.out.p 0).trans rfl, (blk_cell HQ15a.out.p 1).trans rfl⟩ (fun hHeld => ?_)
              clear hK K
              generalize ((((w15.setCell ⟨b2, 0, none⟩ (.int .i64 0)).setCell ⟨b2, 1, none⟩ (.int .i64 0)).setCell ⟨b2, 2, none⟩ (.int .i64 0)).setCell ⟨b2, 3, none⟩ (.slice none 0 0)) = w15a at HQ15a hHeld ⊢
              have y0 : w15a.cell? ⟨b3, 0, none⟩ = some (.int .i64 0) := (blk_cell HQ15a.out.o 0).trans rfl
              have yf0 := blk_frozen HQ15a.out.o 0
              have y1 : w15a.cell? ⟨b3, 1, none⟩ = some (.slice none 0 0) := (blk_cell HQ15a.out.o 1).trans rfl
              have yf1 := blk_frozen HQ15a.out.o 1
              refine one_ (i := 3) (N := none) (zA_ 5 15) rfl rfl (by kernel_rfl) (by decide) (fun K hK => ?_)
              refine skip_ (w1 := ?_) (by rfl) rfl ?_ ?_
              rotate_left
              · go_simp
                rfl
              have HQ15b := Aside0.mk (show ZQ w b1 b2 b3 #[.int .i64 a0_0, .slice A0_1 l0_1.length c0_1] #[.int .i64 0, .int .i64 0, .int .i64 0, .slice none 0 0] #[.int .i64 a0_0, .slice A0_1 l0_1.length c0_1] ((w15a.setCell ⟨b3, 0, none⟩ (.int .i64 a0_0)).setCell ⟨b3, 1, none⟩ (.slice A0_1 l0_1.length c0_1)) from HQ15a.out.o2 HD.out)
              clear y0 y1 yf0 yf1 hHeld HQ15a
              refine hK.out _ _ ⟨(blk_cell HQ15b.out.p 0).trans rfl, (blk_cell HQ15b.out.p 1).trans rfl⟩ (fun hHeld => ?_)
              clear hK K
              generalize ((w15a.setCell ⟨b3, 0, none⟩ (.int .i64 a0_0)).setCell ⟨b3, 1, none⟩ (.slice A0_1 l0_1.length c0_1)) = w15b at HQ15b hHeld ⊢
              refine zz_ 4 4 (zA_ 5 31) ?_
              refine done_ (by kernel_rfl) ?_
              try go_wp2
              refine bodyPost_ret (results_list (rs := [.cell 2 44, .cell 3 28, .tmp 4]) rfl (by simp) (.cell b2 44 #[.int .i64 0, .int .i64 0, .int .i64 0, .slice none 0 0] (0, 0) _ rfl HQ15b.out.m Try.underlying44 rfl (by kernel_rfl) (.cell b3 28 #[.int .i64 a0_0, .slice A0_1 l0_1.length c0_1] (0, 0) _ rfl HQ15b.out.o Try.underlying28 rfl (by kernel_rfl) (.tmp .nil)))) rfl ?_
              (try refine ⟨_, _, _, by first | rfl | trivial, ?_⟩)
              first | exact ⟨rfl, fun h_ => Bool.noConfusion h_, HQ15b.out.b⟩ | exact ⟨trivial, fun h_ => Bool.noConfusion h_, HQ15b.out.b⟩ | exact ⟨fun h_ => Bool.noConfusion h_, HQ15b.out.b⟩ | exact ⟨rfl, trivial, HQ15b.out.b⟩ | exact ⟨trivial, HQ15b.out.b⟩ | exact ⟨⟨_, _, _, rfl⟩, HQ15b.out.b⟩ | exact HQ15b.out.b

end Go.Proofs.Ytbcdngjajjgmkaa.PFnExactSimplifyPresentation
