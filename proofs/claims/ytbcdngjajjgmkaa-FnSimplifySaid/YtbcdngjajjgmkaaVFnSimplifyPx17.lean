/- Written by this session's program out of the kit's print and this session's contracts. -/
import Derived.Test.YtbcdngjajjgmkaaVFnSimplifyPx0
import Derived.Test.YtbcdngjajjgmkaaVFnSimplifyPx1
import Derived.Test.YtbcdngjajjgmkaaVFnSimplifyPx8
import Derived.Test.YtbcdngjajjgmkaaVFnSimplifyPx15
import Derived.Test.YtbcdngjajjgmkaaVFnSimplifyPx16
namespace Go.Proofs.Ytbcdngjajjgmkaa.PFnSimplify
open Go.RowKit Go.Proofs.YtbcdngjajjgmkaaW.PrintWords Go.Proofs.YtbcdngjajjgmkaaW.PrintLast Go.Proofs.YtbcdngjajjgmkaaW.PrintMore
set_option linter.unusedVariables false
set_option linter.unusedSimpArgs false

/-! ### laws_FnSimplify: function 7 -/
mutual
def laws_FnSimplify.l0 : Nat → List (S44) → Int → Int → List (List Int) → Int → List (List Int) → Int → List (List Int) → Option (Bool)
 | 0, _, _, _, _, _, _, _, _ => none
 | k + 1, x5, x8, x479000, x479001, x488000, x488001, x490000, x490001 => if x8 < (x5.length : Int) then (if 0 ≤ x8 then ((spec_ApplyTietze.f k x490000 x490001 ((rd_T44 x5 x8).f0) ((rd_T44 x5 x8).f1) ((rd_T44 x5 x8).f2) ((rd_T44 x5 x8).f3)).bind fun bt491 => (if bt491.2.2 = 0 then (laws_FnSimplify.l0 k x5 (wrap64 (x8 + 1)) x479000 x479001 x488000 x488001 bt491.1 bt491.2.1) else (some false))) else (none)) else (if x490000 = x488000 then (laws_FnSimplify.j1 k x5 ((x490001.length : Int) != (x488001.length : Int)) x479000 x479001 x488000 x488001 x490000 x490001) else (laws_FnSimplify.j1 k x5 true x479000 x479001 x488000 x488001 x490000 x490001))
def laws_FnSimplify.j1 : Nat → List (S44) → Bool → Int → List (List Int) → Int → List (List Int) → Int → List (List Int) → Option (Bool)
 | 0, _, _, _, _, _, _, _, _ => none
 | k + 1, x5, x67, x479000, x479001, x488000, x488001, x490000, x490001 => if x67 = true then (some false) else (laws_FnSimplify.l1 k x5 0 x479000 x479001 x488000 x488001 x490000 x490001)
def laws_FnSimplify.l1 : Nat → List (S44) → Int → Int → List (List Int) → Int → List (List Int) → Int → List (List Int) → Option (Bool)
 | 0, _, _, _, _, _, _, _, _ => none
 | k + 1, x5, x11, x479000, x479001, x488000, x488001, x490000, x490001 => if x11 < (x488001.length : Int) then (if 0 ≤ x11 then (if x11 < (x490001.length : Int) then ((laws_likeInts.f k (rd_L1 x490001 x11) (rd_L1 x488001 x11)).bind fun t499 => (if t499 = true then (if ((rd_L1 x488001 x11).length : Int) = 0 then (laws_FnSimplify.j3 k x5 x11 (decide ((x5.length : Int) < 200)) x479000 x479001 x488000 x488001 x490000 x490001) else (laws_FnSimplify.j3 k x5 x11 false x479000 x479001 x488000 x488001 x490000 x490001)) else (laws_FnSimplify.j3 k x5 x11 true x479000 x479001 x488000 x488001 x490000 x490001))) else (none)) else (none)) else (some (decide (x488000 ≤ x479000)))
def laws_FnSimplify.j3 : Nat → List (S44) → Int → Bool → Int → List (List Int) → Int → List (List Int) → Int → List (List Int) → Option (Bool)
 | 0, _, _, _, _, _, _, _, _, _ => none
 | k + 1, x5, x11, x100, x479000, x479001, x488000, x488001, x490000, x490001 => if x100 = true then (some false) else (laws_FnSimplify.l2 k x5 x11 1 x479000 x479001 x488000 x488001 x490000 x490001)
def laws_FnSimplify.l2 : Nat → List (S44) → Int → Int → Int → List (List Int) → Int → List (List Int) → Int → List (List Int) → Option (Bool)
 | 0, _, _, _, _, _, _, _, _, _ => none
 | k + 1, x5, x11, x12, x479000, x479001, x488000, x488001, x490000, x490001 => if x12 ≤ x488000 then (laws_FnSimplify.j5 k x5 x11 x12 (decide ((x5.length : Int) < 200)) x479000 x479001 x488000 x488001 x490000 x490001) else (laws_FnSimplify.j5 k x5 x11 x12 false x479000 x479001 x488000 x488001 x490000 x490001)
def laws_FnSimplify.j5 : Nat → List (S44) → Int → Int → Bool → Int → List (List Int) → Int → List (List Int) → Int → List (List Int) → Option (Bool)
 | 0, _, _, _, _, _, _, _, _, _, _ => none
 | k + 1, x5, x11, x12, x109, x479000, x479001, x488000, x488001, x490000, x490001 => if x109 = true then ((spec_ApplyTietze.f k x488000 x488001 5 x11 x12 ([] : List Int)).bind fun bt501 => (if bt501.2.2 = 0 then (some false) else (laws_FnSimplify.l2 k x5 x11 (wrap64 (x12 + 1)) x479000 x479001 x488000 x488001 x490000 x490001))) else (laws_FnSimplify.l1 k x5 (wrap64 (x11 + 1)) x479000 x479001 x488000 x488001 x490000 x490001)
end
def laws_FnSimplify.f (k : Nat) (l0 : List Int) : Option (Bool) := (laws_big.f l0).bind fun t473 => (if t473 = true then (some true) else ((spec_DrawSimplifyPresentation.f k l0).bind fun bt474 => ((impl_SimplifyPresentation.f k bt474.1 bt474.2).bind fun bt479 => (if bt479.2.2.2 = 0 then (laws_FnSimplify.l0 k bt479.2.2.1 0 bt474.1 bt474.2 bt479.1 bt479.2.1 bt474.1 bt474.2) else (if (bt479.2.2.1.length : Int) = 0 then ((spec_IsPresentation.f k bt474.1 bt474.2).bind fun t488 => (some (!t488))) else (some false))))))
def laws_FnSimplify.T11 : Bool × List (List Nat × List Nat) := (true, [([], []), ([], []), ([], []), ([1, 2], [1, 2]), ([3], [3]), ([0, 4], [0, 4]), ([5], [5]), ([6], [6]), ([6], [6]), ([], []), ([9, 7, 5, 0, 1, 2, 3, 4, 5, 6, 7, 9], [7, 9]), ([8, 10, 0, 1, 2, 3, 4, 5, 6, 7, 8, 9, 10], [8])])
def laws_FnSimplify.B11 : List Nat := [0, 0, 0, 6, 14, 31, 63, 127, 127, 0, 767, 2047]
theorem laws_FnSimplify.tab11 : rtab .any (opsOf Try.f7 11) = laws_FnSimplify.T11 := by kernel_rfl
theorem laws_FnSimplify.bits11 : waitsOk laws_FnSimplify.T11.2 laws_FnSimplify.B11 = true := by kernel_rfl
def laws_FnSimplify.T20 : Bool × List (List Nat × List Nat) := (true, [([], []), ([0], [0]), ([], []), ([1, 2], [1, 2]), ([3], [3]), ([], []), ([5], [5]), ([], []), ([6, 7], [6, 7]), ([8], [8]), ([4, 9], [4, 9]), ([10], [10]), ([11, 10], [11]), ([12], [12]), ([13, 12], [12, 13]), ([12], [12]), ([14, 15, 12], [12, 14, 15]), ([16, 12], [12, 16]), ([17, 12], [12, 17]), ([18, 12], [12, 18]), ([19, 12, 12], [12, 19]), ([20], [20]), ([21, 20], [20, 21]), ([22, 20], [20, 22]), ([20, 23, 12], [12, 20, 23]), ([12, 24], [12, 24])])
def laws_FnSimplify.B20 : List Nat := [0, 1, 0, 7, 15, 0, 32, 0, 224, 480, 1023, 2047, 4095, 8191, 16383, 8191, 65535, 131071, 262143, 524287, 1048575, 2097151, 4194303, 8388607, 16777215, 33554431]
theorem laws_FnSimplify.tab20 : rtab .any (opsOf Try.f7 20) = laws_FnSimplify.T20 := by kernel_rfl
theorem laws_FnSimplify.bits20 : waitsOk laws_FnSimplify.T20.2 laws_FnSimplify.B20 = true := by kernel_rfl
set_option maxHeartbeats 8000000 in
set_option maxRecDepth 100000 in
theorem laws_FnSimplify.calls (k : Nat) (A0 : Option Addr) (c0 : Nat) (l0 : List Int) (r : Bool) (w : World) (hr0 : Kd.C (Kd.int .u8) w A0 l0.length l0) (hc0 : l0.length ≤ c0) (h : laws_FnSimplify.f k l0 = some r) (HTRUE_ : Aside0 (r = true)) :
  Calls Try.prog 7 #[.slice A0 l0.length c0] w fun e w' => e = .returned (.bool r) ∧ Below w.heap.size w w' := by
 have hu28 := Try.underlying28
 have hu44 := Try.underlying44
 have HR0 := am_ hr0
 have HC0 := am_ hc0
 clear hr0 hc0
 have HB := am_ (Below.refl w.heap.size w)
 have H : ((laws_big.f l0).bind fun t473 => (if t473 = true then (some true) else ((spec_DrawSimplifyPresentation.f k l0).bind fun bt474 => ((impl_SimplifyPresentation.f k bt474.1 bt474.2).bind fun bt479 => (if bt479.2.2.2 = 0 then (laws_FnSimplify.l0 k bt479.2.2.1 0 bt474.1 bt474.2 bt479.1 bt479.2.1 bt474.1 bt474.2) else (if (bt479.2.2.1.length : Int) = 0 then ((spec_IsPresentation.f k bt474.1 bt474.2).bind fun t488 => (some (!t488))) else (some false))))))) = some r := h
 clear h
 replace H := Option.bind_eq_some_iff.mp H
 obtain ⟨t473, A20, H⟩ := H
 replace H : (if t473 = true then (some true) else ((spec_DrawSimplifyPresentation.f k l0).bind fun bt474 => ((impl_SimplifyPresentation.f k bt474.1 bt474.2).bind fun bt479 => (if bt479.2.2.2 = 0 then (laws_FnSimplify.l0 k bt479.2.2.1 0 bt474.1 bt474.2 bt479.1 bt479.2.1 bt474.1 bt474.2) else (if (bt479.2.2.1.length : Int) = 0 then ((spec_IsPresentation.f k bt474.1 bt474.2).bind fun t488 => (some (!t488))) else (some false)))))) = some r := H
 have A2 := am_ A20
 clear A20
 by_cases c3 : t473 = true
 ·subst c3
  have H1 : (some true) = some r := by rw [if_pos rfl] at H; exact H
  clear H
  have H := H1
  clear H1
  obtain rfl := Option.some.inj H
  go_enter Try.func7, Try.ntmps7
  go_wp2_with (first | ((with_reducible refine gate_callee (f := 33) rfl ?_); refine goesL_ (some 16) rfl rfl Try.func33 (by kernel_rfl) rfl #[.slice A0 l0.length c0] rfl lm_ ?_; (with_reducible refine (laws_big.calls _ _ l0 true _ ?side1 ?side2 A2.out).mono ?_); (case side1 => exact cz_ HR0.out); (case side2 => exact HC0.out); rintro e w' ⟨rfl, ⟨nd, rfl⟩⟩; refine ⟨_, rfl, ?_⟩))
  go_ret
  exact ⟨er_, bb_ HB.out⟩
 ·replace c3 := Bool.eq_false_iff.mpr c3
  subst c3
  have H1 : ((spec_DrawSimplifyPresentation.f k l0).bind fun bt474 => ((impl_SimplifyPresentation.f k bt474.1 bt474.2).bind fun bt479 => (if bt479.2.2.2 = 0 then (laws_FnSimplify.l0 k bt479.2.2.1 0 bt474.1 bt474.2 bt479.1 bt479.2.1 bt474.1 bt474.2) else (if (bt479.2.2.1.length : Int) = 0 then ((spec_IsPresentation.f k bt474.1 bt474.2).bind fun t488 => (some (!t488))) else (some false))))) = some r := by rw [if_neg (show ¬ (false = true) by decide)] at H; exact H
  clear H
  have H := H1
  clear H1
  replace H := Option.bind_eq_some_iff.mp H
  obtain ⟨⟨t474, t475⟩, A40, H⟩ := H
  replace H : ((impl_SimplifyPresentation.f k t474 t475).bind fun bt479 => (if bt479.2.2.2 = 0 then (laws_FnSimplify.l0 k bt479.2.2.1 0 t474 t475 bt479.1 bt479.2.1 t474 t475) else (if (bt479.2.2.1.length : Int) = 0 then ((spec_IsPresentation.f k t474 t475).bind fun t488 => (some (!t488))) else (some false)))) = some r := H
  have A4 := am_ A40
  clear A40
  replace H := Option.bind_eq_some_iff.mp H
  obtain ⟨⟨t479, t480, t483, t486⟩, A50, H⟩ := H
  replace H : (if t486 = 0 then (laws_FnSimplify.l0 k t483 0 t474 t475 t479 t480 t474 t475) else (if (t483.length : Int) = 0 then ((spec_IsPresentation.f k t474 t475).bind fun t488 => (some (!t488))) else (some false))) = some r := H
  have A5 := am_ A50
  clear A50
  by_cases c6 : t486 = 0
  ·rw [if_pos c6] at H
   have c6b0 : (t486 == 0) = true := beq_iff_eq.mpr c6
   have c6b1 : (t486 != 0) = false := bne_eq_false_iff_eq.mpr c6
   clear c6
   have H' := am_ H
   clear H
   go_enter Try.func7, Try.ntmps7
   go_wp2_with (first | ((with_reducible refine gate_callee (f := 33) rfl ?_); refine goesL_ (some 16) rfl rfl Try.func33 (by kernel_rfl) rfl #[.slice A0 l0.length c0] rfl lm_ ?_; (with_reducible refine (laws_big.calls _ _ l0 false _ ?side1 ?side2 A2.out).mono ?_); (case side1 => exact cz_ HR0.out); (case side2 => exact HC0.out); rintro e w' ⟨rfl, ⟨nd, rfl⟩⟩; refine ⟨_, rfl, ?_⟩) | ((with_reducible refine gate_callee (f := 34) rfl ?_); refine goesL_ (some 18) rfl rfl Try.func34 (by kernel_rfl) rfl #[.slice A0 l0.length c0] rfl lm_ ?_; (with_reducible refine (spec_DrawSimplifyPresentation.calls k _ _ l0 t474 t475 _ ?side1 ?side2 A4.out).mono ?_); (case side1 => exact cz_ HR0.out); (case side2 => exact HC0.out); rintro e w7 ⟨v476, rfl, ho0, hb⟩; refine ⟨_, rfl, ?_⟩; have n0_ := am_ (Kd.N_lower (Kd.N_mono (ok' := fun k_ => True) (Kd.S_N (Kd.S_bound ho0)) (fun k_ hk_ => trivial)) (below_size (bb_ HB.out))); have n1_ := am_ (below_step (bb_ HB.out) hb); clear HB; revert n0_ n1_; intro HO477 HB; (try clear hb); (try clear hb2); (try clear hk); (try clear hi); (try clear ho0)) | (refine be_ 3 28 #[.int .i64 0, .slice none 0 0] ?_; intro gb478 hg w8 hbox hb; have n0_ := am_ (Kd.N_below (Kd.N_elderB (Nx_ HO477.out) gb478 (Nat.le_of_eq hg.symm)) hb); have n1_ := am_ (below_step (bb_ HB.out) hb); have n2_ := am_ (hbox); have n3_ := gs_ HB hg; have n4_ := gs_ HB hg; clear HO477 HB; revert n0_ n1_ n2_ n3_ n4_; intro HO477 HB BK478 GW478 GE478; clear hb hbox hg; obtain ⟨hcz9_0, hcz9_1, hfz9_0, hfz9_1⟩ := bx2_ BK478; obtain ⟨Ao10, co10, eo10⟩ := Kd.N_slice HO477.out; subst eo10) | ((with_reducible refine gate_callee (f := 29) rfl ?_); refine goesL_ (some 21) rfl rfl Try.func29 (by kernel_rfl) rfl #[.agg #[.int .i64 t474, .slice Ao10 t475.length co10]] rfl lm_ ?_; (with_reducible refine (impl_SimplifyPresentation.calls k t474 _ _ t475 t479 t480 t483 t486 _ ?side1 ?side2 A5.out).mono ?_); (case side1 => refine (Kd.N_reads' (e := 39) (base := w.heap.size) (ok := fun k_ => (True ∧ k_ ≠ gb478)) (n := t475.length) (c := co10) ?_).2.2; exact (Nx_ (Kd.N_mono (Kd.N_far (p := ⟨gb478, 1, none⟩) (Kd.N_far (p := ⟨gb478, 0, none⟩) (Kd.N_mono HO477.out (fun k_ hk => (⟨hk, hk.2⟩ : _ ∧ k_ ≠ gb478))) (fun _ hk => hk.2) (.int .i64 t474)) (fun _ hk => hk.2) (.slice Ao10 t475.length co10)) (fun _ h_ => h_.1)))); (case side2 => exact (Kd.N_reads' HO477.out).2.1); rintro e w11 ⟨v481, v484, rfl, ho0, ho1, hb⟩; refine ⟨_, rfl, ?_⟩; have n0_ := am_ (Kd.N_elder' (Nx_ (Kd.N_mono (Kd.N_far (p := ⟨gb478, 1, none⟩) (Kd.N_far (p := ⟨gb478, 0, none⟩) (Kd.N_mono HO477.out (fun k_ hk => (⟨hk, hk.2⟩ : _ ∧ k_ ≠ gb478))) (fun _ hk => hk.2) (.int .i64 t474)) (fun _ hk => hk.2) (.slice Ao10 t475.length co10)) (fun _ h_ => h_.1))) (Kd.N_base ho1) hb); have n1_ := am_ (Kd.V_lower (Kd.V_mono (ok' := fun k_ => some k_ ≠ (v484 : Value).ownBlock ∧ some k_ ≠ (.slice Ao10 t475.length co10 : Value).ownBlock ∧ k_ ≠ gb478) ho0 (fun k_ hk_ => ⟨hk_.2, (Kd.fresh' (Kd.N_lt (Nx_ (Kd.N_mono (Kd.N_far (p := ⟨gb478, 1, none⟩) (Kd.N_far (p := ⟨gb478, 0, none⟩) (Kd.N_mono HO477.out (fun k_ hk => (⟨hk, hk.2⟩ : _ ∧ k_ ≠ gb478))) (fun _ hk => hk.2) (.int .i64 t474)) (fun _ hk => hk.2) (.slice Ao10 t475.length co10)) (fun _ h_ => h_.1)))) k_ hk_.1), (Kd.freshB (g := gb478) (o := .cells #[.int .i64 t474, .slice Ao10 t475.length co10] 28 (0, 0)) (pu2_ BK478) k_ hk_.1)⟩)) (below_size (bb_ HB.out))); have n2_ := am_ (Kd.N_lower (Kd.N_mono (ok' := fun k_ => some k_ ≠ (.slice Ao10 t475.length co10 : Value).ownBlock ∧ k_ ≠ gb478) ho1 (fun k_ hk_ => ⟨(Kd.fresh' (Kd.N_lt (Nx_ (Kd.N_mono (Kd.N_far (p := ⟨gb478, 1, none⟩) (Kd.N_far (p := ⟨gb478, 0, none⟩) (Kd.N_mono HO477.out (fun k_ hk => (⟨hk, hk.2⟩ : _ ∧ k_ ≠ gb478))) (fun _ hk => hk.2) (.int .i64 t474)) (fun _ hk => hk.2) (.slice Ao10 t475.length co10)) (fun _ h_ => h_.1)))) k_ hk_), (Kd.freshB (g := gb478) (o := .cells #[.int .i64 t474, .slice Ao10 t475.length co10] 28 (0, 0)) (pu2_ BK478) k_ hk_)⟩)) (below_size (bb_ HB.out))); have n3_ := am_ (blk_below (g := gb478) (o := .cells #[.int .i64 t474, .slice Ao10 t475.length co10] 28 (0, 0)) (pu2_ BK478) hb); have n4_ := am_ (below_step (bb_ HB.out) hb); clear HO477 BK478 HB; revert n0_ n1_ n2_ n3_ n4_; intro HO477 HO482 HO485 BK478 HB; (try clear hb); (try clear hb2); (try clear hk); (try clear hi); (try clear ho0); (try clear ho1)) | (refine be_ 4 28 #[.int .i64 0, .slice none 0 0] ?_; intro gb487 hg w12 hbox hb; have n0_ := am_ (Kd.N_below (Kd.N_elderB (Nx_ HO477.out) gb487 (Nat.le_of_eq hg.symm)) hb); have n1_ := am_ (Kd.V_below (Kd.V_elderB (Vx_ HO482.out) gb487 (Nat.le_of_eq hg.symm)) hb); have n2_ := am_ (Kd.N_below (Kd.N_elderB (Nx_ HO485.out) gb487 (Nat.le_of_eq hg.symm)) hb); have n3_ := am_ (bw_ BK478 hb); have n4_ := am_ (below_step (bb_ HB.out) hb); have n5_ := am_ (hbox); have n6_ := gs_ HB hg; have n7_ := gs_ HB hg; have n8_ := am_ (nl_ BK478 hg); have n9_ := am_ (ng_ BK478 hg); clear HO477 HO482 HO485 BK478 HB; revert n0_ n1_ n2_ n3_ n4_ n5_ n6_ n7_ n8_ n9_; intro HO477 HO482 HO485 BK478 HB BK487 GW487 GE487 NB478_487 NB487_478; clear hb hbox hg; have hnb13 := NB487_478.out; have hnc13 := NB478_487.out; obtain ⟨hcz14_0, hcz14_1, hfz14_0, hfz14_1⟩ := bx2_ BK487; obtain ⟨Ao15, co15, eo15⟩ := Kd.V_slice HO482.out; subst eo15; obtain ⟨hcz16_0, hcz16_1, hfz16_0, hfz16_1⟩ := bx2_ BK478) | (refine be_ 7 28 #[.int .i64 0, .slice none 0 0] ?_; intro gb489 hg w17 hbox hb; have n0_ := am_ (Kd.N_below (Kd.N_elderB (Nx_ (Kd.N_mono (Kd.N_far (p := ⟨gb487, 1, none⟩) (Kd.N_far (p := ⟨gb487, 0, none⟩) (Kd.N_mono HO477.out (fun k_ hk => (⟨hk, hk.2⟩ : _ ∧ k_ ≠ gb487))) (fun _ hk => hk.2) (.int .i64 t479)) (fun _ hk => hk.2) (.slice Ao15 t480.length co15)) (fun _ h_ => h_.1))) gb489 (Nat.le_of_eq hg.symm)) hb); have n1_ := am_ (Kd.V_below (Kd.V_elderB (Vx_ (Kd.V_mono (Kd.V_far (p := ⟨gb487, 1, none⟩) (Kd.V_far (p := ⟨gb487, 0, none⟩) (Kd.V_mono HO482.out (fun k_ hk => (⟨hk, hk.2⟩ : _ ∧ k_ ≠ gb487))) (fun _ hk => hk.2) (.int .i64 t479)) (fun _ hk => hk.2) (.slice Ao15 t480.length co15)) (fun _ h_ => h_.1))) gb489 (Nat.le_of_eq hg.symm)) hb); have n2_ := am_ (Kd.N_below (Kd.N_elderB (Nx_ (Kd.N_mono (Kd.N_far (p := ⟨gb487, 1, none⟩) (Kd.N_far (p := ⟨gb487, 0, none⟩) (Kd.N_mono HO485.out (fun k_ hk => (⟨hk, hk.2⟩ : _ ∧ k_ ≠ gb487))) (fun _ hk => hk.2) (.int .i64 t479)) (fun _ hk => hk.2) (.slice Ao15 t480.length co15)) (fun _ h_ => h_.1))) gb489 (Nat.le_of_eq hg.symm)) hb); have n3_ := am_ (bw_ BK478 hb); have n4_ := am_ (blk_below (g := gb487) (o := .cells #[.int .i64 t479, .slice Ao15 t480.length co15] 28 (0, 0)) (pu2_ BK487) hb); have n5_ := am_ (below_step (bb_ HB.out) hb); have n6_ := am_ (hbox); have n7_ := gs_ HB hg; have n8_ := gs_ HB hg; have n9_ := am_ (nl_ BK478 hg); have n10_ := am_ (ng_ BK478 hg); have n11_ := am_ ((by rw [hg]; exact Nat.ne_of_lt (blk_lt (g := gb487) (o := .cells #[.int .i64 t479, .slice Ao15 t480.length co15] 28 (0, 0)) (pu2_ BK487)) : gb487 ≠ gb489)); have n12_ := am_ ((by rw [hg]; exact Nat.ne_of_gt (blk_lt (g := gb487) (o := .cells #[.int .i64 t479, .slice Ao15 t480.length co15] 28 (0, 0)) (pu2_ BK487)) : gb489 ≠ gb487)); clear HO477 HO482 HO485 BK478 BK487 HB; revert n0_ n1_ n2_ n3_ n4_ n5_ n6_ n7_ n8_ n9_ n10_ n11_ n12_; intro HO477 HO482 HO485 BK478 BK487 HB BK489 GW489 GE489 NB478_489 NB489_478 NB487_489 NB489_487; clear hb hbox hg; have hnb18 := NB489_478.out; have hnc18 := NB478_489.out; have hnb19 := NB489_487.out; have hnc19 := NB487_489.out; obtain ⟨hcz20_0, hcz20_1, hfz20_0, hfz20_1⟩ := bx2_ BK489))
   go_loopg [8] k (fun kq v8 w' => ∃ (x8_1 : Int) (x490000_1 : Int) (x490001_1 : List (List Int)) (u490001 : Value), v8 = .int .i64 x8_1 ∧ Aside0 (laws_FnSimplify.l0 kq t483 x8_1 t474 t475 t479 t480 x490000_1 x490001_1 = some r) ∧ Aside0 (kq ≤ k) ∧ Aside0 (Kd.N k44 44 w' w.heap.size (fun k_ => some k_ ≠ ((.slice Ao10 t475.length co10) : Value).ownBlock ∧ some k_ ≠ (u490001 : Value).ownBlock ∧ k_ ≠ gb478 ∧ k_ ≠ gb487 ∧ k_ ≠ gb489) v484 t483) ∧ Aside0 (Kd.N (Kd.slice 2 (Kd.int .i64)) 39 w' w.heap.size (fun k_ => some k_ ≠ (v484 : Value).ownBlock ∧ k_ ≠ gb478 ∧ k_ ≠ gb487 ∧ k_ ≠ gb489) (.slice Ao10 t475.length co10) t475) ∧ Aside0 (Kd.V (Kd.slice 2 (Kd.int .i64)) 39 w' w.heap.size (fun k_ => some k_ ≠ (v484 : Value).ownBlock ∧ some k_ ≠ ((.slice Ao10 t475.length co10) : Value).ownBlock ∧ some k_ ≠ (u490001 : Value).ownBlock ∧ k_ ≠ gb478 ∧ k_ ≠ gb487 ∧ k_ ≠ gb489) (.slice Ao15 t480.length co15) t480) ∧ Aside0 (Kd.N (Kd.slice 2 (Kd.int .i64)) 39 w' w.heap.size (fun k_ => some k_ ≠ (v484 : Value).ownBlock ∧ k_ ≠ gb478 ∧ k_ ≠ gb487 ∧ k_ ≠ gb489) u490001 x490001_1) ∧ Aside0 (w'.heap[gb478]? = some (.cells #[.int .i64 t474, (.slice Ao10 t475.length co10)] 28 (0, 0))) ∧ Aside0 (w'.heap[gb487]? = some (.cells #[.int .i64 t479, (.slice Ao15 t480.length co15)] 28 (0, 0))) ∧ Aside0 (w'.heap[gb489]? = some (.cells #[.int .i64 x490000_1, u490001] 28 (0, 0))) ∧ Aside0 (Below w.heap.size w w'))
   case atStart => exact ⟨(0), (t474), (t475), (.slice Ao10 t475.length co10), (by first | rfl | (simp; done) | (simp [*]; done)), H', ⟨Nat.le_refl _⟩, ⟨Nx_ (Kd.N_mono (Kd.N_far (p := ⟨gb489, 1, none⟩) (Kd.N_far (p := ⟨gb489, 0, none⟩) (Kd.N_mono HO485.out (fun k_ hk => (⟨hk, hk.2⟩ : _ ∧ k_ ≠ gb489))) (fun _ hk => hk.2) (.int .i64 t474)) (fun _ hk => hk.2) (.slice Ao10 t475.length co10)) (fun _ hk => ⟨hk.1.1.1.1, ⟨hk.1.1.1.1, ⟨hk.1.1.1.2, ⟨hk.1.1.2, hk.1.2⟩⟩⟩⟩))⟩, ⟨Nx_ (Kd.N_mono (Kd.N_far (p := ⟨gb489, 1, none⟩) (Kd.N_far (p := ⟨gb489, 0, none⟩) (Kd.N_mono HO477.out (fun k_ hk => (⟨hk, hk.2⟩ : _ ∧ k_ ≠ gb489))) (fun _ hk => hk.2) (.int .i64 t474)) (fun _ hk => hk.2) (.slice Ao10 t475.length co10)) (fun _ hk => ⟨hk.1.1.1.2, ⟨hk.1.1.1.1.2, ⟨hk.1.1.2, hk.1.2⟩⟩⟩))⟩, ⟨Vx_ (Kd.V_mono (Kd.V_far (p := ⟨gb489, 1, none⟩) (Kd.V_far (p := ⟨gb489, 0, none⟩) (Kd.V_mono HO482.out (fun k_ hk => (⟨hk, hk.2⟩ : _ ∧ k_ ≠ gb489))) (fun _ hk => hk.2) (.int .i64 t474)) (fun _ hk => hk.2) (.slice Ao10 t475.length co10)) (fun _ hk => ⟨hk.1.1.1.1, ⟨hk.1.1.1.2.1, ⟨hk.1.1.1.2.1, ⟨hk.1.1.1.2.2, ⟨hk.1.1.2, hk.1.2⟩⟩⟩⟩⟩))⟩, ⟨Nx_ (Kd.N_mono (Kd.N_far (p := ⟨gb489, 1, none⟩) (Kd.N_far (p := ⟨gb489, 0, none⟩) (Kd.N_mono HO477.out (fun k_ hk => (⟨hk, hk.2⟩ : _ ∧ k_ ≠ gb489))) (fun _ hk => hk.2) (.int .i64 t474)) (fun _ hk => hk.2) (.slice Ao10 t475.length co10)) (fun _ hk => ⟨hk.1.1.1.2, ⟨hk.1.1.1.1.2, ⟨hk.1.1.2, hk.1.2⟩⟩⟩))⟩, ⟨bk_ BK478.out⟩, ⟨bk_ BK487.out⟩, ⟨pu2_ BK489⟩, ⟨bb_ HB.out⟩⟩
   case round =>
    clear H'
    try clear c1
    try clear c2
    try clear p2
    try clear c3
    try clear c6
    try clear c6b0
    try clear c6b1
    try clear c7
    try clear c13
    try clear c18
    try clear c19
    try clear hcz14_0
    try clear hcz14_1
    try clear hcz16_0
    try clear hcz16_1
    try clear hcz20_0
    try clear hcz20_1
    try clear hcz9_0
    try clear hcz9_1
    try clear hfz14_0
    try clear hfz14_1
    try clear hfz16_0
    try clear hfz16_1
    try clear hfz20_0
    try clear hfz20_1
    try clear hfz9_0
    try clear hfz9_1
    obtain ⟨x8_1, x490000_1, x490001_1, u490001, rfl, HA, HK1, HO_5, HO_479001, HO_488001, HO_490001, BK478, BK487, BK489, HB⟩ := hrel
    cases gk with
    | zero => exact absurd HA.out (by simp [laws_FnSimplify.l0])
    | succ k1 =>
     have H := HA.out
     clear HA
     simp only [laws_FnSimplify.l0] at H
     by_cases c21 : x8_1 < (t483.length : Int)
     ·rw [if_pos c21] at H
      have c21b0 : decide (x8_1 < (t483.length : Int)) = true := decide_eq_true c21
      clear c21
      by_cases c22 : 0 ≤ x8_1
      ·rw [if_pos c22] at H
       have c22b0 : decide (0 ≤ x8_1) = true := decide_eq_true c22
       clear c22
       replace H := Option.bind_eq_some_iff.mp H
       obtain ⟨⟨t491, t492, t495⟩, A230, H⟩ := H
       replace H : (if t495 = 0 then (laws_FnSimplify.l0 k1 t483 (wrap64 (x8_1 + 1)) t474 t475 t479 t480 t491 t492) else (some false)) = some r := H
       have A23 := am_ A230
       clear A230
       by_cases c24 : t495 = 0
       ·rw [if_pos c24] at H
        have c24b0 : (t495 == 0) = true := beq_iff_eq.mpr c24
        have c24b1 : (t495 != 0) = false := bne_eq_false_iff_eq.mpr c24
        clear c24
        have H' := am_ H
        clear H
        obtain ⟨Ao25, co25, eo25⟩ := Kd.N_slice HO_5.out
        subst eo25
        obtain ⟨Ao26, co26, eo26⟩ := Kd.N_slice HO_490001.out
        subst eo26
        try go_wp2
        have n0_ := am_ (Kd.N_drew HO_5.out)
        have n1_ := am_ (Kd.N_drew HO_479001.out)
        have n2_ := am_ (Kd.V_drew HO_488001.out)
        have n3_ := am_ (Kd.N_drew HO_490001.out)
        have n4_ := am_ (blk_drew BK478.out)
        have n5_ := am_ (blk_drew BK487.out)
        have n6_ := am_ (blk_drew BK489.out)
        have n7_ := am_ (below_drew1 HB.out)
        clear HO_5 HO_479001 HO_488001 HO_490001 BK478 BK487 BK489 HB; revert n0_ n1_ n2_ n3_ n4_ n5_ n6_ n7_; intro HO_5 HO_479001 HO_488001 HO_490001 BK478 BK487 BK489 HB
        have p490 : 0 ≤ (x8_1 : Int) := da_
        have q490 : x8_1 < (t483.length : Int) := da_
        obtain ⟨ad490, A490_3, c490_3, e490, hx490_0, hx490_1, hx490_2, hx490_3, hl490_3, hi490_3⟩ := at_T44 (Kd.N_reads' HO_5.out).2.2 x8_1 p490 q490
        cases e490
        obtain ⟨ce490, hce490, hMe490, hcc490⟩ := Kd.N_get HO_5.out z44 x8_1 p490 (by first | exact q490 | exact da_ | (have e_ := (Kd.N_reads' HO_5.out).1; omega))
        obtain ⟨ua490_3, uc490_3, rfl, ul490_3, ge490_3⟩ := k44_openF hMe490
        have hv490_3 := hcc490 3 _ rfl
        rw [add_field _ _ 3 (by omega)] at hv490_3
        replace hv490_3 := Option.some.inj (hv490_3.symm.trans hx490_3)
        injection hv490_3 with hva_ hvn_ hvc_
        rw [hva_] at ge490_3
        rw [hvc_] at ul490_3
        have HL490_3 := am_ (show Kd.V (Kd.int .i64) 2 _ w.heap.size _ _ ((rd_T44 t483 x8_1).f3) from Kd.V_mk ul490_3 ge490_3)
        clear hva_ hvn_ hvc_ ge490_3 ul490_3
        clear hcc490 hce490
        have HR490_3 := am_ hi490_3
        have HC490_3 := am_ hl490_3
        clear hi490_3 hl490_3
        replace p490 := eq_true p490
        replace q490 := eq_true q490
        refine start_ (n := 12) (S := fun w' => w'.cell? ⟨gb489, 0, none⟩ = some (.int .i64 x490000_1) ∧ w'.cell? ⟨gb489, 1, none⟩ = some (.slice Ao26 x490001_1.length co26) ∧ w'.cell? (ad490.add ((x8_1).toNat * 4)) = some (.int .i64 ((rd_T44 t483 x8_1).f0)) ∧ w'.cell? ⟨(ad490.add ((x8_1).toNat * 4)).block, (ad490.add ((x8_1).toNat * 4)).off + 1, none⟩ = some (.int .i64 ((rd_T44 t483 x8_1).f1)) ∧ w'.cell? ⟨(ad490.add ((x8_1).toNat * 4)).block, (ad490.add ((x8_1).toNat * 4)).off + 2, none⟩ = some (.int .i64 ((rd_T44 t483 x8_1).f2)) ∧ w'.cell? ⟨(ad490.add ((x8_1).toNat * 4)).block, (ad490.add ((x8_1).toNat * 4)).off + 3, none⟩ = some (.slice A490_3 ((rd_T44 t483 x8_1).f3).length c490_3)) (ds := []) (bA_ 12 0) (by kernel_rfl) rfl (by kernel_rfl) ⟨bc_ BK489 0, bc_ BK489 1, hx490_0, hx490_1, hx490_2, hx490_3⟩ (fun hHeld => ?_); refine with_tabW laws_FnSimplify.tab11 laws_FnSimplify.bits11 (fun HT_ HW_ => ?_)
        generalize wr.drew = w27 at HO_5 HO_479001 HO_488001 HO_490001 BK478 BK487 BK489 HB HL490_3 HR490_3 hx490_0 hx490_1 hx490_2 hx490_3 hHeld ⊢
        refine pz_ 1 44 (bA_ 12 2) HT_ ?_
        refine pz_ 2 45 (bA_ 12 6) HT_ ?_
        refine pz_ 3 46 (bA_ 12 14) HT_ ?_
        refine tz_ 0 43 (bA_ 12 15) HT_ HW_ hHeld ?_
        refine tz_ 4 47 (bA_ 12 31) HT_ HW_ hHeld ?_
        refine join_ (σ := Value × Nat) 2 (bA_ 12 1023) (fun s_ => [(48, .tuple #[.agg #[.int .i64 t491, s_.1], .int .i64 t495]), (9, .pointer (some ⟨s_.2, 0, none⟩)), (42, .tuple #[.agg #[.int .i64 t491, s_.1], .int .i64 t495]), (49, .agg #[.int .i64 t491, s_.1]), (50, .int .i64 t495)]) (fun s_ w' => (w'.cell? ⟨gb489, 0, none⟩ = some (.int .i64 x490000_1) ∧ w'.cell? ⟨gb489, 1, none⟩ = some (.slice Ao26 x490001_1.length co26) ∧ w'.cell? (ad490.add ((x8_1).toNat * 4)) = some (.int .i64 ((rd_T44 t483 x8_1).f0)) ∧ w'.cell? ⟨(ad490.add ((x8_1).toNat * 4)).block, (ad490.add ((x8_1).toNat * 4)).off + 1, none⟩ = some (.int .i64 ((rd_T44 t483 x8_1).f1)) ∧ w'.cell? ⟨(ad490.add ((x8_1).toNat * 4)).block, (ad490.add ((x8_1).toNat * 4)).off + 2, none⟩ = some (.int .i64 ((rd_T44 t483 x8_1).f2)) ∧ w'.cell? ⟨(ad490.add ((x8_1).toNat * 4)).block, (ad490.add ((x8_1).toNat * 4)).off + 3, none⟩ = some (.slice A490_3 ((rd_T44 t483 x8_1).f3).length c490_3)) ∧ (Kd.V (Kd.int .i64) 2 w' w.heap.size (fun k_ => some k_ ≠ (s_.1 : Value).ownBlock ∧ some k_ ≠ (.slice Ao10 t475.length co10 : Value).ownBlock ∧ some k_ ≠ (.slice Ao26 x490001_1.length co26 : Value).ownBlock ∧ some k_ ≠ (.slice (some ad490) t483.length co25 : Value).ownBlock ∧ k_ ≠ gb478 ∧ k_ ≠ gb487 ∧ k_ ≠ gb489 ∧ k_ ≠ s_.2) (.slice A490_3 ((rd_T44 t483 x8_1).f3).length c490_3) ((rd_T44 t483 x8_1).f3)) ∧ (Kd.N (Kd.slice 2 (Kd.int .i64)) 39 w' w.heap.size (fun k_ => some k_ ≠ (.slice Ao10 t475.length co10 : Value).ownBlock ∧ some k_ ≠ (.slice Ao26 x490001_1.length co26 : Value).ownBlock ∧ some k_ ≠ (.slice (some ad490) t483.length co25 : Value).ownBlock ∧ k_ ≠ gb478 ∧ k_ ≠ gb487 ∧ k_ ≠ gb489 ∧ k_ ≠ s_.2) s_.1 t492) ∧ (Kd.N (Kd.slice 2 (Kd.int .i64)) 39 w' w.heap.size (fun k_ => some k_ ≠ (s_.1 : Value).ownBlock ∧ some k_ ≠ (.slice (some ad490) t483.length co25 : Value).ownBlock ∧ k_ ≠ gb478 ∧ k_ ≠ gb487 ∧ k_ ≠ gb489 ∧ k_ ≠ s_.2) (.slice Ao10 t475.length co10) t475) ∧ (Kd.V (Kd.slice 2 (Kd.int .i64)) 39 w' w.heap.size (fun k_ => some k_ ≠ (s_.1 : Value).ownBlock ∧ some k_ ≠ (.slice Ao10 t475.length co10 : Value).ownBlock ∧ some k_ ≠ (.slice Ao26 x490001_1.length co26 : Value).ownBlock ∧ some k_ ≠ (.slice (some ad490) t483.length co25 : Value).ownBlock ∧ k_ ≠ gb478 ∧ k_ ≠ gb487 ∧ k_ ≠ gb489 ∧ k_ ≠ s_.2) (.slice Ao15 t480.length co15) t480) ∧ (Kd.N (Kd.slice 2 (Kd.int .i64)) 39 w' w.heap.size (fun k_ => some k_ ≠ (s_.1 : Value).ownBlock ∧ some k_ ≠ (.slice (some ad490) t483.length co25 : Value).ownBlock ∧ k_ ≠ gb478 ∧ k_ ≠ gb487 ∧ k_ ≠ gb489 ∧ k_ ≠ s_.2) (.slice Ao26 x490001_1.length co26) x490001_1) ∧ (Kd.N k44 44 w' w.heap.size (fun k_ => some k_ ≠ (s_.1 : Value).ownBlock ∧ some k_ ≠ (.slice Ao10 t475.length co10 : Value).ownBlock ∧ some k_ ≠ (.slice Ao26 x490001_1.length co26 : Value).ownBlock ∧ k_ ≠ gb478 ∧ k_ ≠ gb487 ∧ k_ ≠ gb489 ∧ k_ ≠ s_.2) (.slice (some ad490) t483.length co25) t483) ∧ (w'.heap[gb478]? = some (.cells #[.int .i64 t474, .slice Ao10 t475.length co10] 28 (0, 0))) ∧ (w'.heap[gb487]? = some (.cells #[.int .i64 t479, .slice Ao15 t480.length co15] 28 (0, 0))) ∧ (w'.heap[gb489]? = some (.cells #[.int .i64 x490000_1, .slice Ao26 x490001_1.length co26] 28 (0, 0))) ∧ (w'.heap[s_.2]? = some (.cells #[.int .i64 0, .slice none 0 0] 28 (0, 0))) ∧ (w.heap.size ≤ s_.2) ∧ (w.heap.size ≤ s_.2) ∧ (gb478 ≠ s_.2) ∧ (s_.2 ≠ gb478) ∧ (gb487 ≠ s_.2) ∧ (s_.2 ≠ gb487) ∧ (gb489 ≠ s_.2) ∧ (s_.2 ≠ gb489) ∧ (Below w.heap.size w w')) ?_ ?_
        rotate_left
        ·intro hCont
         refine two_ (i := 5) (j := 9) (Ni := some 48) (Nj := some 9) (bA_ 12 63) (bA_ 12 543) rfl rfl rfl rfl (two_of HT_.out (by kernel_rfl)) (by decide) (by decide) (fun K hK => ?_) (fun K hK => ?_)
         ·skip
          refine goes_ Try.func23 (by kernel_rfl) rfl #[.agg #[.int .i64 x490000_1, .slice Ao26 x490001_1.length co26], .agg #[.int .i64 ((rd_T44 t483 x8_1).f0), .int .i64 ((rd_T44 t483 x8_1).f1), .int .i64 ((rd_T44 t483 x8_1).f2), .slice A490_3 ((rd_T44 t483 x8_1).f3).length c490_3]] (by rfl) rfl rfl lm_ ?_
          with_reducible refine (spec_ApplyTietze.calls k1 x490000_1 _ _ x490001_1 ((rd_T44 t483 x8_1).f0) ((rd_T44 t483 x8_1).f1) ((rd_T44 t483 x8_1).f2) _ _ ((rd_T44 t483 x8_1).f3) t491 t492 t495 _ ?side1 ?side2 ?side3 ?side4 A23.out).mono ?_
          (case side1 => exact cz_ (Kd.N_reads' HO_490001.out).2.2)
          (case side2 => exact (Kd.N_reads' HO_490001.out).2.1)
          (case side3 => repeat (first | exact (by repeat (first | (with_reducible exact HR490_3.out) | (with_reducible refine Kd.C_alloc ?_ _) | (with_reducible refine Kd.C_drewN ?_ _) | (with_reducible refine Kd.C_drew ?_) | exact HR490_3.out)) | (with_reducible refine Kd.C_alloc ?_ _) | (with_reducible refine Kd.C_drewN ?_ _) | (with_reducible refine Kd.C_drew ?_)))
          (case side4 => exact HC490_3.out)
          rintro e w28 ⟨v493, rfl, ho0, hb⟩
          have HS2_ := (hb.cell (World.block_lt_of_cell? _ _ (hHeld.2.2.1))).trans (hHeld.2.2.1)
          have HS3_ := (hb.cell (World.block_lt_of_cell? _ _ (hHeld.2.2.2.1))).trans (hHeld.2.2.2.1)
          have HS4_ := (hb.cell (World.block_lt_of_cell? _ _ (hHeld.2.2.2.2.1))).trans (hHeld.2.2.2.2.1)
          have HS5_ := (hb.cell (World.block_lt_of_cell? _ _ (hHeld.2.2.2.2.2))).trans (hHeld.2.2.2.2.2)
          refine ⟨_, rfl, ?_⟩
          have n0_ := am_ (Kd.N_elder' (Nx_ HO_5.out) (Kd.N_base ho0) hb)
          have n1_ := am_ (Kd.N_elder' (Nx_ HO_479001.out) (Kd.N_base ho0) hb)
          have n2_ := am_ (Kd.V_elder' (Vx_ HO_488001.out) (Kd.N_base ho0) hb)
          have n3_ := am_ (Kd.N_elder' (Nx_ HO_490001.out) (Kd.N_base ho0) hb)
          have n4_ := am_ (Kd.V_elder' (Vx_ HL490_3.out) (Kd.N_base ho0) hb)
          have n5_ := am_ (Kd.N_lower (Kd.N_mono (ok' := fun k_ => some k_ ≠ (.slice (some ad490) t483.length co25 : Value).ownBlock ∧ some k_ ≠ (.slice Ao10 t475.length co10 : Value).ownBlock ∧ some k_ ≠ (.slice Ao26 x490001_1.length co26 : Value).ownBlock ∧ k_ ≠ gb478 ∧ k_ ≠ gb487 ∧ k_ ≠ gb489) ho0 (fun k_ hk_ => ⟨(Kd.fresh' (Kd.N_lt (Nx_ HO_5.out)) k_ hk_), (Kd.fresh' (Kd.N_lt (Nx_ HO_479001.out)) k_ hk_), (Kd.fresh' (Kd.N_lt (Nx_ HO_490001.out)) k_ hk_), (Kd.freshB (g := gb478) (o := .cells #[.int .i64 t474, .slice Ao10 t475.length co10] 28 (0, 0)) (bk_ BK478.out) k_ hk_), (Kd.freshB (g := gb487) (o := .cells #[.int .i64 t479, .slice Ao15 t480.length co15] 28 (0, 0)) (bk_ BK487.out) k_ hk_), (Kd.freshB (g := gb489) (o := .cells #[.int .i64 x490000_1, .slice Ao26 x490001_1.length co26] 28 (0, 0)) (bk_ BK489.out) k_ hk_)⟩)) (below_size (bb_ HB.out)))
          have n6_ := am_ (bw_ BK478 hb)
          have n7_ := am_ (bw_ BK487 hb)
          have n8_ := am_ (bw_ BK489 hb)
          have n9_ := am_ (Kd.C_below (by repeat (first | (with_reducible exact HR490_3.out) | (with_reducible refine Kd.C_alloc ?_ _) | (with_reducible refine Kd.C_drewN ?_ _) | (with_reducible refine Kd.C_drew ?_) | exact HR490_3.out)) hb)
          have n10_ := am_ (below_step (bb_ HB.out) hb)
          clear HO_5 HO_479001 HO_488001 HO_490001 HL490_3 BK478 BK487 BK489 HR490_3 HB; revert n0_ n1_ n2_ n3_ n4_ n5_ n6_ n7_ n8_ n9_ n10_; intro HO_5 HO_479001 HO_488001 HO_490001 HL490_3 HO494 BK478 BK487 BK489 HR490_3 HB
          (try clear hb)
          (try clear hb2)
          (try clear hk)
          (try clear hi)
          (try clear ho0)
          refine hK.out _ _ ⟨bc_ BK489 0, bc_ BK489 1, HS2_, HS3_, HS4_, HS5_⟩ (fun hHeld => ?_)
          clear hK K
          refine nm_ 48 ?_
          refine pz_ 6 42 (bA_ 12 127) HT_ ?_
          refine pz_ 7 49 (bA_ 12 255) HT_ ?_
          refine pz_ 8 50 (bA_ 12 511) HT_ ?_
          refine oz_ 9 9 (bA_ 12 1023) HT_ (fun K hK => ?_)
          refine box_step ?hg (N := 9) ?hd (cs := #[.int .i64 0, .slice none 0 0]) (t := 28) ?hr ?_; (case hd => rfl); (case hg => rfl); (case hr => first | (go_simp; done) | (go_simp; rfl))
          intro gb496 hg w29 hbox hb
          have HS2_ := (hb.cell (World.block_lt_of_cell? _ _ (hHeld.2.2.1))).trans (hHeld.2.2.1)
          have HS3_ := (hb.cell (World.block_lt_of_cell? _ _ (hHeld.2.2.2.1))).trans (hHeld.2.2.2.1)
          have HS4_ := (hb.cell (World.block_lt_of_cell? _ _ (hHeld.2.2.2.2.1))).trans (hHeld.2.2.2.2.1)
          have HS5_ := (hb.cell (World.block_lt_of_cell? _ _ (hHeld.2.2.2.2.2))).trans (hHeld.2.2.2.2.2)
          have n0_ := am_ (Kd.N_below (Kd.N_elderB (Nx_ HO_5.out) gb496 (Nat.le_of_eq hg.symm)) hb)
          have n1_ := am_ (Kd.N_below (Kd.N_elderB (Nx_ HO_479001.out) gb496 (Nat.le_of_eq hg.symm)) hb)
          have n2_ := am_ (Kd.V_below (Kd.V_elderB (Vx_ HO_488001.out) gb496 (Nat.le_of_eq hg.symm)) hb)
          have n3_ := am_ (Kd.N_below (Kd.N_elderB (Nx_ HO_490001.out) gb496 (Nat.le_of_eq hg.symm)) hb)
          have n4_ := am_ (Kd.V_below (Kd.V_elderB (Vx_ HL490_3.out) gb496 (Nat.le_of_eq hg.symm)) hb)
          have n5_ := am_ (Kd.N_below (Kd.N_elderB (Nx_ HO494.out) gb496 (Nat.le_of_eq hg.symm)) hb)
          have n6_ := am_ (bw_ BK478 hb)
          have n7_ := am_ (bw_ BK487 hb)
          have n8_ := am_ (bw_ BK489 hb)
          have n9_ := am_ (Kd.C_below (by repeat (first | (with_reducible exact HR490_3.out) | (with_reducible refine Kd.C_alloc ?_ _) | (with_reducible refine Kd.C_drewN ?_ _) | (with_reducible refine Kd.C_drew ?_) | exact HR490_3.out)) hb)
          have n10_ := am_ (below_step (bb_ HB.out) hb)
          have n11_ := am_ (hbox)
          have n12_ := gs_ HB hg
          have n13_ := gs_ HB hg
          have n14_ := am_ (nl_ BK478 hg)
          have n15_ := am_ (ng_ BK478 hg)
          have n16_ := am_ (nl_ BK487 hg)
          have n17_ := am_ (ng_ BK487 hg)
          have n18_ := am_ (nl_ BK489 hg)
          have n19_ := am_ (ng_ BK489 hg)
          clear HO_5 HO_479001 HO_488001 HO_490001 HL490_3 HO494 BK478 BK487 BK489 HR490_3 HB; revert n0_ n1_ n2_ n3_ n4_ n5_ n6_ n7_ n8_ n9_ n10_ n11_ n12_ n13_ n14_ n15_ n16_ n17_ n18_ n19_; intro HO_5 HO_479001 HO_488001 HO_490001 HL490_3 HO494 BK478 BK487 BK489 HR490_3 HB BK496 GW496 GE496 NB478_496 NB496_478 NB487_496 NB496_487 NB489_496 NB496_489
          clear hb hbox hg
          refine hK.out _ _ ⟨bc_ BK489 0, bc_ BK489 1, HS2_, HS3_, HS4_, HS5_⟩ (fun hHeld => ?_)
          clear hK K
          refine nm_ 9 ?_
          exact norm_ (by simp only [putAll, Act.put, List.setIfInBounds_toArray, List.set_cons_zero, List.set_cons_succ]) (hCont (v493, gb496) _ ⟨hHeld, (Vx_ (Kd.V_mono HL490_3.out (fun _ hk => ⟨hk.1.2, ⟨hk.1.1.1.1, ⟨hk.1.1.1.2.1, ⟨hk.1.1.2, ⟨hk.1.1.1.2.2.1, ⟨hk.1.1.1.2.2.2.1, ⟨hk.1.1.1.2.2.2.2, hk.2⟩⟩⟩⟩⟩⟩⟩))), (Nx_ (Kd.N_mono HO494.out (fun _ hk => ⟨hk.1.2.1, ⟨hk.1.2.2.1, ⟨hk.1.1, ⟨hk.1.2.2.2.1, ⟨hk.1.2.2.2.2.1, ⟨hk.1.2.2.2.2.2, hk.2⟩⟩⟩⟩⟩⟩))), (Nx_ (Kd.N_mono HO_479001.out (fun _ hk => ⟨hk.1.2, ⟨hk.1.1.1, ⟨hk.1.1.2.1, ⟨hk.1.1.2.2.1, ⟨hk.1.1.2.2.2, hk.2⟩⟩⟩⟩⟩))), (Vx_ (Kd.V_mono HO_488001.out (fun _ hk => ⟨hk.1.2, ⟨hk.1.1.2.1, ⟨hk.1.1.2.2.1, ⟨hk.1.1.1, ⟨hk.1.1.2.2.2.1, ⟨hk.1.1.2.2.2.2.1, ⟨hk.1.1.2.2.2.2.2, hk.2⟩⟩⟩⟩⟩⟩⟩))), (Nx_ (Kd.N_mono HO_490001.out (fun _ hk => ⟨hk.1.2, ⟨hk.1.1.1, ⟨hk.1.1.2.1, ⟨hk.1.1.2.2.1, ⟨hk.1.1.2.2.2, hk.2⟩⟩⟩⟩⟩))), (Nx_ (Kd.N_mono HO_5.out (fun _ hk => ⟨hk.1.2, ⟨hk.1.1.1, ⟨hk.1.1.2.1, ⟨hk.1.1.2.2.1, ⟨hk.1.1.2.2.2.1, ⟨hk.1.1.2.2.2.2, hk.2⟩⟩⟩⟩⟩⟩))), (bk_ BK478.out), (bk_ BK487.out), (bk_ BK489.out), (bk_ BK496.out), GW496.out, GE496.out, NB478_496.out, NB496_478.out, NB487_496.out, NB496_487.out, NB489_496.out, NB496_489.out, (bb_ HB.out)⟩)
         ·skip
          refine box_step ?hg (N := 9) ?hd (cs := #[.int .i64 0, .slice none 0 0]) (t := 28) ?hr ?_; (case hd => rfl); (case hg => rfl); (case hr => first | (go_simp; done) | (go_simp; rfl))
          intro gb496 hg w28 hbox hb
          have HS2_ := (hb.cell (World.block_lt_of_cell? _ _ (hHeld.2.2.1))).trans (hHeld.2.2.1)
          have HS3_ := (hb.cell (World.block_lt_of_cell? _ _ (hHeld.2.2.2.1))).trans (hHeld.2.2.2.1)
          have HS4_ := (hb.cell (World.block_lt_of_cell? _ _ (hHeld.2.2.2.2.1))).trans (hHeld.2.2.2.2.1)
          have HS5_ := (hb.cell (World.block_lt_of_cell? _ _ (hHeld.2.2.2.2.2))).trans (hHeld.2.2.2.2.2)
          have n0_ := am_ (Kd.N_below (Kd.N_elderB (Nx_ HO_5.out) gb496 (Nat.le_of_eq hg.symm)) hb)
          have n1_ := am_ (Kd.N_below (Kd.N_elderB (Nx_ HO_479001.out) gb496 (Nat.le_of_eq hg.symm)) hb)
          have n2_ := am_ (Kd.V_below (Kd.V_elderB (Vx_ HO_488001.out) gb496 (Nat.le_of_eq hg.symm)) hb)
          have n3_ := am_ (Kd.N_below (Kd.N_elderB (Nx_ HO_490001.out) gb496 (Nat.le_of_eq hg.symm)) hb)
          have n4_ := am_ (Kd.V_below (Kd.V_elderB (Vx_ HL490_3.out) gb496 (Nat.le_of_eq hg.symm)) hb)
          have n5_ := am_ (bw_ BK478 hb)
          have n6_ := am_ (bw_ BK487 hb)
          have n7_ := am_ (bw_ BK489 hb)
          have n8_ := am_ (Kd.C_below (by repeat (first | (with_reducible exact HR490_3.out) | (with_reducible refine Kd.C_alloc ?_ _) | (with_reducible refine Kd.C_drewN ?_ _) | (with_reducible refine Kd.C_drew ?_) | exact HR490_3.out)) hb)
          have n9_ := am_ (below_step (bb_ HB.out) hb)
          have n10_ := am_ (hbox)
          have n11_ := gs_ HB hg
          have n12_ := gs_ HB hg
          have n13_ := am_ (nl_ BK478 hg)
          have n14_ := am_ (ng_ BK478 hg)
          have n15_ := am_ (nl_ BK487 hg)
          have n16_ := am_ (ng_ BK487 hg)
          have n17_ := am_ (nl_ BK489 hg)
          have n18_ := am_ (ng_ BK489 hg)
          clear HO_5 HO_479001 HO_488001 HO_490001 HL490_3 BK478 BK487 BK489 HR490_3 HB; revert n0_ n1_ n2_ n3_ n4_ n5_ n6_ n7_ n8_ n9_ n10_ n11_ n12_ n13_ n14_ n15_ n16_ n17_ n18_; intro HO_5 HO_479001 HO_488001 HO_490001 HL490_3 BK478 BK487 BK489 HR490_3 HB BK496 GW496 GE496 NB478_496 NB496_478 NB487_496 NB496_487 NB489_496 NB496_489
          clear hb hbox hg
          refine hK.out _ _ ⟨bc_ BK489 0, bc_ BK489 1, HS2_, HS3_, HS4_, HS5_⟩ (fun hHeld => ?_)
          clear hK K
          refine nm_ 9 ?_
          refine oz_ 5 48 (bA_ 12 575) HT_ (fun K hK => ?_)
          refine goes_ Try.func23 (by kernel_rfl) rfl #[.agg #[.int .i64 x490000_1, .slice Ao26 x490001_1.length co26], .agg #[.int .i64 ((rd_T44 t483 x8_1).f0), .int .i64 ((rd_T44 t483 x8_1).f1), .int .i64 ((rd_T44 t483 x8_1).f2), .slice A490_3 ((rd_T44 t483 x8_1).f3).length c490_3]] (by rfl) rfl rfl lm_ ?_
          with_reducible refine (spec_ApplyTietze.calls k1 x490000_1 _ _ x490001_1 ((rd_T44 t483 x8_1).f0) ((rd_T44 t483 x8_1).f1) ((rd_T44 t483 x8_1).f2) _ _ ((rd_T44 t483 x8_1).f3) t491 t492 t495 _ ?side1 ?side2 ?side3 ?side4 A23.out).mono ?_
          (case side1 => exact cz_ (Kd.N_reads' HO_490001.out).2.2)
          (case side2 => exact (Kd.N_reads' HO_490001.out).2.1)
          (case side3 => repeat (first | exact (by repeat (first | (with_reducible exact HR490_3.out) | (with_reducible refine Kd.C_alloc ?_ _) | (with_reducible refine Kd.C_drewN ?_ _) | (with_reducible refine Kd.C_drew ?_) | exact HR490_3.out)) | (with_reducible refine Kd.C_alloc ?_ _) | (with_reducible refine Kd.C_drewN ?_ _) | (with_reducible refine Kd.C_drew ?_)))
          (case side4 => exact HC490_3.out)
          rintro e w29 ⟨v493, rfl, ho0, hb⟩
          have HS2_ := (hb.cell (World.block_lt_of_cell? _ _ (hHeld.2.2.1))).trans (hHeld.2.2.1)
          have HS3_ := (hb.cell (World.block_lt_of_cell? _ _ (hHeld.2.2.2.1))).trans (hHeld.2.2.2.1)
          have HS4_ := (hb.cell (World.block_lt_of_cell? _ _ (hHeld.2.2.2.2.1))).trans (hHeld.2.2.2.2.1)
          have HS5_ := (hb.cell (World.block_lt_of_cell? _ _ (hHeld.2.2.2.2.2))).trans (hHeld.2.2.2.2.2)
          refine ⟨_, rfl, ?_⟩
          have n0_ := am_ (Kd.N_elder' (Nx_ HO_5.out) (Kd.N_base ho0) hb)
          have n1_ := am_ (Kd.N_elder' (Nx_ HO_479001.out) (Kd.N_base ho0) hb)
          have n2_ := am_ (Kd.V_elder' (Vx_ HO_488001.out) (Kd.N_base ho0) hb)
          have n3_ := am_ (Kd.N_elder' (Nx_ HO_490001.out) (Kd.N_base ho0) hb)
          have n4_ := am_ (Kd.V_elder' (Vx_ HL490_3.out) (Kd.N_base ho0) hb)
          have n5_ := am_ (Kd.N_lower (Kd.N_mono (ok' := fun k_ => some k_ ≠ (.slice (some ad490) t483.length co25 : Value).ownBlock ∧ some k_ ≠ (.slice Ao10 t475.length co10 : Value).ownBlock ∧ some k_ ≠ (.slice Ao26 x490001_1.length co26 : Value).ownBlock ∧ k_ ≠ gb478 ∧ k_ ≠ gb487 ∧ k_ ≠ gb489 ∧ k_ ≠ gb496) ho0 (fun k_ hk_ => ⟨(Kd.fresh' (Kd.N_lt (Nx_ HO_5.out)) k_ hk_), (Kd.fresh' (Kd.N_lt (Nx_ HO_479001.out)) k_ hk_), (Kd.fresh' (Kd.N_lt (Nx_ HO_490001.out)) k_ hk_), (Kd.freshB (g := gb478) (o := .cells #[.int .i64 t474, .slice Ao10 t475.length co10] 28 (0, 0)) (bk_ BK478.out) k_ hk_), (Kd.freshB (g := gb487) (o := .cells #[.int .i64 t479, .slice Ao15 t480.length co15] 28 (0, 0)) (bk_ BK487.out) k_ hk_), (Kd.freshB (g := gb489) (o := .cells #[.int .i64 x490000_1, .slice Ao26 x490001_1.length co26] 28 (0, 0)) (bk_ BK489.out) k_ hk_), (Kd.freshB (g := gb496) (o := .cells #[.int .i64 0, .slice none 0 0] 28 (0, 0)) (bk_ BK496.out) k_ hk_)⟩)) (below_size (bb_ HB.out)))
          have n6_ := am_ (bw_ BK478 hb)
          have n7_ := am_ (bw_ BK487 hb)
          have n8_ := am_ (bw_ BK489 hb)
          have n9_ := am_ (Kd.C_below (by repeat (first | (with_reducible exact HR490_3.out) | (with_reducible refine Kd.C_alloc ?_ _) | (with_reducible refine Kd.C_drewN ?_ _) | (with_reducible refine Kd.C_drew ?_) | exact HR490_3.out)) hb)
          have n10_ := am_ (bw_ BK496 hb)
          have n11_ := am_ (below_step (bb_ HB.out) hb)
          clear HO_5 HO_479001 HO_488001 HO_490001 HL490_3 BK478 BK487 BK489 HR490_3 BK496 HB; revert n0_ n1_ n2_ n3_ n4_ n5_ n6_ n7_ n8_ n9_ n10_ n11_; intro HO_5 HO_479001 HO_488001 HO_490001 HL490_3 HO494 BK478 BK487 BK489 HR490_3 BK496 HB
          (try clear hb)
          (try clear hb2)
          (try clear hk)
          (try clear hi)
          (try clear ho0)
          refine hK.out _ _ ⟨bc_ BK489 0, bc_ BK489 1, HS2_, HS3_, HS4_, HS5_⟩ (fun hHeld => ?_)
          clear hK K
          refine nm_ 48 ?_
          refine pz_ 6 42 (bA_ 12 639) HT_ ?_
          refine pz_ 7 49 (bA_ 12 767) HT_ ?_
          refine pz_ 8 50 (bA_ 12 1023) HT_ ?_
          exact norm_ (by simp only [putAll, Act.put, List.setIfInBounds_toArray, List.set_cons_zero, List.set_cons_succ]) (hCont (v493, gb496) _ ⟨hHeld, (Vx_ (Kd.V_mono HL490_3.out (fun _ hk => ⟨hk.2, ⟨hk.1.1.1.1, ⟨hk.1.1.1.2.1, ⟨hk.1.1.2, ⟨hk.1.1.1.2.2.1, ⟨hk.1.1.1.2.2.2.1, ⟨hk.1.1.1.2.2.2.2, hk.1.2⟩⟩⟩⟩⟩⟩⟩))), (Nx_ (Kd.N_mono HO494.out (fun _ hk => ⟨hk.2.1, ⟨hk.2.2.1, ⟨hk.1, ⟨hk.2.2.2.1, ⟨hk.2.2.2.2.1, ⟨hk.2.2.2.2.2.1, hk.2.2.2.2.2.2⟩⟩⟩⟩⟩⟩))), (Nx_ (Kd.N_mono HO_479001.out (fun _ hk => ⟨hk.2, ⟨hk.1.1.1, ⟨hk.1.1.2.1, ⟨hk.1.1.2.2.1, ⟨hk.1.1.2.2.2, hk.1.2⟩⟩⟩⟩⟩))), (Vx_ (Kd.V_mono HO_488001.out (fun _ hk => ⟨hk.2, ⟨hk.1.1.2.1, ⟨hk.1.1.2.2.1, ⟨hk.1.1.1, ⟨hk.1.1.2.2.2.1, ⟨hk.1.1.2.2.2.2.1, ⟨hk.1.1.2.2.2.2.2, hk.1.2⟩⟩⟩⟩⟩⟩⟩))), (Nx_ (Kd.N_mono HO_490001.out (fun _ hk => ⟨hk.2, ⟨hk.1.1.1, ⟨hk.1.1.2.1, ⟨hk.1.1.2.2.1, ⟨hk.1.1.2.2.2, hk.1.2⟩⟩⟩⟩⟩))), (Nx_ (Kd.N_mono HO_5.out (fun _ hk => ⟨hk.2, ⟨hk.1.1.1, ⟨hk.1.1.2.1, ⟨hk.1.1.2.2.1, ⟨hk.1.1.2.2.2.1, ⟨hk.1.1.2.2.2.2, hk.1.2⟩⟩⟩⟩⟩⟩))), (bk_ BK478.out), (bk_ BK487.out), (bk_ BK489.out), (bk_ BK496.out), GW496.out, GE496.out, NB478_496.out, NB496_478.out, NB487_496.out, NB496_487.out, NB489_496.out, NB496_489.out, (bb_ HB.out)⟩)
        rintro ⟨v493, gb496⟩ w30 ⟨hS_, h0_, h1_, h2_, h3_, h4_, h5_, h6_, h7_, h8_, h9_, h10_, h11_, h12_, h13_, h14_, h15_, h16_, h17_, h18_⟩
        have n0_ : Aside0 (Kd.V (Kd.int .i64) 2 w30 w.heap.size (fun k_ => some k_ ≠ (v493 : Value).ownBlock ∧ some k_ ≠ (.slice Ao10 t475.length co10 : Value).ownBlock ∧ some k_ ≠ (.slice Ao26 x490001_1.length co26 : Value).ownBlock ∧ some k_ ≠ (.slice (some ad490) t483.length co25 : Value).ownBlock ∧ k_ ≠ gb478 ∧ k_ ≠ gb487 ∧ k_ ≠ gb489 ∧ k_ ≠ gb496) (.slice A490_3 ((rd_T44 t483 x8_1).f3).length c490_3) ((rd_T44 t483 x8_1).f3)) := ⟨h0_⟩
        have n1_ : Aside0 (Kd.N (Kd.slice 2 (Kd.int .i64)) 39 w30 w.heap.size (fun k_ => some k_ ≠ (.slice Ao10 t475.length co10 : Value).ownBlock ∧ some k_ ≠ (.slice Ao26 x490001_1.length co26 : Value).ownBlock ∧ some k_ ≠ (.slice (some ad490) t483.length co25 : Value).ownBlock ∧ k_ ≠ gb478 ∧ k_ ≠ gb487 ∧ k_ ≠ gb489 ∧ k_ ≠ gb496) v493 t492) := ⟨h1_⟩
        have n2_ : Aside0 (Kd.N (Kd.slice 2 (Kd.int .i64)) 39 w30 w.heap.size (fun k_ => some k_ ≠ (v493 : Value).ownBlock ∧ some k_ ≠ (.slice (some ad490) t483.length co25 : Value).ownBlock ∧ k_ ≠ gb478 ∧ k_ ≠ gb487 ∧ k_ ≠ gb489 ∧ k_ ≠ gb496) (.slice Ao10 t475.length co10) t475) := ⟨h2_⟩
        have n3_ : Aside0 (Kd.V (Kd.slice 2 (Kd.int .i64)) 39 w30 w.heap.size (fun k_ => some k_ ≠ (v493 : Value).ownBlock ∧ some k_ ≠ (.slice Ao10 t475.length co10 : Value).ownBlock ∧ some k_ ≠ (.slice Ao26 x490001_1.length co26 : Value).ownBlock ∧ some k_ ≠ (.slice (some ad490) t483.length co25 : Value).ownBlock ∧ k_ ≠ gb478 ∧ k_ ≠ gb487 ∧ k_ ≠ gb489 ∧ k_ ≠ gb496) (.slice Ao15 t480.length co15) t480) := ⟨h3_⟩
        have n4_ : Aside0 (Kd.N (Kd.slice 2 (Kd.int .i64)) 39 w30 w.heap.size (fun k_ => some k_ ≠ (v493 : Value).ownBlock ∧ some k_ ≠ (.slice (some ad490) t483.length co25 : Value).ownBlock ∧ k_ ≠ gb478 ∧ k_ ≠ gb487 ∧ k_ ≠ gb489 ∧ k_ ≠ gb496) (.slice Ao26 x490001_1.length co26) x490001_1) := ⟨h4_⟩
        have n5_ : Aside0 (Kd.N k44 44 w30 w.heap.size (fun k_ => some k_ ≠ (v493 : Value).ownBlock ∧ some k_ ≠ (.slice Ao10 t475.length co10 : Value).ownBlock ∧ some k_ ≠ (.slice Ao26 x490001_1.length co26 : Value).ownBlock ∧ k_ ≠ gb478 ∧ k_ ≠ gb487 ∧ k_ ≠ gb489 ∧ k_ ≠ gb496) (.slice (some ad490) t483.length co25) t483) := ⟨h5_⟩
        have n6_ : Aside0 (w30.heap[gb478]? = some (.cells #[.int .i64 t474, .slice Ao10 t475.length co10] 28 (0, 0))) := ⟨h6_⟩
        have n7_ : Aside0 (w30.heap[gb487]? = some (.cells #[.int .i64 t479, .slice Ao15 t480.length co15] 28 (0, 0))) := ⟨h7_⟩
        have n8_ : Aside0 (w30.heap[gb489]? = some (.cells #[.int .i64 x490000_1, .slice Ao26 x490001_1.length co26] 28 (0, 0))) := ⟨h8_⟩
        have n9_ : Aside0 (w30.heap[gb496]? = some (.cells #[.int .i64 0, .slice none 0 0] 28 (0, 0))) := ⟨h9_⟩
        have n10_ : Aside0 (w.heap.size ≤ gb496) := ⟨h10_⟩
        have n11_ : Aside0 (w.heap.size ≤ gb496) := ⟨h11_⟩
        have n12_ : Aside0 (gb478 ≠ gb496) := ⟨h12_⟩
        have n13_ : Aside0 (gb496 ≠ gb478) := ⟨h13_⟩
        have n14_ : Aside0 (gb487 ≠ gb496) := ⟨h14_⟩
        have n15_ : Aside0 (gb496 ≠ gb487) := ⟨h15_⟩
        have n16_ : Aside0 (gb489 ≠ gb496) := ⟨h16_⟩
        have n17_ : Aside0 (gb496 ≠ gb489) := ⟨h17_⟩
        have n18_ : Aside0 (Below w.heap.size w w30) := ⟨h18_⟩
        clear HO_5
        clear HO_479001
        clear HO_488001
        clear HO_490001
        clear BK478
        clear BK487
        clear BK489
        clear HB
        clear h0_ h1_ h2_ h3_ h4_ h5_ h6_ h7_ h8_ h9_ h10_ h11_ h12_ h13_ h14_ h15_ h16_ h17_ h18_
        have HL490_3 := n0_
        have HO494 := n1_
        have HO_479001 := n2_
        have HO_488001 := n3_
        have HO_490001 := n4_
        have HO_5 := n5_
        have BK478 := n6_
        have BK487 := n7_
        have BK489 := n8_
        have BK496 := n9_
        have GW496 := n10_
        have GE496 := n11_
        have NB478_496 := n12_
        have NB496_478 := n13_
        have NB487_496 := n14_
        have NB496_487 := n15_
        have NB489_496 := n16_
        have NB496_489 := n17_
        have HB := n18_
        clear n0_ n1_ n2_ n3_ n4_ n5_ n6_ n7_ n8_ n9_ n10_ n11_ n12_ n13_ n14_ n15_ n16_ n17_ n18_
        have hHeld : w30.cell? ⟨gb489, 0, none⟩ = some (.int .i64 x490000_1) ∧ w30.cell? ⟨gb489, 1, none⟩ = some (.slice Ao26 x490001_1.length co26) ∧ w30.cell? (ad490.add ((x8_1).toNat * 4)) = some (.int .i64 ((rd_T44 t483 x8_1).f0)) ∧ w30.cell? ⟨(ad490.add ((x8_1).toNat * 4)).block, (ad490.add ((x8_1).toNat * 4)).off + 1, none⟩ = some (.int .i64 ((rd_T44 t483 x8_1).f1)) ∧ w30.cell? ⟨(ad490.add ((x8_1).toNat * 4)).block, (ad490.add ((x8_1).toNat * 4)).off + 2, none⟩ = some (.int .i64 ((rd_T44 t483 x8_1).f2)) ∧ w30.cell? ⟨(ad490.add ((x8_1).toNat * 4)).block, (ad490.add ((x8_1).toNat * 4)).off + 3, none⟩ = some (.slice A490_3 ((rd_T44 t483 x8_1).f3).length c490_3) := hS_
        obtain ⟨Ao32, co32, eo32⟩ := Kd.N_slice HO494.out
        (first | subst eo32 | (injection eo32 with f1_ f2_ f3_; have f4_ := f1_.symm; have f5_ := f3_.symm; clear f1_ f2_ f3_; subst f4_; subst f5_))
        refine norm_ (a' := ?_) ?_ ?_
        rotate_left
        ·simp only [putAll, Act.put, List.setIfInBounds_toArray, List.set_cons_zero, List.set_cons_succ]
         rfl
        refine one_ (i := 10) (N := none) (bA_ 12 2047) rfl rfl (one_of HT_.out (by kernel_rfl)) (by decide) (fun K hK => ?_)
        have hs31 : w30.cell? ⟨gb496, 0, none⟩ = some (.int .i64 0) := bc_ BK496 0
        have hfs31 := blk_frozen BK496.out 0
        have hns31_0 := NB478_496.out
        have hns31_1 := NB487_496.out
        have hns31_2 := NB489_496.out
        have hms31_0 := NB496_478.out
        have hms31_1 := NB496_487.out
        have hms31_2 := NB496_489.out
        have hs33 : w30.cell? ⟨gb496, 1, none⟩ = some (.slice none 0 0) := bc_ BK496 1
        have hfs33 := blk_frozen BK496.out 1
        have hns33_0 := NB478_496.out
        have hns33_1 := NB487_496.out
        have hns33_2 := NB489_496.out
        have hms33_0 := NB496_478.out
        have hms33_1 := NB496_487.out
        have hms33_2 := NB496_489.out
        refine skip_ (w1 := ?_) (by rfl) rfl ?_ ?_
        rotate_left
        ·go_simp
         rfl
        refine hK.out _ _ ⟨((cell_far (p := ⟨gb496, _, none⟩) NB489_496.out _).trans (((cell_far (p := ⟨gb496, _, none⟩) NB489_496.out _).trans (hHeld.1)))), ((cell_far (p := ⟨gb496, _, none⟩) NB489_496.out _).trans (((cell_far (p := ⟨gb496, _, none⟩) NB489_496.out _).trans (hHeld.2.1)))), ((cell_far (p := ⟨gb496, _, none⟩) (by first | exact Kd.own_blk (Kd.N_away HO_5.out (fun _ hk => hk.2.2.2.2.2.2)) | (rw [add_block]; exact Kd.own_blk (Kd.N_away HO_5.out (fun _ hk => hk.2.2.2.2.2.2))) | (show (Addr.add _ _).block ≠ _; rw [add_block]; exact Kd.own_blk (Kd.N_away HO_5.out (fun _ hk => hk.2.2.2.2.2.2))) | (dsimp only; exact Kd.own_blk (Kd.N_away HO_5.out (fun _ hk => hk.2.2.2.2.2.2)))) _).trans (((cell_far (p := ⟨gb496, _, none⟩) (by first | exact Kd.own_blk (Kd.N_away HO_5.out (fun _ hk => hk.2.2.2.2.2.2)) | (rw [add_block]; exact Kd.own_blk (Kd.N_away HO_5.out (fun _ hk => hk.2.2.2.2.2.2))) | (show (Addr.add _ _).block ≠ _; rw [add_block]; exact Kd.own_blk (Kd.N_away HO_5.out (fun _ hk => hk.2.2.2.2.2.2))) | (dsimp only; exact Kd.own_blk (Kd.N_away HO_5.out (fun _ hk => hk.2.2.2.2.2.2)))) _).trans (hHeld.2.2.1)))), ((cell_far (p := ⟨gb496, _, none⟩) (by first | exact Kd.own_blk (Kd.N_away HO_5.out (fun _ hk => hk.2.2.2.2.2.2)) | (rw [add_block]; exact Kd.own_blk (Kd.N_away HO_5.out (fun _ hk => hk.2.2.2.2.2.2))) | (show (Addr.add _ _).block ≠ _; rw [add_block]; exact Kd.own_blk (Kd.N_away HO_5.out (fun _ hk => hk.2.2.2.2.2.2))) | (dsimp only; exact Kd.own_blk (Kd.N_away HO_5.out (fun _ hk => hk.2.2.2.2.2.2)))) _).trans (((cell_far (p := ⟨gb496, _, none⟩) (by first | exact Kd.own_blk (Kd.N_away HO_5.out (fun _ hk => hk.2.2.2.2.2.2)) | (rw [add_block]; exact Kd.own_blk (Kd.N_away HO_5.out (fun _ hk => hk.2.2.2.2.2.2))) | (show (Addr.add _ _).block ≠ _; rw [add_block]; exact Kd.own_blk (Kd.N_away HO_5.out (fun _ hk => hk.2.2.2.2.2.2))) | (dsimp only; exact Kd.own_blk (Kd.N_away HO_5.out (fun _ hk => hk.2.2.2.2.2.2)))) _).trans (hHeld.2.2.2.1)))), ((cell_far (p := ⟨gb496, _, none⟩) (by first | exact Kd.own_blk (Kd.N_away HO_5.out (fun _ hk => hk.2.2.2.2.2.2)) | (rw [add_block]; exact Kd.own_blk (Kd.N_away HO_5.out (fun _ hk => hk.2.2.2.2.2.2))) | (show (Addr.add _ _).block ≠ _; rw [add_block]; exact Kd.own_blk (Kd.N_away HO_5.out (fun _ hk => hk.2.2.2.2.2.2))) | (dsimp only; exact Kd.own_blk (Kd.N_away HO_5.out (fun _ hk => hk.2.2.2.2.2.2)))) _).trans (((cell_far (p := ⟨gb496, _, none⟩) (by first | exact Kd.own_blk (Kd.N_away HO_5.out (fun _ hk => hk.2.2.2.2.2.2)) | (rw [add_block]; exact Kd.own_blk (Kd.N_away HO_5.out (fun _ hk => hk.2.2.2.2.2.2))) | (show (Addr.add _ _).block ≠ _; rw [add_block]; exact Kd.own_blk (Kd.N_away HO_5.out (fun _ hk => hk.2.2.2.2.2.2))) | (dsimp only; exact Kd.own_blk (Kd.N_away HO_5.out (fun _ hk => hk.2.2.2.2.2.2)))) _).trans (hHeld.2.2.2.2.1)))), ((cell_far (p := ⟨gb496, _, none⟩) (by first | exact Kd.own_blk (Kd.N_away HO_5.out (fun _ hk => hk.2.2.2.2.2.2)) | (rw [add_block]; exact Kd.own_blk (Kd.N_away HO_5.out (fun _ hk => hk.2.2.2.2.2.2))) | (show (Addr.add _ _).block ≠ _; rw [add_block]; exact Kd.own_blk (Kd.N_away HO_5.out (fun _ hk => hk.2.2.2.2.2.2))) | (dsimp only; exact Kd.own_blk (Kd.N_away HO_5.out (fun _ hk => hk.2.2.2.2.2.2)))) _).trans (((cell_far (p := ⟨gb496, _, none⟩) (by first | exact Kd.own_blk (Kd.N_away HO_5.out (fun _ hk => hk.2.2.2.2.2.2)) | (rw [add_block]; exact Kd.own_blk (Kd.N_away HO_5.out (fun _ hk => hk.2.2.2.2.2.2))) | (show (Addr.add _ _).block ≠ _; rw [add_block]; exact Kd.own_blk (Kd.N_away HO_5.out (fun _ hk => hk.2.2.2.2.2.2))) | (dsimp only; exact Kd.own_blk (Kd.N_away HO_5.out (fun _ hk => hk.2.2.2.2.2.2)))) _).trans (hHeld.2.2.2.2.2))))⟩ (fun hHeld => ?_)
        clear hK K
        refine pz_ 11 10 (bA_ 12 4095) HT_ ?_
        refine done_ (done_of HT_.out (by kernel_rfl)) ?_
        have hnb34 := NB496_478.out
        have hnc34 := NB478_496.out
        have hnb35 := NB496_487.out
        have hnc35 := NB487_496.out
        have hnb36 := NB496_489.out
        have hnc36 := NB489_496.out
        obtain ⟨hcz37_0, hcz37_1, hfz37_0, hfz37_1⟩ := bx2_ BK496
        have hnb38 := NB489_478.out
        have hnc38 := NB478_489.out
        have hnb39 := NB489_487.out
        have hnc39 := NB487_489.out
        obtain ⟨hcz40_0, hcz40_1, hfz40_0, hfz40_1⟩ := bx2_ BK489
        try go_wp2
        go_roundg k1
        case measure => have := HK1.out; omega
        case rel => exact ⟨(wrap64 (x8_1 + 1)), (t491), (t492), (.slice Ao32 t492.length co32), (by first | rfl | (simp; done) | (simp [*]; done)), H', ⟨by have := HK1.out; omega⟩, ⟨Nx_ (Kd.N_mono (Kd.N_far (p := ⟨gb489, 1, none⟩) (Kd.N_far (p := ⟨gb489, 0, none⟩) (Kd.N_far (p := ⟨gb496, 1, none⟩) (Kd.N_far (p := ⟨gb496, 0, none⟩) (Kd.N_mono (Kd.N_mono HO_5.out (fun k_ hk => (⟨hk, hk.2.2.2.2.2.2⟩ : _ ∧ k_ ≠ gb496))) (fun k_ hk => (⟨hk, hk.1.2.2.2.2.2.1⟩ : _ ∧ k_ ≠ gb489))) (fun _ hk => hk.1.2) (.int .i64 t491)) (fun _ hk => hk.1.2) (.slice Ao32 t492.length co32)) (fun _ hk => hk.2) (.int .i64 t491)) (fun _ hk => hk.2) (.slice Ao32 t492.length co32)) (fun _ hk => ⟨hk.1.1.2.1, ⟨hk.1.1.1, ⟨hk.1.1.2.2.2.1, ⟨hk.1.1.2.2.2.2.1, hk.1.1.2.2.2.2.2.1⟩⟩⟩⟩))⟩, ⟨Nx_ (Kd.N_mono (Kd.N_far (p := ⟨gb489, 1, none⟩) (Kd.N_far (p := ⟨gb489, 0, none⟩) (Kd.N_far (p := ⟨gb496, 1, none⟩) (Kd.N_far (p := ⟨gb496, 0, none⟩) (Kd.N_mono (Kd.N_mono HO_479001.out (fun k_ hk => (⟨hk, hk.2.2.2.2.2⟩ : _ ∧ k_ ≠ gb496))) (fun k_ hk => (⟨hk, hk.1.2.2.2.2.1⟩ : _ ∧ k_ ≠ gb489))) (fun _ hk => hk.1.2) (.int .i64 t491)) (fun _ hk => hk.1.2) (.slice Ao32 t492.length co32)) (fun _ hk => hk.2) (.int .i64 t491)) (fun _ hk => hk.2) (.slice Ao32 t492.length co32)) (fun _ hk => ⟨hk.1.1.2.1, ⟨hk.1.1.2.2.1, ⟨hk.1.1.2.2.2.1, hk.1.1.2.2.2.2.1⟩⟩⟩))⟩, ⟨Vx_ (Kd.V_mono (Kd.V_far (p := ⟨gb489, 1, none⟩) (Kd.V_far (p := ⟨gb489, 0, none⟩) (Kd.V_far (p := ⟨gb496, 1, none⟩) (Kd.V_far (p := ⟨gb496, 0, none⟩) (Kd.V_mono (Kd.V_mono HO_488001.out (fun k_ hk => (⟨hk, hk.2.2.2.2.2.2.2⟩ : _ ∧ k_ ≠ gb496))) (fun k_ hk => (⟨hk, hk.1.2.2.2.2.2.2.1⟩ : _ ∧ k_ ≠ gb489))) (fun _ hk => hk.1.2) (.int .i64 t491)) (fun _ hk => hk.1.2) (.slice Ao32 t492.length co32)) (fun _ hk => hk.2) (.int .i64 t491)) (fun _ hk => hk.2) (.slice Ao32 t492.length co32)) (fun _ hk => ⟨hk.1.1.2.2.2.1, ⟨hk.1.1.2.1, ⟨hk.1.1.1, ⟨hk.1.1.2.2.2.2.1, ⟨hk.1.1.2.2.2.2.2.1, hk.1.1.2.2.2.2.2.2.1⟩⟩⟩⟩⟩))⟩, ⟨Nx_ (Kd.N_mono (Kd.N_far (p := ⟨gb489, 1, none⟩) (Kd.N_far (p := ⟨gb489, 0, none⟩) (Kd.N_far (p := ⟨gb496, 1, none⟩) (Kd.N_far (p := ⟨gb496, 0, none⟩) (Kd.N_mono (Kd.N_mono HO494.out (fun k_ hk => (⟨hk, hk.2.2.2.2.2.2⟩ : _ ∧ k_ ≠ gb496))) (fun k_ hk => (⟨hk, hk.1.2.2.2.2.2.1⟩ : _ ∧ k_ ≠ gb489))) (fun _ hk => hk.1.2) (.int .i64 t491)) (fun _ hk => hk.1.2) (.slice Ao32 t492.length co32)) (fun _ hk => hk.2) (.int .i64 t491)) (fun _ hk => hk.2) (.slice Ao32 t492.length co32)) (fun _ hk => ⟨hk.1.1.2.2.1, ⟨hk.1.1.2.2.2.1, ⟨hk.1.1.2.2.2.2.1, hk.1.1.2.2.2.2.2.1⟩⟩⟩))⟩, ⟨bk_ BK478.out⟩, ⟨bk_ BK487.out⟩, ⟨by (with_reducible repeat (first | refine blk_drewN ?_ _ | refine blk_drew ?_ | refine blk_alloc ?_ _)); refine blk_put (cs := #[.int .i64 t491, .slice Ao26 x490001_1.length co26]) ?_ 1 _ rfl; (with_reducible repeat (first | refine blk_drewN ?_ _ | refine blk_drew ?_ | refine blk_alloc ?_ _)); refine blk_put (cs := #[.int .i64 x490000_1, .slice Ao26 x490001_1.length co26]) ?_ 0 _ rfl; (with_reducible repeat (first | refine blk_drewN ?_ _ | refine blk_drew ?_ | refine blk_alloc ?_ _)); refine blk_far ?_ NB489_496.out _; (with_reducible repeat (first | refine blk_drewN ?_ _ | refine blk_drew ?_ | refine blk_alloc ?_ _)); refine blk_far ?_ NB489_496.out _; (with_reducible repeat (first | refine blk_drewN ?_ _ | refine blk_drew ?_ | refine blk_alloc ?_ _)); exact BK489.out⟩, ⟨bb_ HB.out⟩⟩
       ·rw [if_neg c24] at H
        have c24b0 : (t495 == 0) = false := beq_eq_false_iff_ne.mpr c24
        have c24b1 : (t495 != 0) = true := bne_iff_ne.mpr c24
        exact absurd ((Option.some.inj H).trans HTRUE_.out) (by simp)
      ·rw [if_neg c22] at H
       exact absurd H (by simp)
     ·rw [if_neg c21] at H
      have c21b0 : decide (x8_1 < (t483.length : Int)) = false := decide_eq_false c21
      clear c21
      have HC41 := am_ H
      clear H
      obtain ⟨Ao42, co42, eo42⟩ := Kd.N_slice HO_5.out
      subst eo42
      go_upto_region 15 with (fail)
      go_cut [67] (fun v67 wc => ∃ (kq : Nat) (x67_40 : Bool), v67 = .bool x67_40 ∧ Aside0 (laws_FnSimplify.j1 kq t483 x67_40 t474 t475 t479 t480 x490000_1 x490001_1 = some r) ∧ Aside0 (kq ≤ k1) ∧ Aside0 (Kd.N k44 44 wc w.heap.size (fun k_ => some k_ ≠ ((.slice Ao10 t475.length co10) : Value).ownBlock ∧ some k_ ≠ (u490001 : Value).ownBlock ∧ k_ ≠ gb478 ∧ k_ ≠ gb487 ∧ k_ ≠ gb489) (.slice Ao42 t483.length co42) t483) ∧ Aside0 (Kd.N (Kd.slice 2 (Kd.int .i64)) 39 wc w.heap.size (fun k_ => some k_ ≠ ((.slice Ao42 t483.length co42) : Value).ownBlock ∧ k_ ≠ gb478 ∧ k_ ≠ gb487 ∧ k_ ≠ gb489) (.slice Ao10 t475.length co10) t475) ∧ Aside0 (Kd.V (Kd.slice 2 (Kd.int .i64)) 39 wc w.heap.size (fun k_ => some k_ ≠ ((.slice Ao42 t483.length co42) : Value).ownBlock ∧ some k_ ≠ ((.slice Ao10 t475.length co10) : Value).ownBlock ∧ some k_ ≠ (u490001 : Value).ownBlock ∧ k_ ≠ gb478 ∧ k_ ≠ gb487 ∧ k_ ≠ gb489) (.slice Ao15 t480.length co15) t480) ∧ Aside0 (Kd.N (Kd.slice 2 (Kd.int .i64)) 39 wc w.heap.size (fun k_ => some k_ ≠ ((.slice Ao42 t483.length co42) : Value).ownBlock ∧ k_ ≠ gb478 ∧ k_ ≠ gb487 ∧ k_ ≠ gb489) u490001 x490001_1) ∧ Aside0 (wc.heap[gb478]? = some (.cells #[.int .i64 t474, (.slice Ao10 t475.length co10)] 28 (0, 0))) ∧ Aside0 (wc.heap[gb487]? = some (.cells #[.int .i64 t479, (.slice Ao15 t480.length co15)] 28 (0, 0))) ∧ Aside0 (wc.heap[gb489]? = some (.cells #[.int .i64 x490000_1, u490001] 28 (0, 0))) ∧ Aside0 (Below w.heap.size w wc))
      case first =>
       have H := HC41.out
       clear HC41
       by_cases c43 : x490000_1 = t479
       ·rw [if_pos c43] at H
        have c43b0 : (x490000_1 == t479) = true := beq_iff_eq.mpr c43
        have c43b1 : (x490000_1 != t479) = false := bne_eq_false_iff_eq.mpr c43
        clear c43
        (first | rw [c43b0] | (simp only [i64_w, i32_w]; rw [c43b0]) | skip)
        have H' := am_ H
        clear H
        have hnb44 := NB489_478.out
        have hnc44 := NB478_489.out
        have hnb45 := NB489_487.out
        have hnc45 := NB487_489.out
        obtain ⟨hcz46_0, hcz46_1, hfz46_0, hfz46_1⟩ := bx2_ BK489
        have hnb47 := NB487_478.out
        have hnc47 := NB478_487.out
        obtain ⟨hcz48_0, hcz48_1, hfz48_0, hfz48_1⟩ := bx2_ BK487
        obtain ⟨Ao49, co49, eo49⟩ := Kd.N_slice HO_490001.out
        subst eo49
        go_wp2
        go_meet
        case rel => exact ⟨_, (((x490001_1.length : Int) != (t480.length : Int))), (by first | rfl | (simp; done) | (simp [*]; done)), H', ⟨by have := HK1.out; first | omega | exact Nat.le_refl _⟩, ⟨Nx_ HO_5.out⟩, ⟨Nx_ HO_479001.out⟩, ⟨Vx_ HO_488001.out⟩, ⟨Nx_ HO_490001.out⟩, ⟨bk_ BK478.out⟩, ⟨bk_ BK487.out⟩, ⟨bk_ BK489.out⟩, ⟨bb_ HB.out⟩⟩
       ·rw [if_neg c43] at H
        have c43b0 : (x490000_1 == t479) = false := beq_eq_false_iff_ne.mpr c43
        have c43b1 : (x490000_1 != t479) = true := bne_iff_ne.mpr c43
        (first | rw [c43b0] | (simp only [i64_w, i32_w]; rw [c43b0]) | skip)
        have H' := am_ H
        clear H
        have hnb50 := NB489_478.out
        have hnc50 := NB478_489.out
        have hnb51 := NB489_487.out
        have hnc51 := NB487_489.out
        obtain ⟨hcz52_0, hcz52_1, hfz52_0, hfz52_1⟩ := bx2_ BK489
        have hnb53 := NB487_478.out
        have hnc53 := NB478_487.out
        obtain ⟨hcz54_0, hcz54_1, hfz54_0, hfz54_1⟩ := bx2_ BK487
        go_wp2
        go_meet
        case rel => exact ⟨_, (true), (by first | rfl | (simp; done) | (simp [*]; done)), H', ⟨by have := HK1.out; first | omega | exact Nat.le_refl _⟩, ⟨Nx_ HO_5.out⟩, ⟨Nx_ HO_479001.out⟩, ⟨Vx_ HO_488001.out⟩, ⟨Nx_ HO_490001.out⟩, ⟨bk_ BK478.out⟩, ⟨bk_ BK487.out⟩, ⟨bk_ BK489.out⟩, ⟨bb_ HB.out⟩⟩
      case rest =>
       clear HC41
       try clear c2
       try clear p2
       try clear c3
       try clear c4
       try clear p4
       try clear q4
       try clear hx4
       try clear c5
       try clear p6
       try clear c21
       try clear c21b0
       try clear c22
       try clear c22b0
       try clear c23
       try clear c24
       try clear c24b0
       try clear c24b1
       try clear c34
       try clear c35
       try clear c36
       try clear c38
       try clear c39
       try clear c43
       try clear c43b0
       try clear c43b1
       try clear c44
       try clear c45
       try clear c47
       try clear c49
       try clear p49
       try clear q49
       try clear hx49
       try clear c50
       try clear c51
       try clear c53
       try clear hcz37_0
       try clear hcz37_1
       try clear hcz40_0
       try clear hcz40_1
       try clear hcz46_0
       try clear hcz46_1
       try clear hcz48_0
       try clear hcz48_1
       try clear hcz52_0
       try clear hcz52_1
       try clear hcz54_0
       try clear hcz54_1
       try clear hfz37_0
       try clear hfz37_1
       try clear hfz40_0
       try clear hfz40_1
       try clear hfz46_0
       try clear hfz46_1
       try clear hfz48_0
       try clear hfz48_1
       try clear hfz52_0
       try clear hfz52_1
       try clear hfz54_0
       try clear hfz54_1
       try clear hx490_0
       try clear hx490_1
       try clear hx490_2
       try clear hx490_3
       try clear p490
       try clear q490
       obtain ⟨kq, x67_40, rfl, HA, HJ40, HO_5, HO_479001, HO_488001, HO_490001, BK478, BK487, BK489, HB⟩ := hcut
       cases kq with
       | zero => exact absurd HA.out (by simp [laws_FnSimplify.j1])
       | succ kj40 =>
        have H := HA.out
        clear HA
        simp only [laws_FnSimplify.j1] at H
        by_cases c55 : x67_40 = true
        ·subst c55
         have H1 : (some false) = some r := by rw [if_pos rfl] at H; exact H
         clear H
         have H := H1
         clear H1
         exact absurd ((Option.some.inj H).trans HTRUE_.out) (by simp)
        ·replace c55 := Bool.eq_false_iff.mpr c55
         subst c55
         have H1 : (laws_FnSimplify.l1 kj40 t483 0 t474 t475 t479 t480 x490000_1 x490001_1) = some r := by rw [if_neg (show ¬ (false = true) by decide)] at H; exact H
         clear H
         have H := H1
         clear H1
         have H' := am_ H
         clear H
         go_wp2
         go_loopg [11] kj40 (fun kq v11 w' => ∃ (x11_3 : Int), v11 = .int .i64 x11_3 ∧ Aside0 (laws_FnSimplify.l1 kq t483 x11_3 t474 t475 t479 t480 x490000_1 x490001_1 = some r) ∧ Aside0 (kq ≤ kj40) ∧ Aside0 (Kd.N k44 44 w' w.heap.size (fun k_ => some k_ ≠ ((.slice Ao10 t475.length co10) : Value).ownBlock ∧ some k_ ≠ (u490001 : Value).ownBlock ∧ k_ ≠ gb478 ∧ k_ ≠ gb487 ∧ k_ ≠ gb489) (.slice Ao42 t483.length co42) t483) ∧ Aside0 (Kd.N (Kd.slice 2 (Kd.int .i64)) 39 w' w.heap.size (fun k_ => some k_ ≠ ((.slice Ao42 t483.length co42) : Value).ownBlock ∧ k_ ≠ gb478 ∧ k_ ≠ gb487 ∧ k_ ≠ gb489) (.slice Ao10 t475.length co10) t475) ∧ Aside0 (Kd.V (Kd.slice 2 (Kd.int .i64)) 39 w' w.heap.size (fun k_ => some k_ ≠ ((.slice Ao42 t483.length co42) : Value).ownBlock ∧ some k_ ≠ ((.slice Ao10 t475.length co10) : Value).ownBlock ∧ some k_ ≠ (u490001 : Value).ownBlock ∧ k_ ≠ gb478 ∧ k_ ≠ gb487 ∧ k_ ≠ gb489) (.slice Ao15 t480.length co15) t480) ∧ Aside0 (Kd.N (Kd.slice 2 (Kd.int .i64)) 39 w' w.heap.size (fun k_ => some k_ ≠ ((.slice Ao42 t483.length co42) : Value).ownBlock ∧ k_ ≠ gb478 ∧ k_ ≠ gb487 ∧ k_ ≠ gb489) u490001 x490001_1) ∧ Aside0 (w'.heap[gb478]? = some (.cells #[.int .i64 t474, (.slice Ao10 t475.length co10)] 28 (0, 0))) ∧ Aside0 (w'.heap[gb487]? = some (.cells #[.int .i64 t479, (.slice Ao15 t480.length co15)] 28 (0, 0))) ∧ Aside0 (w'.heap[gb489]? = some (.cells #[.int .i64 x490000_1, u490001] 28 (0, 0))) ∧ Aside0 (Below w.heap.size w w'))
         case atStart => exact ⟨(0), (by first | rfl | (simp; done) | (simp [*]; done)), H', ⟨Nat.le_refl _⟩, ⟨Nx_ HO_5.out⟩, ⟨Nx_ HO_479001.out⟩, ⟨Vx_ HO_488001.out⟩, ⟨Nx_ HO_490001.out⟩, ⟨bk_ BK478.out⟩, ⟨bk_ BK487.out⟩, ⟨bk_ BK489.out⟩, ⟨bb_ HB.out⟩⟩
         case round =>
          clear H'
          try clear c2
          try clear p2
          try clear c3
          try clear c4
          try clear p4
          try clear q4
          try clear hx4
          try clear c5
          try clear p6
          try clear c21
          try clear c21b0
          try clear c22
          try clear c22b0
          try clear c23
          try clear c24
          try clear c24b0
          try clear c24b1
          try clear c34
          try clear c35
          try clear c36
          try clear c38
          try clear c39
          try clear c43
          try clear c43b0
          try clear c43b1
          try clear c44
          try clear c45
          try clear c47
          try clear c49
          try clear p49
          try clear q49
          try clear hx49
          try clear c50
          try clear c51
          try clear c53
          try clear c55
          try clear hcz37_0
          try clear hcz37_1
          try clear hcz40_0
          try clear hcz40_1
          try clear hcz46_0
          try clear hcz46_1
          try clear hcz48_0
          try clear hcz48_1
          try clear hcz52_0
          try clear hcz52_1
          try clear hcz54_0
          try clear hcz54_1
          try clear hfz37_0
          try clear hfz37_1
          try clear hfz40_0
          try clear hfz40_1
          try clear hfz46_0
          try clear hfz46_1
          try clear hfz48_0
          try clear hfz48_1
          try clear hfz52_0
          try clear hfz52_1
          try clear hfz54_0
          try clear hfz54_1
          try clear hx490_0
          try clear hx490_1
          try clear hx490_2
          try clear hx490_3
          try clear p2
          try clear p4
          try clear p49
          try clear p490
          try clear p6
          try clear q4
          try clear q49
          try clear q490
          obtain ⟨x11_3, rfl, HA, HK3, HO_5, HO_479001, HO_488001, HO_490001, BK478, BK487, BK489, HB⟩ := hrel
          cases gk with
          | zero => exact absurd HA.out (by simp [laws_FnSimplify.l1])
          | succ k3 =>
           have H := HA.out
           clear HA
           simp only [laws_FnSimplify.l1] at H
           by_cases c56 : x11_3 < (t480.length : Int)
           ·rw [if_pos c56] at H
            have c56b0 : decide (x11_3 < (t480.length : Int)) = true := decide_eq_true c56
            clear c56
            have HC57 := am_ H
            clear H
            have hnb58 := NB487_478.out
            have hnc58 := NB478_487.out
            have hnb59 := NB487_489.out
            have hnc59 := NB489_487.out
            obtain ⟨hcz60_0, hcz60_1, hfz60_0, hfz60_1⟩ := bx2_ BK487
            go_upto_region 20 with (fail)
            go_cut [100] (fun v100 wc => ∃ (kq : Nat) (x100_56 : Bool), v100 = .bool x100_56 ∧ Aside0 (laws_FnSimplify.j3 kq t483 x11_3 x100_56 t474 t475 t479 t480 x490000_1 x490001_1 = some r) ∧ Aside0 (kq ≤ k3) ∧ Aside0 (Kd.N k44 44 wc w.heap.size (fun k_ => some k_ ≠ ((.slice Ao10 t475.length co10) : Value).ownBlock ∧ some k_ ≠ (u490001 : Value).ownBlock ∧ k_ ≠ gb478 ∧ k_ ≠ gb487 ∧ k_ ≠ gb489) (.slice Ao42 t483.length co42) t483) ∧ Aside0 (Kd.N (Kd.slice 2 (Kd.int .i64)) 39 wc w.heap.size (fun k_ => some k_ ≠ ((.slice Ao42 t483.length co42) : Value).ownBlock ∧ k_ ≠ gb478 ∧ k_ ≠ gb487 ∧ k_ ≠ gb489) (.slice Ao10 t475.length co10) t475) ∧ Aside0 (Kd.V (Kd.slice 2 (Kd.int .i64)) 39 wc w.heap.size (fun k_ => some k_ ≠ ((.slice Ao42 t483.length co42) : Value).ownBlock ∧ some k_ ≠ ((.slice Ao10 t475.length co10) : Value).ownBlock ∧ some k_ ≠ (u490001 : Value).ownBlock ∧ k_ ≠ gb478 ∧ k_ ≠ gb487 ∧ k_ ≠ gb489) (.slice Ao15 t480.length co15) t480) ∧ Aside0 (Kd.N (Kd.slice 2 (Kd.int .i64)) 39 wc w.heap.size (fun k_ => some k_ ≠ ((.slice Ao42 t483.length co42) : Value).ownBlock ∧ k_ ≠ gb478 ∧ k_ ≠ gb487 ∧ k_ ≠ gb489) u490001 x490001_1) ∧ Aside0 (wc.heap[gb478]? = some (.cells #[.int .i64 t474, (.slice Ao10 t475.length co10)] 28 (0, 0))) ∧ Aside0 (wc.heap[gb487]? = some (.cells #[.int .i64 t479, (.slice Ao15 t480.length co15)] 28 (0, 0))) ∧ Aside0 (wc.heap[gb489]? = some (.cells #[.int .i64 x490000_1, u490001] 28 (0, 0))) ∧ Aside0 (Below w.heap.size w wc))
            case first =>
             have H := HC57.out
             clear HC57
             by_cases c61 : 0 ≤ x11_3
             ·rw [if_pos c61] at H
              have c61b0 : decide (0 ≤ x11_3) = true := decide_eq_true c61
              clear c61
              (first | rw [c61b0] | (simp only [i64_w, i32_w]; rw [c61b0]) | skip)
              by_cases c62 : x11_3 < (x490001_1.length : Int)
              ·rw [if_pos c62] at H
               have c62b0 : decide (x11_3 < (x490001_1.length : Int)) = true := decide_eq_true c62
               clear c62
               replace H := Option.bind_eq_some_iff.mp H
               obtain ⟨t499, A630, H⟩ := H
               replace H : (if t499 = true then (if ((rd_L1 t480 x11_3).length : Int) = 0 then (laws_FnSimplify.j3 k3 t483 x11_3 (decide ((t483.length : Int) < 200)) t474 t475 t479 t480 x490000_1 x490001_1) else (laws_FnSimplify.j3 k3 t483 x11_3 false t474 t475 t479 t480 x490000_1 x490001_1)) else (laws_FnSimplify.j3 k3 t483 x11_3 true t474 t475 t479 t480 x490000_1 x490001_1)) = some r := H
               have A63 := am_ A630
               clear A630
               by_cases c64 : t499 = true
               ·subst c64
                have H1 : (if ((rd_L1 t480 x11_3).length : Int) = 0 then (laws_FnSimplify.j3 k3 t483 x11_3 (decide ((t483.length : Int) < 200)) t474 t475 t479 t480 x490000_1 x490001_1) else (laws_FnSimplify.j3 k3 t483 x11_3 false t474 t475 t479 t480 x490000_1 x490001_1)) = some r := by rw [if_pos rfl] at H; exact H
                clear H
                have H := H1
                clear H1
                by_cases c65 : ((rd_L1 t480 x11_3).length : Int) = 0
                ·rw [if_pos c65] at H
                 have c65b0 : (((rd_L1 t480 x11_3).length : Int) == 0) = true := beq_iff_eq.mpr c65
                 have c65b1 : (((rd_L1 t480 x11_3).length : Int) != 0) = false := bne_eq_false_iff_eq.mpr c65
                 clear c65
                 have H' := am_ H
                 clear H
                 try go_wp2
                 have n0_ := am_ (Kd.N_drew HO_5.out)
                 have n1_ := am_ (Kd.N_drew HO_479001.out)
                 have n2_ := am_ (Kd.V_drew HO_488001.out)
                 have n3_ := am_ (Kd.N_drew HO_490001.out)
                 have n4_ := am_ (blk_drew BK478.out)
                 have n5_ := am_ (blk_drew BK487.out)
                 have n6_ := am_ (blk_drew BK489.out)
                 have n7_ := am_ (below_drew1 HB.out)
                 clear HO_5 HO_479001 HO_488001 HO_490001 BK478 BK487 BK489 HB; revert n0_ n1_ n2_ n3_ n4_ n5_ n6_ n7_; intro HO_5 HO_479001 HO_488001 HO_490001 BK478 BK487 BK489 HB
                 obtain ⟨Ao67, co67, eo67⟩ := Kd.N_slice HO_490001.out
                 (first | subst eo67 | (injection eo67 with f1_ f2_ f3_; have f4_ := f1_.symm; have f5_ := f3_.symm; clear f1_ f2_ f3_; subst f4_; subst f5_))
                 have p497 : 0 ≤ (x11_3 : Int) := da_
                 have q497 : x11_3 < (x490001_1.length : Int) := da_
                 obtain ⟨ad497, A497_0, c497_0, e497, hx497_0, hl497_0, hi497_0⟩ := at_L1 (Kd.N_reads' HO_490001.out).2.2 x11_3 p497 q497
                 cases e497
                 obtain ⟨ce497, hce497, hMe497, hcc497⟩ := Kd.N_get HO_490001.out [] x11_3 p497 (by first | exact q497 | exact da_ | (have e_ := (Kd.N_reads' HO_490001.out).1; omega))
                 obtain ⟨ua497_0, uc497_0, rfl, ul497_0, ge497_0⟩ := Kd.FK_slice_open hMe497
                 have hv497_0 := hcc497 0 _ rfl
                 rw [Nat.add_zero, show ((Kd.slice 2 (Kd.int .i64))).sz = 1 from rfl, Nat.mul_one] at hv497_0
                 replace hv497_0 := Option.some.inj (hv497_0.symm.trans hx497_0)
                 injection hv497_0 with hva_ hvn_ hvc_
                 rw [hva_] at ge497_0
                 rw [hvc_] at ul497_0
                 have HL497_0 := am_ (show Kd.V (Kd.int .i64) 2 _ w.heap.size _ _ (rd_L1 x490001_1 x11_3) from Kd.V_mk ul497_0 ge497_0)
                 clear hva_ hvn_ hvc_ ge497_0 ul497_0
                 clear hcc497 hce497
                 have HR497_0 := am_ hi497_0
                 have HC497_0 := am_ hl497_0
                 clear hi497_0 hl497_0
                 replace p497 := eq_true p497
                 replace q497 := eq_true q497
                 have p498 : 0 ≤ (x11_3 : Int) := da_
                 have q498 : x11_3 < (t480.length : Int) := da_
                 obtain ⟨ad498, A498_0, c498_0, e498, hx498_0, hl498_0, hi498_0⟩ := at_L1 (Kd.V_reads' HO_488001.out).2.2 x11_3 p498 q498
                 cases e498
                 obtain ⟨ce498, hce498, hMe498, hcc498⟩ := Kd.V_get HO_488001.out [] x11_3 p498 (by first | exact q498 | exact da_ | (have e_ := (Kd.V_reads' HO_488001.out).1; omega))
                 obtain ⟨ua498_0, uc498_0, rfl, ul498_0, ge498_0⟩ := Kd.FK_slice_open hMe498
                 have hv498_0 := hcc498 0 _ rfl
                 rw [Nat.add_zero, show ((Kd.slice 2 (Kd.int .i64))).sz = 1 from rfl, Nat.mul_one] at hv498_0
                 replace hv498_0 := Option.some.inj (hv498_0.symm.trans hx498_0)
                 injection hv498_0 with hva_ hvn_ hvc_
                 rw [hva_] at ge498_0
                 rw [hvc_] at ul498_0
                 have HL498_0 := am_ (show Kd.V (Kd.int .i64) 2 _ w.heap.size _ _ (rd_L1 t480 x11_3) from Kd.V_mk ul498_0 ge498_0)
                 clear hva_ hvn_ hvc_ ge498_0 ul498_0
                 clear hcc498 hce498
                 have HR498_0 := am_ hi498_0
                 have HC498_0 := am_ hl498_0
                 clear hi498_0 hl498_0
                 replace p498 := eq_true p498
                 replace q498 := eq_true q498
                 have p500 : 0 ≤ (x11_3 : Int) := da_
                 have q500 : x11_3 < (t480.length : Int) := da_
                 obtain ⟨ad500, A500_0, c500_0, e500, hx500_0, hl500_0, hi500_0⟩ := at_L1 (Kd.V_reads' HO_488001.out).2.2 x11_3 p500 q500
                 obtain rfl : ad498 = ad500 := (by injection e500)
                 obtain ⟨ce500, hce500, hMe500, hcc500⟩ := Kd.V_get HO_488001.out [] x11_3 p500 (by first | exact q500 | exact da_ | (have e_ := (Kd.V_reads' HO_488001.out).1; omega))
                 obtain ⟨ua500_0, uc500_0, rfl, ul500_0, ge500_0⟩ := Kd.FK_slice_open hMe500
                 have hv500_0 := hcc500 0 _ rfl
                 rw [Nat.add_zero, show ((Kd.slice 2 (Kd.int .i64))).sz = 1 from rfl, Nat.mul_one] at hv500_0
                 replace hv500_0 := Option.some.inj (hv500_0.symm.trans hx500_0)
                 injection hv500_0 with hva_ hvn_ hvc_
                 rw [hva_] at ge500_0
                 rw [hvc_] at ul500_0
                 have HL500_0 := am_ (show Kd.V (Kd.int .i64) 2 _ w.heap.size _ _ (rd_L1 t480 x11_3) from Kd.V_mk ul500_0 ge500_0)
                 clear hva_ hvn_ hvc_ ge500_0 ul500_0
                 clear hcc500 hce500
                 have HR500_0 := am_ hi500_0
                 have HC500_0 := am_ hl500_0
                 clear hi500_0 hl500_0
                 replace p500 := eq_true p500
                 replace q500 := eq_true q500
                 have ea_ := Option.some.inj (hx498_0.symm.trans hx500_0)
                 injection ea_ with ea_ en_ ec_
                 subst ea_
                 subst ec_
                 clear en_
                 refine start_ (n := 26) (S := fun w' => w'.cell? ⟨gb489, 0, none⟩ = some (.int .i64 x490000_1) ∧ w'.cell? ⟨gb489, 1, none⟩ = some (.slice (some ad497) x490001_1.length co67) ∧ w'.cell? ⟨gb487, 0, none⟩ = some (.int .i64 t479) ∧ w'.cell? ⟨gb487, 1, none⟩ = some (.slice (some ad498) t480.length co15) ∧ w'.cell? (ad497.add (x11_3).toNat) = some (.slice A497_0 (rd_L1 x490001_1 x11_3).length c497_0) ∧ w'.cell? (ad498.add (x11_3).toNat) = some (.slice A498_0 (rd_L1 t480 x11_3).length c498_0) ∧ w'.cell? (ad498.add (x11_3).toNat) = some (.slice A498_0 (rd_L1 t480 x11_3).length c498_0)) (ds := []) (bA_ 26 0) (by kernel_rfl) rfl (by kernel_rfl) ⟨bc_ BK489 0, bc_ BK489 1, bc_ BK487 0, bc_ BK487 1, hx497_0, hx498_0, hx500_0⟩ (fun hHeld => ?_); refine with_tabW laws_FnSimplify.tab20 laws_FnSimplify.bits20 (fun HT_ HW_ => ?_)
                 generalize wr.drew = w66 at HO_5 HO_479001 HO_488001 HO_490001 BK478 BK487 BK489 HB HL497_0 HL498_0 HL500_0 HR497_0 HR498_0 HR500_0 hx497_0 hx498_0 hx500_0 hHeld ⊢
                 refine pz_ 0 75 (bA_ 26 1) HT_ ?_
                 refine pz_ 2 77 (bA_ 26 5) HT_ ?_
                 refine pz_ 5 80 (bA_ 26 37) HT_ ?_
                 refine pz_ 7 82 (bA_ 26 165) HT_ ?_
                 refine tz_ 1 76 (bA_ 26 167) HT_ HW_ hHeld ?_
                 refine pz_ 3 78 (bA_ 26 175) HT_ ?_
                 refine tz_ 4 79 (bA_ 26 191) HT_ HW_ hHeld ?_
                 refine tz_ 6 81 (bA_ 26 255) HT_ HW_ hHeld ?_
                 refine pz_ 8 83 (bA_ 26 511) HT_ ?_
                 refine tz_ 9 84 (bA_ 26 1023) HT_ HW_ hHeld ?_
                 refine oz_ 10 85 (bA_ 26 2047) HT_ (fun K hK => ?_)
                 refine goes_ Try.func36 (by kernel_rfl) rfl #[.slice A497_0 (rd_L1 x490001_1 x11_3).length c497_0, .slice A498_0 (rd_L1 t480 x11_3).length c498_0] (by rfl) rfl rfl lm_ ?_
                 with_reducible refine (laws_likeInts.calls k3 _ _ (rd_L1 x490001_1 x11_3) _ _ (rd_L1 t480 x11_3) true _ ?side1 ?side2 ?side3 ?side4 A63.out).mono ?_
                 (case side1 => repeat (first | exact (by repeat (first | (with_reducible exact HR497_0.out) | (with_reducible refine Kd.C_alloc ?_ _) | (with_reducible refine Kd.C_drewN ?_ _) | (with_reducible refine Kd.C_drew ?_) | exact HR497_0.out)) | (with_reducible refine Kd.C_alloc ?_ _) | (with_reducible refine Kd.C_drewN ?_ _) | (with_reducible refine Kd.C_drew ?_)))
                 (case side2 => exact HC497_0.out)
                 (case side3 => repeat (first | exact (by repeat (first | (with_reducible exact HR498_0.out) | (with_reducible refine Kd.C_alloc ?_ _) | (with_reducible refine Kd.C_drewN ?_ _) | (with_reducible refine Kd.C_drew ?_) | exact HR498_0.out)) | (with_reducible refine Kd.C_alloc ?_ _) | (with_reducible refine Kd.C_drewN ?_ _) | (with_reducible refine Kd.C_drew ?_)))
                 (case side4 => exact HC498_0.out)
                 rintro e w' ⟨rfl, ⟨nd, rfl⟩⟩
                 refine ⟨_, rfl, ?_⟩
                 refine hK.out _ _ ⟨bc_ BK489 0, bc_ BK489 1, bc_ BK487 0, bc_ BK487 1, hHeld.2.2.2.2.1, hHeld.2.2.2.2.2.1, hHeld.2.2.2.2.2.2⟩ (fun hHeld => ?_)
                 clear hK K
                 refine nm_ 85 ?_
                 refine pz_ 11 86 (bA_ 26 4095) HT_ ?_
                 refine pz_ 12 87 (bA_ 26 8191) HT_ ?_
                 refine pz_ 13 88 (bA_ 26 16383) HT_ ?_
                 refine pz_ 15 90 (bA_ 26 49151) HT_ ?_
                 refine tz_ 14 89 (bA_ 26 65535) HT_ HW_ hHeld ?_
                 refine pz_ 16 91 (bA_ 26 131071) HT_ ?_
                 refine tz_ 17 92 (bA_ 26 262143) HT_ HW_ hHeld ?_
                 refine pz_ 18 93 (bA_ 26 524287) HT_ ?_
                 refine pz_ 19 94 (bA_ 26 1048575) HT_ ?_
                 refine pz_ 20 95 (bA_ 26 2097151) HT_ ?_
                 refine pz_ 21 96 (bA_ 26 4194303) HT_ ?_
                 refine pz_ 22 97 (bA_ 26 8388607) HT_ ?_
                 refine pz_ 23 98 (bA_ 26 16777215) HT_ ?_
                 refine pz_ 24 99 (bA_ 26 33554431) HT_ ?_
                 refine pz_ 25 100 (bA_ 26 67108863) HT_ ?_
                 refine done_ (done_of HT_.out (by kernel_rfl)) ?_
                 try go_wp2
                 go_meet
                 case rel => exact ⟨_, (decide ((t483.length : Int) < 200)), (by first | rfl | (simp; done) | (simp [*]; done)), H', ⟨by have := HK1.out; have := HJ40.out; have := HK3.out; first | omega | exact Nat.le_refl _⟩, ⟨Nx_ HO_5.out⟩, ⟨Nx_ HO_479001.out⟩, ⟨Vx_ HO_488001.out⟩, ⟨Nx_ HO_490001.out⟩, ⟨bk_ BK478.out⟩, ⟨bk_ BK487.out⟩, ⟨bk_ BK489.out⟩, ⟨bb_ HB.out⟩⟩
                ·rw [if_neg c65] at H
                 have c65b0 : (((rd_L1 t480 x11_3).length : Int) == 0) = false := beq_eq_false_iff_ne.mpr c65
                 have c65b1 : (((rd_L1 t480 x11_3).length : Int) != 0) = true := bne_iff_ne.mpr c65
                 have c65b2 : ¬ ((rd_L1 t480 x11_3) = []) := fun h_ => c65 (by rw [h_]; rfl)
                 have H' := am_ H
                 clear H
                 try go_wp2
                 have n0_ := am_ (Kd.N_drew HO_5.out)
                 have n1_ := am_ (Kd.N_drew HO_479001.out)
                 have n2_ := am_ (Kd.V_drew HO_488001.out)
                 have n3_ := am_ (Kd.N_drew HO_490001.out)
                 have n4_ := am_ (blk_drew BK478.out)
                 have n5_ := am_ (blk_drew BK487.out)
                 have n6_ := am_ (blk_drew BK489.out)
                 have n7_ := am_ (below_drew1 HB.out)
                 clear HO_5 HO_479001 HO_488001 HO_490001 BK478 BK487 BK489 HB; revert n0_ n1_ n2_ n3_ n4_ n5_ n6_ n7_; intro HO_5 HO_479001 HO_488001 HO_490001 BK478 BK487 BK489 HB
                 obtain ⟨Ao69, co69, eo69⟩ := Kd.N_slice HO_490001.out
                 (first | subst eo69 | (injection eo69 with f1_ f2_ f3_; have f4_ := f1_.symm; have f5_ := f3_.symm; clear f1_ f2_ f3_; subst f4_; subst f5_))
                 have p497 : 0 ≤ (x11_3 : Int) := da_
                 have q497 : x11_3 < (x490001_1.length : Int) := da_
                 obtain ⟨ad497, A497_0, c497_0, e497, hx497_0, hl497_0, hi497_0⟩ := at_L1 (Kd.N_reads' HO_490001.out).2.2 x11_3 p497 q497
                 cases e497
                 obtain ⟨ce497, hce497, hMe497, hcc497⟩ := Kd.N_get HO_490001.out [] x11_3 p497 (by first | exact q497 | exact da_ | (have e_ := (Kd.N_reads' HO_490001.out).1; omega))
                 obtain ⟨ua497_0, uc497_0, rfl, ul497_0, ge497_0⟩ := Kd.FK_slice_open hMe497
                 have hv497_0 := hcc497 0 _ rfl
                 rw [Nat.add_zero, show ((Kd.slice 2 (Kd.int .i64))).sz = 1 from rfl, Nat.mul_one] at hv497_0
                 replace hv497_0 := Option.some.inj (hv497_0.symm.trans hx497_0)
                 injection hv497_0 with hva_ hvn_ hvc_
                 rw [hva_] at ge497_0
                 rw [hvc_] at ul497_0
                 have HL497_0 := am_ (show Kd.V (Kd.int .i64) 2 _ w.heap.size _ _ (rd_L1 x490001_1 x11_3) from Kd.V_mk ul497_0 ge497_0)
                 clear hva_ hvn_ hvc_ ge497_0 ul497_0
                 clear hcc497 hce497
                 have HR497_0 := am_ hi497_0
                 have HC497_0 := am_ hl497_0
                 clear hi497_0 hl497_0
                 replace p497 := eq_true p497
                 replace q497 := eq_true q497
                 have p498 : 0 ≤ (x11_3 : Int) := da_
                 have q498 : x11_3 < (t480.length : Int) := da_
                 obtain ⟨ad498, A498_0, c498_0, e498, hx498_0, hl498_0, hi498_0⟩ := at_L1 (Kd.V_reads' HO_488001.out).2.2 x11_3 p498 q498
                 cases e498
                 obtain ⟨ce498, hce498, hMe498, hcc498⟩ := Kd.V_get HO_488001.out [] x11_3 p498 (by first | exact q498 | exact da_ | (have e_ := (Kd.V_reads' HO_488001.out).1; omega))
                 obtain ⟨ua498_0, uc498_0, rfl, ul498_0, ge498_0⟩ := Kd.FK_slice_open hMe498
                 have hv498_0 := hcc498 0 _ rfl
                 rw [Nat.add_zero, show ((Kd.slice 2 (Kd.int .i64))).sz = 1 from rfl, Nat.mul_one] at hv498_0
                 replace hv498_0 := Option.some.inj (hv498_0.symm.trans hx498_0)
                 injection hv498_0 with hva_ hvn_ hvc_
                 rw [hva_] at ge498_0
                 rw [hvc_] at ul498_0
                 have HL498_0 := am_ (show Kd.V (Kd.int .i64) 2 _ w.heap.size _ _ (rd_L1 t480 x11_3) from Kd.V_mk ul498_0 ge498_0)
                 clear hva_ hvn_ hvc_ ge498_0 ul498_0
                 clear hcc498 hce498
                 have HR498_0 := am_ hi498_0
                 have HC498_0 := am_ hl498_0
                 clear hi498_0 hl498_0
                 replace p498 := eq_true p498
                 replace q498 := eq_true q498
                 have p500 : 0 ≤ (x11_3 : Int) := da_
                 have q500 : x11_3 < (t480.length : Int) := da_
                 obtain ⟨ad500, A500_0, c500_0, e500, hx500_0, hl500_0, hi500_0⟩ := at_L1 (Kd.V_reads' HO_488001.out).2.2 x11_3 p500 q500
                 obtain rfl : ad498 = ad500 := (by injection e500)
                 obtain ⟨ce500, hce500, hMe500, hcc500⟩ := Kd.V_get HO_488001.out [] x11_3 p500 (by first | exact q500 | exact da_ | (have e_ := (Kd.V_reads' HO_488001.out).1; omega))
                 obtain ⟨ua500_0, uc500_0, rfl, ul500_0, ge500_0⟩ := Kd.FK_slice_open hMe500
                 have hv500_0 := hcc500 0 _ rfl
                 rw [Nat.add_zero, show ((Kd.slice 2 (Kd.int .i64))).sz = 1 from rfl, Nat.mul_one] at hv500_0
                 replace hv500_0 := Option.some.inj (hv500_0.symm.trans hx500_0)
                 injection hv500_0 with hva_ hvn_ hvc_
                 rw [hva_] at ge500_0
                 rw [hvc_] at ul500_0
                 have HL500_0 := am_ (show Kd.V (Kd.int .i64) 2 _ w.heap.size _ _ (rd_L1 t480 x11_3) from Kd.V_mk ul500_0 ge500_0)
                 clear hva_ hvn_ hvc_ ge500_0 ul500_0
                 clear hcc500 hce500
                 have HR500_0 := am_ hi500_0
                 have HC500_0 := am_ hl500_0
                 clear hi500_0 hl500_0
                 replace p500 := eq_true p500
                 replace q500 := eq_true q500
                 have ea_ := Option.some.inj (hx498_0.symm.trans hx500_0)
                 injection ea_ with ea_ en_ ec_
                 subst ea_
                 subst ec_
                 clear en_
                 refine start_ (n := 26) (S := fun w' => w'.cell? ⟨gb489, 0, none⟩ = some (.int .i64 x490000_1) ∧ w'.cell? ⟨gb489, 1, none⟩ = some (.slice (some ad497) x490001_1.length co69) ∧ w'.cell? ⟨gb487, 0, none⟩ = some (.int .i64 t479) ∧ w'.cell? ⟨gb487, 1, none⟩ = some (.slice (some ad498) t480.length co15) ∧ w'.cell? (ad497.add (x11_3).toNat) = some (.slice A497_0 (rd_L1 x490001_1 x11_3).length c497_0) ∧ w'.cell? (ad498.add (x11_3).toNat) = some (.slice A498_0 (rd_L1 t480 x11_3).length c498_0) ∧ w'.cell? (ad498.add (x11_3).toNat) = some (.slice A498_0 (rd_L1 t480 x11_3).length c498_0)) (ds := []) (bA_ 26 0) (by kernel_rfl) rfl (by kernel_rfl) ⟨bc_ BK489 0, bc_ BK489 1, bc_ BK487 0, bc_ BK487 1, hx497_0, hx498_0, hx500_0⟩ (fun hHeld => ?_); refine with_tabW laws_FnSimplify.tab20 laws_FnSimplify.bits20 (fun HT_ HW_ => ?_)
                 generalize wr.drew = w68 at HO_5 HO_479001 HO_488001 HO_490001 BK478 BK487 BK489 HB HL497_0 HL498_0 HL500_0 HR497_0 HR498_0 HR500_0 hx497_0 hx498_0 hx500_0 hHeld ⊢
                 refine pz_ 0 75 (bA_ 26 1) HT_ ?_
                 refine pz_ 2 77 (bA_ 26 5) HT_ ?_
                 refine pz_ 5 80 (bA_ 26 37) HT_ ?_
                 refine pz_ 7 82 (bA_ 26 165) HT_ ?_
                 refine tz_ 1 76 (bA_ 26 167) HT_ HW_ hHeld ?_
                 refine pz_ 3 78 (bA_ 26 175) HT_ ?_
                 refine tz_ 4 79 (bA_ 26 191) HT_ HW_ hHeld ?_
                 refine tz_ 6 81 (bA_ 26 255) HT_ HW_ hHeld ?_
                 refine pz_ 8 83 (bA_ 26 511) HT_ ?_
                 refine tz_ 9 84 (bA_ 26 1023) HT_ HW_ hHeld ?_
                 refine oz_ 10 85 (bA_ 26 2047) HT_ (fun K hK => ?_)
                 refine goes_ Try.func36 (by kernel_rfl) rfl #[.slice A497_0 (rd_L1 x490001_1 x11_3).length c497_0, .slice A498_0 (rd_L1 t480 x11_3).length c498_0] (by rfl) rfl rfl lm_ ?_
                 with_reducible refine (laws_likeInts.calls k3 _ _ (rd_L1 x490001_1 x11_3) _ _ (rd_L1 t480 x11_3) true _ ?side1 ?side2 ?side3 ?side4 A63.out).mono ?_
                 (case side1 => repeat (first | exact (by repeat (first | (with_reducible exact HR497_0.out) | (with_reducible refine Kd.C_alloc ?_ _) | (with_reducible refine Kd.C_drewN ?_ _) | (with_reducible refine Kd.C_drew ?_) | exact HR497_0.out)) | (with_reducible refine Kd.C_alloc ?_ _) | (with_reducible refine Kd.C_drewN ?_ _) | (with_reducible refine Kd.C_drew ?_)))
                 (case side2 => exact HC497_0.out)
                 (case side3 => repeat (first | exact (by repeat (first | (with_reducible exact HR498_0.out) | (with_reducible refine Kd.C_alloc ?_ _) | (with_reducible refine Kd.C_drewN ?_ _) | (with_reducible refine Kd.C_drew ?_) | exact HR498_0.out)) | (with_reducible refine Kd.C_alloc ?_ _) | (with_reducible refine Kd.C_drewN ?_ _) | (with_reducible refine Kd.C_drew ?_)))
                 (case side4 => exact HC498_0.out)
                 rintro e w' ⟨rfl, ⟨nd, rfl⟩⟩
                 refine ⟨_, rfl, ?_⟩
                 refine hK.out _ _ ⟨bc_ BK489 0, bc_ BK489 1, bc_ BK487 0, bc_ BK487 1, hHeld.2.2.2.2.1, hHeld.2.2.2.2.2.1, hHeld.2.2.2.2.2.2⟩ (fun hHeld => ?_)
                 clear hK K
                 refine nm_ 85 ?_
                 refine pz_ 11 86 (bA_ 26 4095) HT_ ?_
                 refine pz_ 12 87 (bA_ 26 8191) HT_ ?_
                 refine pz_ 13 88 (bA_ 26 16383) HT_ ?_
                 refine pz_ 15 90 (bA_ 26 49151) HT_ ?_
                 refine tz_ 14 89 (bA_ 26 65535) HT_ HW_ hHeld ?_
                 refine pz_ 16 91 (bA_ 26 131071) HT_ ?_
                 refine tz_ 17 92 (bA_ 26 262143) HT_ HW_ hHeld ?_
                 refine pz_ 18 93 (bA_ 26 524287) HT_ ?_
                 refine pz_ 19 94 (bA_ 26 1048575) HT_ ?_
                 refine pz_ 20 95 (bA_ 26 2097151) HT_ ?_
                 refine pu_ 21 96 (bA_ 26 4194303) HT_ ?_
                 refine pu_ 22 97 (bA_ 26 8388607) HT_ ?_
                 refine pu_ 23 98 (bA_ 26 16777215) HT_ ?_
                 refine pz_ 24 99 (bA_ 26 33554431) HT_ ?_
                 refine pz_ 25 100 (bA_ 26 67108863) HT_ ?_
                 refine done_ (done_of HT_.out (by kernel_rfl)) ?_
                 try go_wp2
                 go_meet
                 case rel => exact ⟨_, (false), (by first | rfl | (simp; done) | (simp [*]; done)), H', ⟨by have := HK1.out; have := HJ40.out; have := HK3.out; first | omega | exact Nat.le_refl _⟩, ⟨Nx_ HO_5.out⟩, ⟨Nx_ HO_479001.out⟩, ⟨Vx_ HO_488001.out⟩, ⟨Nx_ HO_490001.out⟩, ⟨bk_ BK478.out⟩, ⟨bk_ BK487.out⟩, ⟨bk_ BK489.out⟩, ⟨bb_ HB.out⟩⟩
               ·replace c64 := Bool.eq_false_iff.mpr c64
                subst c64
                have H1 : (laws_FnSimplify.j3 k3 t483 x11_3 true t474 t475 t479 t480 x490000_1 x490001_1) = some r := by rw [if_neg (show ¬ (false = true) by decide)] at H; exact H
                clear H
                have H := H1
                clear H1
                have H' := am_ H
                clear H
                try go_wp2
                have n0_ := am_ (Kd.N_drew HO_5.out)
                have n1_ := am_ (Kd.N_drew HO_479001.out)
                have n2_ := am_ (Kd.V_drew HO_488001.out)
                have n3_ := am_ (Kd.N_drew HO_490001.out)
                have n4_ := am_ (blk_drew BK478.out)
                have n5_ := am_ (blk_drew BK487.out)
                have n6_ := am_ (blk_drew BK489.out)
                have n7_ := am_ (below_drew1 HB.out)
                clear HO_5 HO_479001 HO_488001 HO_490001 BK478 BK487 BK489 HB; revert n0_ n1_ n2_ n3_ n4_ n5_ n6_ n7_; intro HO_5 HO_479001 HO_488001 HO_490001 BK478 BK487 BK489 HB
                obtain ⟨Ao71, co71, eo71⟩ := Kd.N_slice HO_490001.out
                (first | subst eo71 | (injection eo71 with f1_ f2_ f3_; have f4_ := f1_.symm; have f5_ := f3_.symm; clear f1_ f2_ f3_; subst f4_; subst f5_))
                have p497 : 0 ≤ (x11_3 : Int) := da_
                have q497 : x11_3 < (x490001_1.length : Int) := da_
                obtain ⟨ad497, A497_0, c497_0, e497, hx497_0, hl497_0, hi497_0⟩ := at_L1 (Kd.N_reads' HO_490001.out).2.2 x11_3 p497 q497
                cases e497
                obtain ⟨ce497, hce497, hMe497, hcc497⟩ := Kd.N_get HO_490001.out [] x11_3 p497 (by first | exact q497 | exact da_ | (have e_ := (Kd.N_reads' HO_490001.out).1; omega))
                obtain ⟨ua497_0, uc497_0, rfl, ul497_0, ge497_0⟩ := Kd.FK_slice_open hMe497
                have hv497_0 := hcc497 0 _ rfl
                rw [Nat.add_zero, show ((Kd.slice 2 (Kd.int .i64))).sz = 1 from rfl, Nat.mul_one] at hv497_0
                replace hv497_0 := Option.some.inj (hv497_0.symm.trans hx497_0)
                injection hv497_0 with hva_ hvn_ hvc_
                rw [hva_] at ge497_0
                rw [hvc_] at ul497_0
                have HL497_0 := am_ (show Kd.V (Kd.int .i64) 2 _ w.heap.size _ _ (rd_L1 x490001_1 x11_3) from Kd.V_mk ul497_0 ge497_0)
                clear hva_ hvn_ hvc_ ge497_0 ul497_0
                clear hcc497 hce497
                have HR497_0 := am_ hi497_0
                have HC497_0 := am_ hl497_0
                clear hi497_0 hl497_0
                replace p497 := eq_true p497
                replace q497 := eq_true q497
                have p498 : 0 ≤ (x11_3 : Int) := da_
                have q498 : x11_3 < (t480.length : Int) := da_
                obtain ⟨ad498, A498_0, c498_0, e498, hx498_0, hl498_0, hi498_0⟩ := at_L1 (Kd.V_reads' HO_488001.out).2.2 x11_3 p498 q498
                cases e498
                obtain ⟨ce498, hce498, hMe498, hcc498⟩ := Kd.V_get HO_488001.out [] x11_3 p498 (by first | exact q498 | exact da_ | (have e_ := (Kd.V_reads' HO_488001.out).1; omega))
                obtain ⟨ua498_0, uc498_0, rfl, ul498_0, ge498_0⟩ := Kd.FK_slice_open hMe498
                have hv498_0 := hcc498 0 _ rfl
                rw [Nat.add_zero, show ((Kd.slice 2 (Kd.int .i64))).sz = 1 from rfl, Nat.mul_one] at hv498_0
                replace hv498_0 := Option.some.inj (hv498_0.symm.trans hx498_0)
                injection hv498_0 with hva_ hvn_ hvc_
                rw [hva_] at ge498_0
                rw [hvc_] at ul498_0
                have HL498_0 := am_ (show Kd.V (Kd.int .i64) 2 _ w.heap.size _ _ (rd_L1 t480 x11_3) from Kd.V_mk ul498_0 ge498_0)
                clear hva_ hvn_ hvc_ ge498_0 ul498_0
                clear hcc498 hce498
                have HR498_0 := am_ hi498_0
                have HC498_0 := am_ hl498_0
                clear hi498_0 hl498_0
                replace p498 := eq_true p498
                replace q498 := eq_true q498
                refine start_ (n := 26) (S := fun w' => w'.cell? ⟨gb489, 0, none⟩ = some (.int .i64 x490000_1) ∧ w'.cell? ⟨gb489, 1, none⟩ = some (.slice (some ad497) x490001_1.length co71) ∧ w'.cell? ⟨gb487, 0, none⟩ = some (.int .i64 t479) ∧ w'.cell? ⟨gb487, 1, none⟩ = some (.slice (some ad498) t480.length co15) ∧ w'.cell? (ad497.add (x11_3).toNat) = some (.slice A497_0 (rd_L1 x490001_1 x11_3).length c497_0) ∧ w'.cell? (ad498.add (x11_3).toNat) = some (.slice A498_0 (rd_L1 t480 x11_3).length c498_0)) (ds := []) (bA_ 26 0) (by kernel_rfl) rfl (by kernel_rfl) ⟨bc_ BK489 0, bc_ BK489 1, bc_ BK487 0, bc_ BK487 1, hx497_0, hx498_0⟩ (fun hHeld => ?_); refine with_tabW laws_FnSimplify.tab20 laws_FnSimplify.bits20 (fun HT_ HW_ => ?_)
                generalize wr.drew = w70 at HO_5 HO_479001 HO_488001 HO_490001 BK478 BK487 BK489 HB HL497_0 HL498_0 HR497_0 HR498_0 hx497_0 hx498_0 hHeld ⊢
                refine pz_ 0 75 (bA_ 26 1) HT_ ?_
                refine pz_ 2 77 (bA_ 26 5) HT_ ?_
                refine pz_ 5 80 (bA_ 26 37) HT_ ?_
                refine pz_ 7 82 (bA_ 26 165) HT_ ?_
                refine tz_ 1 76 (bA_ 26 167) HT_ HW_ hHeld ?_
                refine pz_ 3 78 (bA_ 26 175) HT_ ?_
                refine tz_ 4 79 (bA_ 26 191) HT_ HW_ hHeld ?_
                refine tz_ 6 81 (bA_ 26 255) HT_ HW_ hHeld ?_
                refine pz_ 8 83 (bA_ 26 511) HT_ ?_
                refine tz_ 9 84 (bA_ 26 1023) HT_ HW_ hHeld ?_
                refine oz_ 10 85 (bA_ 26 2047) HT_ (fun K hK => ?_)
                refine goes_ Try.func36 (by kernel_rfl) rfl #[.slice A497_0 (rd_L1 x490001_1 x11_3).length c497_0, .slice A498_0 (rd_L1 t480 x11_3).length c498_0] (by rfl) rfl rfl lm_ ?_
                with_reducible refine (laws_likeInts.calls k3 _ _ (rd_L1 x490001_1 x11_3) _ _ (rd_L1 t480 x11_3) false _ ?side1 ?side2 ?side3 ?side4 A63.out).mono ?_
                (case side1 => repeat (first | exact (by repeat (first | (with_reducible exact HR497_0.out) | (with_reducible refine Kd.C_alloc ?_ _) | (with_reducible refine Kd.C_drewN ?_ _) | (with_reducible refine Kd.C_drew ?_) | exact HR497_0.out)) | (with_reducible refine Kd.C_alloc ?_ _) | (with_reducible refine Kd.C_drewN ?_ _) | (with_reducible refine Kd.C_drew ?_)))
                (case side2 => exact HC497_0.out)
                (case side3 => repeat (first | exact (by repeat (first | (with_reducible exact HR498_0.out) | (with_reducible refine Kd.C_alloc ?_ _) | (with_reducible refine Kd.C_drewN ?_ _) | (with_reducible refine Kd.C_drew ?_) | exact HR498_0.out)) | (with_reducible refine Kd.C_alloc ?_ _) | (with_reducible refine Kd.C_drewN ?_ _) | (with_reducible refine Kd.C_drew ?_)))
                (case side4 => exact HC498_0.out)
                rintro e w' ⟨rfl, ⟨nd, rfl⟩⟩
                refine ⟨_, rfl, ?_⟩
                refine hK.out _ _ ⟨bc_ BK489 0, bc_ BK489 1, bc_ BK487 0, bc_ BK487 1, hHeld.2.2.2.2.1, hHeld.2.2.2.2.2⟩ (fun hHeld => ?_)
                clear hK K
                refine nm_ 85 ?_
                refine pz_ 11 86 (bA_ 26 4095) HT_ ?_
                refine pz_ 12 87 (bA_ 26 8191) HT_ ?_
                refine pu_ 13 88 (bA_ 26 16383) HT_ ?_
                refine pu_ 14 89 (bA_ 26 32767) HT_ ?_
                refine pu_ 15 90 (bA_ 26 65535) HT_ ?_
                refine pu_ 16 91 (bA_ 26 131071) HT_ ?_
                refine pu_ 17 92 (bA_ 26 262143) HT_ ?_
                refine pu_ 18 93 (bA_ 26 524287) HT_ ?_
                refine pu_ 19 94 (bA_ 26 1048575) HT_ ?_
                refine pu_ 20 95 (bA_ 26 2097151) HT_ ?_
                refine pu_ 21 96 (bA_ 26 4194303) HT_ ?_
                refine pu_ 22 97 (bA_ 26 8388607) HT_ ?_
                refine pu_ 23 98 (bA_ 26 16777215) HT_ ?_
                refine pu_ 24 99 (bA_ 26 33554431) HT_ ?_
                refine pz_ 25 100 (bA_ 26 67108863) HT_ ?_
                refine done_ (done_of HT_.out (by kernel_rfl)) ?_
                try go_wp2
                go_meet
                case rel => exact ⟨_, (true), (by first | rfl | (simp; done) | (simp [*]; done)), H', ⟨by have := HK1.out; have := HJ40.out; have := HK3.out; first | omega | exact Nat.le_refl _⟩, ⟨Nx_ HO_5.out⟩, ⟨Nx_ HO_479001.out⟩, ⟨Vx_ HO_488001.out⟩, ⟨Nx_ HO_490001.out⟩, ⟨bk_ BK478.out⟩, ⟨bk_ BK487.out⟩, ⟨bk_ BK489.out⟩, ⟨bb_ HB.out⟩⟩
              ·rw [if_neg c62] at H
               exact absurd H (by simp)
             ·rw [if_neg c61] at H
              exact absurd H (by simp)
            case rest =>
             clear HC57
             try clear p2
             try clear c3
             try clear c4
             try clear p4
             try clear q4
             try clear hx4
             try clear c5
             try clear p5
             try clear q5
             try clear hx5
             try clear c6
             try clear c36
             try clear c49
             try clear p49
             try clear q49
             try clear hx49
             try clear c50
             try clear p50
             try clear q50
             try clear hx50
             try clear c61
             try clear c62
             try clear c64
             try clear c65
             try clear c65b0
             try clear c65b1
             try clear c65b2
             try clear hx497_0
             try clear hx498_0
             try clear hx500_0
             try clear p497
             try clear p498
             try clear p500
             try clear q497
             try clear q498
             try clear q500
             obtain ⟨kq, x100_56, rfl, HA, HJ56, HO_5, HO_479001, HO_488001, HO_490001, BK478, BK487, BK489, HB⟩ := hcut
             cases kq with
             | zero => exact absurd HA.out (by simp [laws_FnSimplify.j3])
             | succ kj56 =>
              have H := HA.out
              clear HA
              simp only [laws_FnSimplify.j3] at H
              by_cases c72 : x100_56 = true
              ·subst c72
               have H1 : (some false) = some r := by rw [if_pos rfl] at H; exact H
               clear H
               have H := H1
               clear H1
               exact absurd ((Option.some.inj H).trans HTRUE_.out) (by simp)
              ·replace c72 := Bool.eq_false_iff.mpr c72
               subst c72
               have H1 : (laws_FnSimplify.l2 kj56 t483 x11_3 1 t474 t475 t479 t480 x490000_1 x490001_1) = some r := by rw [if_neg (show ¬ (false = true) by decide)] at H; exact H
               clear H
               have H := H1
               clear H1
               have H' := am_ H
               clear H
               go_wp2
               go_loopg [12] kj56 (fun kq v12 w' => ∃ (x12_5 : Int), v12 = .int .i64 x12_5 ∧ Aside0 (laws_FnSimplify.l2 kq t483 x11_3 x12_5 t474 t475 t479 t480 x490000_1 x490001_1 = some r) ∧ Aside0 (kq ≤ kj56) ∧ Aside0 (Kd.N k44 44 w' w.heap.size (fun k_ => some k_ ≠ ((.slice Ao10 t475.length co10) : Value).ownBlock ∧ some k_ ≠ (u490001 : Value).ownBlock ∧ k_ ≠ gb478 ∧ k_ ≠ gb487 ∧ k_ ≠ gb489) (.slice Ao42 t483.length co42) t483) ∧ Aside0 (Kd.N (Kd.slice 2 (Kd.int .i64)) 39 w' w.heap.size (fun k_ => some k_ ≠ ((.slice Ao42 t483.length co42) : Value).ownBlock ∧ k_ ≠ gb478 ∧ k_ ≠ gb487 ∧ k_ ≠ gb489) (.slice Ao10 t475.length co10) t475) ∧ Aside0 (Kd.V (Kd.slice 2 (Kd.int .i64)) 39 w' w.heap.size (fun k_ => some k_ ≠ ((.slice Ao42 t483.length co42) : Value).ownBlock ∧ some k_ ≠ ((.slice Ao10 t475.length co10) : Value).ownBlock ∧ some k_ ≠ (u490001 : Value).ownBlock ∧ k_ ≠ gb478 ∧ k_ ≠ gb487 ∧ k_ ≠ gb489) (.slice Ao15 t480.length co15) t480) ∧ Aside0 (Kd.N (Kd.slice 2 (Kd.int .i64)) 39 w' w.heap.size (fun k_ => some k_ ≠ ((.slice Ao42 t483.length co42) : Value).ownBlock ∧ k_ ≠ gb478 ∧ k_ ≠ gb487 ∧ k_ ≠ gb489) u490001 x490001_1) ∧ Aside0 (w'.heap[gb478]? = some (.cells #[.int .i64 t474, (.slice Ao10 t475.length co10)] 28 (0, 0))) ∧ Aside0 (w'.heap[gb487]? = some (.cells #[.int .i64 t479, (.slice Ao15 t480.length co15)] 28 (0, 0))) ∧ Aside0 (w'.heap[gb489]? = some (.cells #[.int .i64 x490000_1, u490001] 28 (0, 0))) ∧ Aside0 (Below w.heap.size w w'))
               case atStart => exact ⟨(1), (by first | rfl | (simp; done) | (simp [*]; done)), H', ⟨Nat.le_refl _⟩, ⟨Nx_ HO_5.out⟩, ⟨Nx_ HO_479001.out⟩, ⟨Vx_ HO_488001.out⟩, ⟨Nx_ HO_490001.out⟩, ⟨bk_ BK478.out⟩, ⟨bk_ BK487.out⟩, ⟨bk_ BK489.out⟩, ⟨bb_ HB.out⟩⟩
               case round =>
                clear H'
                try clear p2
                try clear c3
                try clear c4
                try clear p4
                try clear q4
                try clear hx4
                try clear c5
                try clear p5
                try clear q5
                try clear hx5
                try clear c6
                try clear c7
                try clear c36
                try clear c49
                try clear p49
                try clear q49
                try clear hx49
                try clear c50
                try clear p50
                try clear q50
                try clear hx50
                try clear c61
                try clear c62
                try clear c64
                try clear c65
                try clear c65b0
                try clear c65b1
                try clear c65b2
                try clear c72
                try clear hx497_0
                try clear hx498_0
                try clear hx500_0
                try clear p2
                try clear p4
                try clear p49
                try clear p497
                try clear p498
                try clear p5
                try clear p50
                try clear p500
                try clear q4
                try clear q49
                try clear q497
                try clear q498
                try clear q5
                try clear q50
                try clear q500
                obtain ⟨x12_5, rfl, HA, HK5, HO_5, HO_479001, HO_488001, HO_490001, BK478, BK487, BK489, HB⟩ := hrel
                cases gk with
                | zero => exact absurd HA.out (by simp [laws_FnSimplify.l2])
                | succ k5 =>
                 have H := HA.out
                 clear HA
                 simp only [laws_FnSimplify.l2] at H
                 have HC73 := am_ H
                 clear H
                 go_upto_region 23 with (fail)
                 go_cut [109] (fun v109 wc => ∃ (kq : Nat) (x109_72 : Bool), v109 = .bool x109_72 ∧ Aside0 (laws_FnSimplify.j5 kq t483 x11_3 x12_5 x109_72 t474 t475 t479 t480 x490000_1 x490001_1 = some r) ∧ Aside0 (kq ≤ k5) ∧ Aside0 (Kd.N k44 44 wc w.heap.size (fun k_ => some k_ ≠ ((.slice Ao10 t475.length co10) : Value).ownBlock ∧ some k_ ≠ (u490001 : Value).ownBlock ∧ k_ ≠ gb478 ∧ k_ ≠ gb487 ∧ k_ ≠ gb489) (.slice Ao42 t483.length co42) t483) ∧ Aside0 (Kd.N (Kd.slice 2 (Kd.int .i64)) 39 wc w.heap.size (fun k_ => some k_ ≠ ((.slice Ao42 t483.length co42) : Value).ownBlock ∧ k_ ≠ gb478 ∧ k_ ≠ gb487 ∧ k_ ≠ gb489) (.slice Ao10 t475.length co10) t475) ∧ Aside0 (Kd.V (Kd.slice 2 (Kd.int .i64)) 39 wc w.heap.size (fun k_ => some k_ ≠ ((.slice Ao42 t483.length co42) : Value).ownBlock ∧ some k_ ≠ ((.slice Ao10 t475.length co10) : Value).ownBlock ∧ some k_ ≠ (u490001 : Value).ownBlock ∧ k_ ≠ gb478 ∧ k_ ≠ gb487 ∧ k_ ≠ gb489) (.slice Ao15 t480.length co15) t480) ∧ Aside0 (Kd.N (Kd.slice 2 (Kd.int .i64)) 39 wc w.heap.size (fun k_ => some k_ ≠ ((.slice Ao42 t483.length co42) : Value).ownBlock ∧ k_ ≠ gb478 ∧ k_ ≠ gb487 ∧ k_ ≠ gb489) u490001 x490001_1) ∧ Aside0 (wc.heap[gb478]? = some (.cells #[.int .i64 t474, (.slice Ao10 t475.length co10)] 28 (0, 0))) ∧ Aside0 (wc.heap[gb487]? = some (.cells #[.int .i64 t479, (.slice Ao15 t480.length co15)] 28 (0, 0))) ∧ Aside0 (wc.heap[gb489]? = some (.cells #[.int .i64 x490000_1, u490001] 28 (0, 0))) ∧ Aside0 (Below w.heap.size w wc))
                 case first =>
                  have H := HC73.out
                  clear HC73
                  by_cases c74 : x12_5 ≤ t479
                  ·rw [if_pos c74] at H
                   have c74b0 : decide (x12_5 ≤ t479) = true := decide_eq_true c74
                   clear c74
                   (first | rw [c74b0] | (simp only [i64_w, i32_w]; rw [c74b0]) | skip)
                   have H' := am_ H
                   clear H
                   have hnb75 := NB487_478.out
                   have hnc75 := NB478_487.out
                   have hnb76 := NB487_489.out
                   have hnc76 := NB489_487.out
                   obtain ⟨hcz77_0, hcz77_1, hfz77_0, hfz77_1⟩ := bx2_ BK487
                   go_wp2
                   go_meet
                   case rel => exact ⟨_, (decide ((t483.length : Int) < 200)), (by first | rfl | (simp; done) | (simp [*]; done)), H', ⟨by have := HK1.out; have := HJ40.out; have := HK3.out; have := HJ56.out; have := HK5.out; first | omega | exact Nat.le_refl _⟩, ⟨Nx_ HO_5.out⟩, ⟨Nx_ HO_479001.out⟩, ⟨Vx_ HO_488001.out⟩, ⟨Nx_ HO_490001.out⟩, ⟨bk_ BK478.out⟩, ⟨bk_ BK487.out⟩, ⟨bk_ BK489.out⟩, ⟨bb_ HB.out⟩⟩
                  ·rw [if_neg c74] at H
                   have c74b0 : decide (x12_5 ≤ t479) = false := decide_eq_false c74
                   clear c74
                   (first | rw [c74b0] | (simp only [i64_w, i32_w]; rw [c74b0]) | skip)
                   have H' := am_ H
                   clear H
                   have hnb78 := NB487_478.out
                   have hnc78 := NB478_487.out
                   have hnb79 := NB487_489.out
                   have hnc79 := NB489_487.out
                   obtain ⟨hcz80_0, hcz80_1, hfz80_0, hfz80_1⟩ := bx2_ BK487
                   go_wp2
                   go_meet
                   case rel => exact ⟨_, (false), (by first | rfl | (simp; done) | (simp [*]; done)), H', ⟨by have := HK1.out; have := HJ40.out; have := HK3.out; have := HJ56.out; have := HK5.out; first | omega | exact Nat.le_refl _⟩, ⟨Nx_ HO_5.out⟩, ⟨Nx_ HO_479001.out⟩, ⟨Vx_ HO_488001.out⟩, ⟨Nx_ HO_490001.out⟩, ⟨bk_ BK478.out⟩, ⟨bk_ BK487.out⟩, ⟨bk_ BK489.out⟩, ⟨bb_ HB.out⟩⟩
                 case rest =>
                  clear HC73
                  try clear p2
                  try clear c3
                  try clear c4
                  try clear p4
                  try clear q4
                  try clear hx4
                  try clear c5
                  try clear p5
                  try clear q5
                  try clear hx5
                  try clear c6
                  try clear c7
                  try clear c36
                  try clear c49
                  try clear p49
                  try clear q49
                  try clear hx49
                  try clear c50
                  try clear p50
                  try clear q50
                  try clear hx50
                  try clear c61
                  try clear c62
                  try clear c64
                  try clear c65
                  try clear c65b0
                  try clear c65b1
                  try clear c65b2
                  try clear c72
                  try clear c74
                  try clear c74b0
                  try clear c75
                  try clear c76
                  try clear c78
                  try clear c79
                  try clear hcz77_0
                  try clear hcz77_1
                  try clear hcz80_0
                  try clear hcz80_1
                  try clear hfz77_0
                  try clear hfz77_1
                  try clear hfz80_0
                  try clear hfz80_1
                  try clear hx497_0
                  try clear hx498_0
                  try clear hx500_0
                  try clear p2
                  try clear p4
                  try clear p49
                  try clear p497
                  try clear p498
                  try clear p5
                  try clear p50
                  try clear p500
                  try clear q4
                  try clear q49
                  try clear q497
                  try clear q498
                  try clear q5
                  try clear q50
                  try clear q500
                  obtain ⟨kq, x109_72, rfl, HA, HJ72, HO_5, HO_479001, HO_488001, HO_490001, BK478, BK487, BK489, HB⟩ := hcut
                  cases kq with
                  | zero => exact absurd HA.out (by simp [laws_FnSimplify.j5])
                  | succ kj72 =>
                   have H := HA.out
                   clear HA
                   simp only [laws_FnSimplify.j5] at H
                   by_cases c81 : x109_72 = true
                   ·subst c81
                    have H1 : ((spec_ApplyTietze.f kj72 t479 t480 5 x11_3 x12_5 ([] : List Int)).bind fun bt501 => (if bt501.2.2 = 0 then (some false) else (laws_FnSimplify.l2 kj72 t483 x11_3 (wrap64 (x12_5 + 1)) t474 t475 t479 t480 x490000_1 x490001_1))) = some r := by rw [if_pos rfl] at H; exact H
                    clear H
                    have H := H1
                    clear H1
                    replace H := Option.bind_eq_some_iff.mp H
                    obtain ⟨⟨t501, t502, t505⟩, A820, H⟩ := H
                    replace H : (if t505 = 0 then (some false) else (laws_FnSimplify.l2 kj72 t483 x11_3 (wrap64 (x12_5 + 1)) t474 t475 t479 t480 x490000_1 x490001_1)) = some r := H
                    have A82 := am_ A820
                    clear A820
                    by_cases c83 : t505 = 0
                    ·rw [if_pos c83] at H
                     have c83b0 : (t505 == 0) = true := beq_iff_eq.mpr c83
                     have c83b1 : (t505 != 0) = false := bne_eq_false_iff_eq.mpr c83
                     clear c83
                     exact absurd ((Option.some.inj H).trans HTRUE_.out) (by simp)
                    ·rw [if_neg c83] at H
                     have c83b0 : (t505 == 0) = false := beq_eq_false_iff_ne.mpr c83
                     have c83b1 : (t505 != 0) = true := bne_iff_ne.mpr c83
                     have H' := am_ H
                     clear H
                     have hnb84 := NB487_478.out
                     have hnc84 := NB478_487.out
                     have hnb85 := NB487_489.out
                     have hnc85 := NB489_487.out
                     obtain ⟨hcz86_0, hcz86_1, hfz86_0, hfz86_1⟩ := bx2_ BK487
                     go_wp2_with (first | ((with_reducible refine gate_callee (f := 23) rfl ?_); refine goesL_ (some 117) rfl rfl Try.func23 (by kernel_rfl) rfl #[.agg #[.int .i64 t479, .slice Ao15 t480.length co15], .agg #[.int .i64 5, .int .i64 x11_3, .int .i64 x12_5, .slice none 0 0]] rfl lm_ ?_; (refine (spec_ApplyTietze.calls kj72 t479 _ _ t480 5 x11_3 x12_5 _ _ ([] : List Int) t501 t502 t505 _ ?side1 ?side2 ?side3 ?side4 A82.out).mono ?_); (case side1 => exact cz_ (Kd.V_reads' HO_488001.out).2.2); (case side2 => exact (Kd.V_reads' HO_488001.out).2.1); (case side3 => exact Kd.C_nil _ _); (case side4 => exact Nat.le_refl _); rintro e w87 ⟨v503, rfl, ho0, hb⟩; refine ⟨_, rfl, ?_⟩; have n0_ := am_ (Kd.N_elder' (Nx_ HO_5.out) (Kd.N_base ho0) hb); have n1_ := am_ (Kd.N_elder' (Nx_ HO_479001.out) (Kd.N_base ho0) hb); have n2_ := am_ (Kd.V_elder' (Vx_ HO_488001.out) (Kd.N_base ho0) hb); have n3_ := am_ (Kd.N_elder' (Nx_ HO_490001.out) (Kd.N_base ho0) hb); have n4_ := am_ (Kd.N_lower (Kd.N_mono (ok' := fun k_ => some k_ ≠ (.slice Ao42 t483.length co42 : Value).ownBlock ∧ some k_ ≠ (.slice Ao10 t475.length co10 : Value).ownBlock ∧ some k_ ≠ (u490001 : Value).ownBlock ∧ k_ ≠ gb478 ∧ k_ ≠ gb487 ∧ k_ ≠ gb489) ho0 (fun k_ hk_ => ⟨(Kd.fresh' (Kd.N_lt (Nx_ HO_5.out)) k_ hk_), (Kd.fresh' (Kd.N_lt (Nx_ HO_479001.out)) k_ hk_), (Kd.fresh' (Kd.N_lt (Nx_ HO_490001.out)) k_ hk_), (Kd.freshB (g := gb478) (o := .cells #[.int .i64 t474, .slice Ao10 t475.length co10] 28 (0, 0)) (bk_ BK478.out) k_ hk_), (Kd.freshB (g := gb487) (o := .cells #[.int .i64 t479, .slice Ao15 t480.length co15] 28 (0, 0)) (bk_ BK487.out) k_ hk_), (Kd.freshB (g := gb489) (o := .cells #[.int .i64 x490000_1, u490001] 28 (0, 0)) (bk_ BK489.out) k_ hk_)⟩)) (below_size (bb_ HB.out))); have n5_ := am_ (bw_ BK478 hb); have n6_ := am_ (bw_ BK487 hb); have n7_ := am_ (bw_ BK489 hb); have n8_ := am_ (below_step (bb_ HB.out) hb); clear HO_5 HO_479001 HO_488001 HO_490001 BK478 BK487 BK489 HB; revert n0_ n1_ n2_ n3_ n4_ n5_ n6_ n7_ n8_; intro HO_5 HO_479001 HO_488001 HO_490001 HO504 BK478 BK487 BK489 HB; (try clear hb); (try clear hb2); (try clear hk); (try clear hi); (try clear ho0)) | (refine be_ 13 28 #[.int .i64 0, .slice none 0 0] ?_; intro gb506 hg w88 hbox hb; have n0_ := am_ (Kd.N_below (Kd.N_elderB (Nx_ HO_5.out) gb506 (Nat.le_of_eq hg.symm)) hb); have n1_ := am_ (Kd.N_below (Kd.N_elderB (Nx_ HO_479001.out) gb506 (Nat.le_of_eq hg.symm)) hb); have n2_ := am_ (Kd.V_below (Kd.V_elderB (Vx_ HO_488001.out) gb506 (Nat.le_of_eq hg.symm)) hb); have n3_ := am_ (Kd.N_below (Kd.N_elderB (Nx_ HO_490001.out) gb506 (Nat.le_of_eq hg.symm)) hb); have n4_ := am_ (Kd.N_below (Kd.N_elderB (Nx_ HO504.out) gb506 (Nat.le_of_eq hg.symm)) hb); have n5_ := am_ (bw_ BK478 hb); have n6_ := am_ (bw_ BK487 hb); have n7_ := am_ (bw_ BK489 hb); have n8_ := am_ (below_step (bb_ HB.out) hb); have n9_ := am_ (hbox); have n10_ := gs_ HB hg; have n11_ := gs_ HB hg; have n12_ := am_ (nl_ BK478 hg); have n13_ := am_ (ng_ BK478 hg); have n14_ := am_ (nl_ BK487 hg); have n15_ := am_ (ng_ BK487 hg); have n16_ := am_ (nl_ BK489 hg); have n17_ := am_ (ng_ BK489 hg); clear HO_5 HO_479001 HO_488001 HO_490001 HO504 BK478 BK487 BK489 HB; revert n0_ n1_ n2_ n3_ n4_ n5_ n6_ n7_ n8_ n9_ n10_ n11_ n12_ n13_ n14_ n15_ n16_ n17_; intro HO_5 HO_479001 HO_488001 HO_490001 HO504 BK478 BK487 BK489 HB BK506 GW506 GE506 NB478_506 NB506_478 NB487_506 NB506_487 NB489_506 NB506_489; clear hb hbox hg; have hnb89 := NB506_478.out; have hnc89 := NB478_506.out; have hnb90 := NB506_487.out; have hnc90 := NB487_506.out; have hnb91 := NB506_489.out; have hnc91 := NB489_506.out; obtain ⟨hcz92_0, hcz92_1, hfz92_0, hfz92_1⟩ := bx2_ BK506; obtain ⟨Ao93, co93, eo93⟩ := Kd.N_slice HO504.out; subst eo93))
                     go_roundg kj72
                     case measure => have := HK1.out; have := HJ40.out; have := HK3.out; have := HJ56.out; have := HK5.out; have := HJ72.out; omega
                     case rel => exact ⟨(wrap64 (x12_5 + 1)), (by first | rfl | (simp; done) | (simp [*]; done)), H', ⟨by have := HK1.out; have := HJ40.out; have := HK3.out; have := HJ56.out; have := HK5.out; have := HJ72.out; omega⟩, ⟨Nx_ (Kd.N_mono (Kd.N_far (p := ⟨gb506, 1, none⟩) (Kd.N_far (p := ⟨gb506, 0, none⟩) (Kd.N_mono HO_5.out (fun k_ hk => (⟨hk, hk.2⟩ : _ ∧ k_ ≠ gb506))) (fun _ hk => hk.2) (.int .i64 t501)) (fun _ hk => hk.2) (.slice Ao93 t502.length co93)) (fun _ hk => ⟨hk.1.1.1.1, ⟨hk.1.1.1.2.1, ⟨hk.1.1.1.2.2.1, ⟨hk.1.1.1.2.2.2.1, hk.1.1.1.2.2.2.2⟩⟩⟩⟩))⟩, ⟨Nx_ (Kd.N_mono (Kd.N_far (p := ⟨gb506, 1, none⟩) (Kd.N_far (p := ⟨gb506, 0, none⟩) (Kd.N_mono HO_479001.out (fun k_ hk => (⟨hk, hk.2⟩ : _ ∧ k_ ≠ gb506))) (fun _ hk => hk.2) (.int .i64 t501)) (fun _ hk => hk.2) (.slice Ao93 t502.length co93)) (fun _ hk => ⟨hk.1.1.1.1, ⟨hk.1.1.1.2.1, ⟨hk.1.1.1.2.2.1, hk.1.1.1.2.2.2⟩⟩⟩))⟩, ⟨Vx_ (Kd.V_mono (Kd.V_far (p := ⟨gb506, 1, none⟩) (Kd.V_far (p := ⟨gb506, 0, none⟩) (Kd.V_mono HO_488001.out (fun k_ hk => (⟨hk, hk.2⟩ : _ ∧ k_ ≠ gb506))) (fun _ hk => hk.2) (.int .i64 t501)) (fun _ hk => hk.2) (.slice Ao93 t502.length co93)) (fun _ hk => ⟨hk.1.1.1.1, ⟨hk.1.1.1.2.1, ⟨hk.1.1.1.2.2.1, ⟨hk.1.1.1.2.2.2.1, ⟨hk.1.1.1.2.2.2.2.1, hk.1.1.1.2.2.2.2.2⟩⟩⟩⟩⟩))⟩, ⟨Nx_ (Kd.N_mono (Kd.N_far (p := ⟨gb506, 1, none⟩) (Kd.N_far (p := ⟨gb506, 0, none⟩) (Kd.N_mono HO_490001.out (fun k_ hk => (⟨hk, hk.2⟩ : _ ∧ k_ ≠ gb506))) (fun _ hk => hk.2) (.int .i64 t501)) (fun _ hk => hk.2) (.slice Ao93 t502.length co93)) (fun _ hk => ⟨hk.1.1.1.1, ⟨hk.1.1.1.2.1, ⟨hk.1.1.1.2.2.1, hk.1.1.1.2.2.2⟩⟩⟩))⟩, ⟨bk_ BK478.out⟩, ⟨bk_ BK487.out⟩, ⟨bk_ BK489.out⟩, ⟨bb_ HB.out⟩⟩
                   ·replace c81 := Bool.eq_false_iff.mpr c81
                    subst c81
                    have H1 : (laws_FnSimplify.l1 kj72 t483 (wrap64 (x11_3 + 1)) t474 t475 t479 t480 x490000_1 x490001_1) = some r := by rw [if_neg (show ¬ (false = true) by decide)] at H; exact H
                    clear H
                    have H := H1
                    clear H1
                    have H' := am_ H
                    clear H
                    go_wp2
                    go_roundg kj72
                    case measure => have := HK1.out; have := HJ40.out; have := HK3.out; have := HJ56.out; have := HK5.out; have := HJ72.out; omega
                    case rel => exact ⟨(wrap64 (x11_3 + 1)), (by first | rfl | (simp; done) | (simp [*]; done)), H', ⟨by have := HK1.out; have := HJ40.out; have := HK3.out; have := HJ56.out; have := HK5.out; have := HJ72.out; omega⟩, ⟨Nx_ HO_5.out⟩, ⟨Nx_ HO_479001.out⟩, ⟨Vx_ HO_488001.out⟩, ⟨Nx_ HO_490001.out⟩, ⟨bk_ BK478.out⟩, ⟨bk_ BK487.out⟩, ⟨bk_ BK489.out⟩, ⟨bb_ HB.out⟩⟩
           ·rw [if_neg c56] at H
            have c56b0 : decide (x11_3 < (t480.length : Int)) = false := decide_eq_false c56
            clear c56
            obtain rfl := Option.some.inj H
            have hnb94 := NB487_478.out
            have hnc94 := NB478_487.out
            have hnb95 := NB487_489.out
            have hnc95 := NB489_487.out
            obtain ⟨hcz96_0, hcz96_1, hfz96_0, hfz96_1⟩ := bx2_ BK487
            have hnb97 := NB478_489.out
            have hnc97 := NB489_478.out
            obtain ⟨hcz98_0, hcz98_1, hfz98_0, hfz98_1⟩ := bx2_ BK478
            go_wp2
            go_ret
            exact ⟨er_, bb_ HB.out⟩
  ·rw [if_neg c6] at H
   have c6b0 : (t486 == 0) = false := beq_eq_false_iff_ne.mpr c6
   have c6b1 : (t486 != 0) = true := bne_iff_ne.mpr c6
   by_cases c99 : (t483.length : Int) = 0
   ·rw [if_pos c99] at H
    have c99b0 : ((t483.length : Int) == 0) = true := beq_iff_eq.mpr c99
    have c99b1 : ((t483.length : Int) != 0) = false := bne_eq_false_iff_eq.mpr c99
    clear c99
    replace H := Option.bind_eq_some_iff.mp H
    obtain ⟨t488, A1000, H⟩ := H
    replace H : (some (!t488)) = some r := H
    have A100 := am_ A1000
    clear A1000
    obtain rfl := Option.some.inj H
    go_enter Try.func7, Try.ntmps7
    go_wp2_with (first | ((with_reducible refine gate_callee (f := 33) rfl ?_); refine goesL_ (some 16) rfl rfl Try.func33 (by kernel_rfl) rfl #[.slice A0 l0.length c0] rfl lm_ ?_; (with_reducible refine (laws_big.calls _ _ l0 false _ ?side1 ?side2 A2.out).mono ?_); (case side1 => exact cz_ HR0.out); (case side2 => exact HC0.out); rintro e w' ⟨rfl, ⟨nd, rfl⟩⟩; refine ⟨_, rfl, ?_⟩) | ((with_reducible refine gate_callee (f := 34) rfl ?_); refine goesL_ (some 18) rfl rfl Try.func34 (by kernel_rfl) rfl #[.slice A0 l0.length c0] rfl lm_ ?_; (with_reducible refine (spec_DrawSimplifyPresentation.calls k _ _ l0 t474 t475 _ ?side1 ?side2 A4.out).mono ?_); (case side1 => exact cz_ HR0.out); (case side2 => exact HC0.out); rintro e w101 ⟨v476, rfl, ho0, hb⟩; refine ⟨_, rfl, ?_⟩; have n0_ := am_ (Kd.N_lower (Kd.N_mono (ok' := fun k_ => True) (Kd.S_N (Kd.S_bound ho0)) (fun k_ hk_ => trivial)) (below_size (bb_ HB.out))); have n1_ := am_ (below_step (bb_ HB.out) hb); clear HB; revert n0_ n1_; intro HO477 HB; (try clear hb); (try clear hb2); (try clear hk); (try clear hi); (try clear ho0)) | (refine be_ 3 28 #[.int .i64 0, .slice none 0 0] ?_; intro gb478 hg w102 hbox hb; have n0_ := am_ (Kd.N_below (Kd.N_elderB (Nx_ HO477.out) gb478 (Nat.le_of_eq hg.symm)) hb); have n1_ := am_ (below_step (bb_ HB.out) hb); have n2_ := am_ (hbox); have n3_ := gs_ HB hg; have n4_ := gs_ HB hg; clear HO477 HB; revert n0_ n1_ n2_ n3_ n4_; intro HO477 HB BK478 GW478 GE478; clear hb hbox hg; obtain ⟨hcz103_0, hcz103_1, hfz103_0, hfz103_1⟩ := bx2_ BK478; obtain ⟨Ao104, co104, eo104⟩ := Kd.N_slice HO477.out; subst eo104) | ((with_reducible refine gate_callee (f := 29) rfl ?_); refine goesL_ (some 21) rfl rfl Try.func29 (by kernel_rfl) rfl #[.agg #[.int .i64 t474, .slice Ao104 t475.length co104]] rfl lm_ ?_; (with_reducible refine (impl_SimplifyPresentation.calls k t474 _ _ t475 t479 t480 t483 t486 _ ?side1 ?side2 A5.out).mono ?_); (case side1 => refine (Kd.N_reads' (e := 39) (base := w.heap.size) (ok := fun k_ => (True ∧ k_ ≠ gb478)) (n := t475.length) (c := co104) ?_).2.2; exact (Nx_ (Kd.N_mono (Kd.N_far (p := ⟨gb478, 1, none⟩) (Kd.N_far (p := ⟨gb478, 0, none⟩) (Kd.N_mono HO477.out (fun k_ hk => (⟨hk, hk.2⟩ : _ ∧ k_ ≠ gb478))) (fun _ hk => hk.2) (.int .i64 t474)) (fun _ hk => hk.2) (.slice Ao104 t475.length co104)) (fun _ h_ => h_.1)))); (case side2 => exact (Kd.N_reads' HO477.out).2.1); rintro e w105 ⟨v481, v484, rfl, ho0, ho1, hb⟩; refine ⟨_, rfl, ?_⟩; have n0_ := am_ (Kd.N_elder' (Nx_ (Kd.N_mono (Kd.N_far (p := ⟨gb478, 1, none⟩) (Kd.N_far (p := ⟨gb478, 0, none⟩) (Kd.N_mono HO477.out (fun k_ hk => (⟨hk, hk.2⟩ : _ ∧ k_ ≠ gb478))) (fun _ hk => hk.2) (.int .i64 t474)) (fun _ hk => hk.2) (.slice Ao104 t475.length co104)) (fun _ h_ => h_.1))) (Kd.N_base ho1) hb); have n1_ := am_ (Kd.V_lower (Kd.V_mono (ok' := fun k_ => some k_ ≠ (v484 : Value).ownBlock ∧ some k_ ≠ (.slice Ao104 t475.length co104 : Value).ownBlock ∧ k_ ≠ gb478) ho0 (fun k_ hk_ => ⟨hk_.2, (Kd.fresh' (Kd.N_lt (Nx_ (Kd.N_mono (Kd.N_far (p := ⟨gb478, 1, none⟩) (Kd.N_far (p := ⟨gb478, 0, none⟩) (Kd.N_mono HO477.out (fun k_ hk => (⟨hk, hk.2⟩ : _ ∧ k_ ≠ gb478))) (fun _ hk => hk.2) (.int .i64 t474)) (fun _ hk => hk.2) (.slice Ao104 t475.length co104)) (fun _ h_ => h_.1)))) k_ hk_.1), (Kd.freshB (g := gb478) (o := .cells #[.int .i64 t474, .slice Ao104 t475.length co104] 28 (0, 0)) (pu2_ BK478) k_ hk_.1)⟩)) (below_size (bb_ HB.out))); have n2_ := am_ (Kd.N_lower (Kd.N_mono (ok' := fun k_ => some k_ ≠ (.slice Ao104 t475.length co104 : Value).ownBlock ∧ k_ ≠ gb478) ho1 (fun k_ hk_ => ⟨(Kd.fresh' (Kd.N_lt (Nx_ (Kd.N_mono (Kd.N_far (p := ⟨gb478, 1, none⟩) (Kd.N_far (p := ⟨gb478, 0, none⟩) (Kd.N_mono HO477.out (fun k_ hk => (⟨hk, hk.2⟩ : _ ∧ k_ ≠ gb478))) (fun _ hk => hk.2) (.int .i64 t474)) (fun _ hk => hk.2) (.slice Ao104 t475.length co104)) (fun _ h_ => h_.1)))) k_ hk_), (Kd.freshB (g := gb478) (o := .cells #[.int .i64 t474, .slice Ao104 t475.length co104] 28 (0, 0)) (pu2_ BK478) k_ hk_)⟩)) (below_size (bb_ HB.out))); have n3_ := am_ (blk_below (g := gb478) (o := .cells #[.int .i64 t474, .slice Ao104 t475.length co104] 28 (0, 0)) (pu2_ BK478) hb); have n4_ := am_ (below_step (bb_ HB.out) hb); clear HO477 BK478 HB; revert n0_ n1_ n2_ n3_ n4_; intro HO477 HO482 HO485 BK478 HB; (try clear hb); (try clear hb2); (try clear hk); (try clear hi); (try clear ho0); (try clear ho1)) | (refine be_ 4 28 #[.int .i64 0, .slice none 0 0] ?_; intro gb487 hg w106 hbox hb; have n0_ := am_ (Kd.N_below (Kd.N_elderB (Nx_ HO477.out) gb487 (Nat.le_of_eq hg.symm)) hb); have n1_ := am_ (Kd.V_below (Kd.V_elderB (Vx_ HO482.out) gb487 (Nat.le_of_eq hg.symm)) hb); have n2_ := am_ (Kd.N_below (Kd.N_elderB (Nx_ HO485.out) gb487 (Nat.le_of_eq hg.symm)) hb); have n3_ := am_ (bw_ BK478 hb); have n4_ := am_ (below_step (bb_ HB.out) hb); have n5_ := am_ (hbox); have n6_ := gs_ HB hg; have n7_ := gs_ HB hg; have n8_ := am_ (nl_ BK478 hg); have n9_ := am_ (ng_ BK478 hg); clear HO477 HO482 HO485 BK478 HB; revert n0_ n1_ n2_ n3_ n4_ n5_ n6_ n7_ n8_ n9_; intro HO477 HO482 HO485 BK478 HB BK487 GW487 GE487 NB478_487 NB487_478; clear hb hbox hg; have hnb107 := NB487_478.out; have hnc107 := NB478_487.out; obtain ⟨hcz108_0, hcz108_1, hfz108_0, hfz108_1⟩ := bx2_ BK487; obtain ⟨Ao109, co109, eo109⟩ := Kd.V_slice HO482.out; subst eo109; obtain ⟨Ao110, co110, eo110⟩ := Kd.N_slice HO485.out; subst eo110; obtain ⟨hcz111_0, hcz111_1, hfz111_0, hfz111_1⟩ := bx2_ BK478) | (go_at_call 35; (with_reducible refine (spec_IsPresentation.calls k t474 _ _ t475 t488 _ ?side1 ?side2 A100.out).mono ?_); (case side1 => refine (Kd.N_reads' (e := 39) (base := w.heap.size) (ok := fun k_ => (((True ∧ k_ ≠ gb478) ∧ some k_ ≠ (.slice Ao110 t483.length co110 : Value).ownBlock) ∧ k_ ≠ gb487)) (n := t475.length) (c := co104) ?_).2.2; exact (Nx_ (Kd.N_mono (Kd.N_far (p := ⟨gb487, 1, none⟩) (Kd.N_far (p := ⟨gb487, 0, none⟩) (Kd.N_mono HO477.out (fun k_ hk => (⟨hk, hk.2⟩ : _ ∧ k_ ≠ gb487))) (fun _ hk => hk.2) (.int .i64 t479)) (fun _ hk => hk.2) (.slice Ao109 t480.length co109)) (fun _ h_ => h_.1)))); (case side2 => exact (Kd.N_reads' HO477.out).2.1); rintro e w112 ⟨rfl, hb⟩; have n0_ := am_ (Kd.N_below (Nx_ (Kd.N_mono (Kd.N_far (p := ⟨gb487, 1, none⟩) (Kd.N_far (p := ⟨gb487, 0, none⟩) (Kd.N_mono HO477.out (fun k_ hk => (⟨hk, hk.2⟩ : _ ∧ k_ ≠ gb487))) (fun _ hk => hk.2) (.int .i64 t479)) (fun _ hk => hk.2) (.slice Ao109 t480.length co109)) (fun _ h_ => h_.1))) hb); have n1_ := am_ (Kd.V_below (Vx_ (Kd.V_mono (Kd.V_far (p := ⟨gb487, 1, none⟩) (Kd.V_far (p := ⟨gb487, 0, none⟩) (Kd.V_mono HO482.out (fun k_ hk => (⟨hk, hk.2⟩ : _ ∧ k_ ≠ gb487))) (fun _ hk => hk.2) (.int .i64 t479)) (fun _ hk => hk.2) (.slice Ao109 t480.length co109)) (fun _ h_ => h_.1))) hb); have n2_ := am_ (Kd.N_below (Nx_ (Kd.N_mono (Kd.N_far (p := ⟨gb487, 1, none⟩) (Kd.N_far (p := ⟨gb487, 0, none⟩) (Kd.N_mono HO485.out (fun k_ hk => (⟨hk, hk.2⟩ : _ ∧ k_ ≠ gb487))) (fun _ hk => hk.2) (.int .i64 t479)) (fun _ hk => hk.2) (.slice Ao109 t480.length co109)) (fun _ h_ => h_.1))) hb); have n3_ := am_ (bw_ BK478 hb); have n4_ := am_ (blk_below (g := gb487) (o := .cells #[.int .i64 t479, .slice Ao109 t480.length co109] 28 (0, 0)) (pu2_ BK487) hb); have n5_ := am_ (below_step (bb_ HB.out) hb); clear HO477 HO482 HO485 BK478 BK487 HB; revert n0_ n1_ n2_ n3_ n4_ n5_; intro HO477 HO482 HO485 BK478 BK487 HB; (try clear hb); (try clear hb2); (try clear hk); (try clear hi)))
    go_ret
    exact ⟨er_, bb_ HB.out⟩
   ·rw [if_neg c99] at H
    have c99b0 : ((t483.length : Int) == 0) = false := beq_eq_false_iff_ne.mpr c99
    have c99b1 : ((t483.length : Int) != 0) = true := bne_iff_ne.mpr c99
    have c99b2 : ¬ (t483 = []) := fun h_ => c99 (by rw [h_]; rfl)
    exact absurd ((Option.some.inj H).trans HTRUE_.out) (by simp)

/-- THE ONE PURE STATEMENT of laws_FnSimplify: yours. -/
def laws_FnSimplify.Pure : Prop := ∀ (l0 : List Int), l0.length ≤ maxLen → l0.length * 1 ≤ 140737488351232 → (∀ x ∈ l0, (Lit.int .u8 x).wf = true) → ∃ k, laws_FnSimplify.f k l0 = some true
theorem laws_FnSimplify.walk (P : laws_FnSimplify.Pure) (a0 : Option Addr) (len0 cap0 : Nat) (z0 : List Int) (w : World) (w0 : (a0 = none ∧ len0 = 0 ∧ cap0 = 0 ∧ z0 = []) ∨ ∃ x, a0 = some x ∧ len0 ≤ cap0 ∧ cap0 ≤ maxLen ∧ z0.length = cap0 ∧ (∀ i, i < z0.length → w.cell? (x.add i) = some (.int .u8 (z0.getD i 0))) ∧ ∀ n ∈ z0, (Lit.int .u8 n).wf = true) (y0 : len0 * 1 ≤ 140737488351232) :
  Calls Try.prog 7 #[.slice a0 len0 cap0] w fun e w' => e = .returned (.bool true) ∧ Below w.heap.size w w' := by
 obtain ⟨l0, rfl, hr0, hm0, hw0, hc0⟩ := ReadsInt.ofRowC w0
 obtain ⟨k, h⟩ := P l0 hm0 y0 hw0
 refine (laws_FnSimplify.calls k _ _ l0 true w (Kd.C_of_reads (d := (0 : Int)) (h1 := fun _ => rfl) hr0) hc0 h ⟨rfl⟩).mono ?_
 rintro e w' ⟨rfl, hd⟩
 exact ⟨rfl, hd⟩

end Go.Proofs.Ytbcdngjajjgmkaa.PFnSimplify
