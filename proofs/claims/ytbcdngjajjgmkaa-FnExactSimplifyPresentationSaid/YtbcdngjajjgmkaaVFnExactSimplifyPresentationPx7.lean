/- Written by this session's program out of the kit's print and this session's contracts. -/
import Derived.Test.YtbcdngjajjgmkaaVFnExactSimplifyPresentationPx0
import Derived.Test.YtbcdngjajjgmkaaVFnExactSimplifyPresentationPx4
import Derived.Test.YtbcdngjajjgmkaaVFnExactSimplifyPresentationPx5
import Derived.Test.YtbcdngjajjgmkaaVFnExactSimplifyPresentationPx6
namespace Go.Proofs.Ytbcdngjajjgmkaa.PFnExactSimplifyPresentation
open Go.RowKit Go.Proofs.YtbcdngjajjgmkaaW.PrintWords Go.Proofs.YtbcdngjajjgmkaaW.PrintLast Go.Proofs.YtbcdngjajjgmkaaW.PrintMore
set_option linter.unusedVariables false
set_option linter.unusedSimpArgs false

/-! ### spec_l04Move: part 0 -/
set_option maxHeartbeats 8000000 in
set_option maxRecDepth 100000 in
theorem spec_l04Move.calls_0 (k : Nat) (a0_0 : Int) (A0_1 : Option Addr) (c0_1 : Nat) (l0_1 : List (List Int)) (a1_0 : Int) (a1_1 : Int) (a1_2 : Int) (A1_3 : Option Addr) (c1_3 : Nat) (l1_3 : List Int) (r1 : Int) (r2 : List (List Int)) (w : World) (hr0_1 : Kd.C (Kd.slice 2 (Kd.int .i64)) w A0_1 l0_1.length l0_1) (hc0_1 : l0_1.length ≤ c0_1) (hr1_3 : Kd.C (Kd.int .i64) w A1_3 l1_3.length l1_3) (hc1_3 : l1_3.length ≤ c1_3) (h : spec_l04Move.f k a0_0 l0_1 a1_0 a1_1 a1_2 l1_3 = some (r1, r2)) (G_ : Aside0 (a1_0 = 2)) :
  Calls Try.prog 63 #[.agg #[.int .i64 a0_0, .slice A0_1 l0_1.length c0_1], .agg #[.int .i64 a1_0, .int .i64 a1_1, .int .i64 a1_2, .slice A1_3 l1_3.length c1_3]] w fun e w' => ∃ v1_ : Value, e = .returned (.agg #[.int .i64 r1, v1_]) ∧ Kd.N (Kd.slice 2 (Kd.int .i64)) 39 w' w.heap.size (fun k_ => (w.heap.size ≤ k_)) v1_ r2 ∧ Below w.heap.size w w' := by
 have hu28 := Try.underlying28
 have hu44 := Try.underlying44
 have HR0_1 := am_ hr0_1
 have HC0_1 := am_ hc0_1
 clear hr0_1 hc0_1
 have HR1_3 := am_ hr1_3
 have HC1_3 := am_ hc1_3
 clear hr1_3 hc1_3
 have HB := am_ (Below.refl w.heap.size w)
 have H := h
 unfold spec_l04Move.f at H
 clear h
 replace H := Option.bind_eq_some_iff.mp H
 obtain ⟨t272, A30, H⟩ := H
 replace H : (if a1_0 = 1 then (if 0 ≤ a1_1 then (if a1_1 < (l0_1.length : Int) then ((spec_l04Inverse.f k (rd_L1 l0_1 a1_1)).bind fun t277 => (if a1_1 < (t272.length : Int) then (some (a0_0, (t272.set (a1_1 : Int).toNat t277))) else (none))) else (none)) else (none)) else (if a1_0 = 2 then (if 0 ≤ a1_1 then (if a1_1 < (l0_1.length : Int) then (if ((rd_L1 l0_1 a1_1).length : Int) > 0 then ((some (([] : List Int) : List Int)).bind fun y282 => (if 1 ≤ ((rd_L1 l0_1 a1_1).length : Int) then (if y282.length + ((rd_L1 l0_1 a1_1).drop 1).length < 17592186044416 then ((some (y282 ++ ((rd_L1 l0_1 a1_1).drop 1) : List Int)).bind fun y286 => (if 0 < ((rd_L1 l0_1 a1_1).length : Int) then ((some (([rd (rd_L1 l0_1 a1_1) 0] : List Int) : List Int)).bind fun y290 => (if y286.length + y290.length < 17592186044416 then ((spec_l04Reduce.f k (y286 ++ y290)).bind fun t296 => (if a1_1 < (t272.length : Int) then (some (a0_0, (t272.set (a1_1 : Int).toNat t296))) else (none))) else (none))) else (none))) else (none)) else (none))) else (some (a0_0, t272))) else (none)) else (none)) else (if a1_0 = 3 then ((some (([] : List Int) : List Int)).bind fun y300 => (if 0 ≤ a1_1 then (if a1_1 < (l0_1.length : Int) then (if y300.length + (rd_L1 l0_1 a1_1).length < 17592186044416 then ((some (y300 ++ (rd_L1 l0_1 a1_1) : List Int)).bind fun y304 => (if 0 ≤ a1_2 then (if a1_2 < (l0_1.length : Int) then (if y304.length + (rd_L1 l0_1 a1_2).length < 17592186044416 then ((spec_l04Reduce.f k (y304 ++ (rd_L1 l0_1 a1_2))).bind fun t311 => (if a1_1 < (t272.length : Int) then (some (a0_0, (t272.set (a1_1 : Int).toNat t311))) else (none))) else (none)) else (none)) else (none))) else (none)) else (none)) else (none))) else (if a1_0 = 4 then ((spec_l04Copy.f k l0_1 a1_1).bind fun t315 => (some (a0_0, t315))) else (if a1_0 = 5 then ((spec_l04Remove.f k a0_0 l0_1 a1_1 a1_2).bind fun bt318 => (some (bt318.1, bt318.2))) else ((some (([wrap64 (-(wrap64 (a0_0 + 1)))] : List Int) : List Int)).bind fun y322 => (if y322.length + l1_3.length < 17592186044416 then ((some (([(y322 ++ l1_3)] : List (List Int)) : List (List Int))).bind fun y328 => (if t272.length + y328.length < 5864062014805 then (some (wrap64 (a0_0 + 1), (t272 ++ y328))) else (none))) else (none)))))))) = some (r1, r2) := H
 have A3 := am_ A30
 clear A30
 by_cases c4 : a1_0 = 1
 · exact absurd c4 (by have g_ := G_.out; clear H; omega)
 ·rw [if_neg c4] at H
  have c4b0 : (a1_0 == 1) = false := beq_eq_false_iff_ne.mpr c4
  have c4b1 : (a1_0 != 1) = true := bne_iff_ne.mpr c4
  by_cases c35 : a1_0 = 2
  ·rw [if_pos c35] at H
   have c35b0 : (a1_0 == 2) = true := beq_iff_eq.mpr c35
   have c35b1 : (a1_0 != 2) = false := bne_eq_false_iff_eq.mpr c35
   clear c35
   by_cases c36 : 0 ≤ a1_1
   ·rw [if_pos c36] at H
    have c36b0 : decide (0 ≤ a1_1) = true := decide_eq_true c36
    clear c36
    by_cases c37 : a1_1 < (l0_1.length : Int)
    ·rw [if_pos c37] at H
     have c37b0 : decide (a1_1 < (l0_1.length : Int)) = true := decide_eq_true c37
     clear c37
     by_cases c38 : ((rd_L1 l0_1 a1_1).length : Int) > 0
     ·rw [if_pos c38] at H
      have c38b0 : decide (0 < ((rd_L1 l0_1 a1_1).length : Int)) = true := decide_eq_true c38
      have c38b1 : decide (0 < (rd_L1 l0_1 a1_1).length) = true := decide_eq_true (by omega)
      clear c38
      obtain ⟨y282, hy282⟩ : ∃ y_ : List Int, y_ = (([] : List Int)) := ⟨_, rfl⟩
      replace H : (if 1 ≤ ((rd_L1 l0_1 a1_1).length : Int) then (if y282.length + ((rd_L1 l0_1 a1_1).drop 1).length < 17592186044416 then ((some (y282 ++ ((rd_L1 l0_1 a1_1).drop 1) : List Int)).bind fun y286 => (if 0 < ((rd_L1 l0_1 a1_1).length : Int) then ((some (([rd (rd_L1 l0_1 a1_1) 0] : List Int) : List Int)).bind fun y290 => (if y286.length + y290.length < 17592186044416 then ((spec_l04Reduce.f k (y286 ++ y290)).bind fun t296 => (if a1_1 < (t272.length : Int) then (some (a0_0, (t272.set (a1_1 : Int).toNat t296))) else (none))) else (none))) else (none))) else (none)) else (none)) = some (r1, r2) := hq_ hy282 H
      have Ny282 := am_ hy282
      clear hy282
      by_cases c39 : 1 ≤ ((rd_L1 l0_1 a1_1).length : Int)
      ·rw [if_pos c39] at H
       have c39b0 := eq_true c39
       have c39b1 : decide (1 ≤ ((rd_L1 l0_1 a1_1).length : Int)) = true := decide_eq_true c39
       clear c39
       by_cases c40 : y282.length + ((rd_L1 l0_1 a1_1).drop 1).length < 17592186044416
       ·rw [if_pos c40] at H
        have LMc40 := am_ c40
        clear c40
        obtain ⟨y286, hy286⟩ : ∃ y_ : List Int, y_ = (y282 ++ ((rd_L1 l0_1 a1_1).drop 1)) := ⟨_, rfl⟩
        replace H : (if 0 < ((rd_L1 l0_1 a1_1).length : Int) then ((some (([rd (rd_L1 l0_1 a1_1) 0] : List Int) : List Int)).bind fun y290 => (if y286.length + y290.length < 17592186044416 then ((spec_l04Reduce.f k (y286 ++ y290)).bind fun t296 => (if a1_1 < (t272.length : Int) then (some (a0_0, (t272.set (a1_1 : Int).toNat t296))) else (none))) else (none))) else (none)) = some (r1, r2) := hq_ hy286 H
        have Ny286 := am_ hy286
        clear hy286
        by_cases c41 : 0 < ((rd_L1 l0_1 a1_1).length : Int)
        ·rw [if_pos c41] at H
         have c41b0 : decide (0 < ((rd_L1 l0_1 a1_1).length : Int)) = true := decide_eq_true c41
         have c41b1 : decide (0 < (rd_L1 l0_1 a1_1).length) = true := decide_eq_true (by omega)
         clear c41
         obtain ⟨y290, hy290⟩ : ∃ y_ : List Int, y_ = (([rd (rd_L1 l0_1 a1_1) 0] : List Int)) := ⟨_, rfl⟩
         replace H : (if y286.length + y290.length < 17592186044416 then ((spec_l04Reduce.f k (y286 ++ y290)).bind fun t296 => (if a1_1 < (t272.length : Int) then (some (a0_0, (t272.set (a1_1 : Int).toNat t296))) else (none))) else (none)) = some (r1, r2) := hq_ hy290 H
         have Ny290 := am_ hy290
         clear hy290
         by_cases c42 : y286.length + y290.length < 17592186044416
         ·rw [if_pos c42] at H
          have LMc42 := am_ c42
          clear c42
          obtain ⟨y293, hy293⟩ : ∃ y_ : List Int, y_ = (y286 ++ y290) := ⟨_, rfl⟩
          replace H : ((spec_l04Reduce.f k y293).bind fun t296 => (if a1_1 < (t272.length : Int) then (some (a0_0, (t272.set (a1_1 : Int).toNat t296))) else (none))) = some (r1, r2) := hq_ hy293 H
          have Ny293 := am_ hy293
          clear hy293
          replace H := Option.bind_eq_some_iff.mp H
          obtain ⟨t296, A430, H⟩ := H
          replace H : (if a1_1 < (t272.length : Int) then (some (a0_0, (t272.set (a1_1 : Int).toNat t296))) else (none)) = some (r1, r2) := H
          have A43 := am_ A430
          clear A430
          by_cases c44 : a1_1 < (t272.length : Int)
          ·rw [if_pos c44] at H
           have c44b0 : decide (a1_1 < (t272.length : Int)) = true := decide_eq_true c44
           clear c44
           obtain ⟨y299, hy299⟩ : ∃ y_ : List (List Int), y_ = (t272.set (a1_1 : Int).toNat t296) := ⟨_, rfl⟩
           replace H : (some (a0_0, y299)) = some (r1, r2) := hq_ hy299 H
           have Ny299 := am_ hy299
           clear hy299
           simp only [Option.some.injEq, Prod.mk.injEq] at H
           obtain ⟨rfl, rfl⟩ := H
           go_enter Try.func63, Try.ntmps63
           try go_wp2_with (first | (refine be_ 2 28 #[.int .i64 a0_0, .slice A0_1 l0_1.length c0_1] ?_; intro gb269 hg w46 hbox hb; have n_ := ba0_ HB hbox hb hg; clear  HB hb hbox hg; obtain ⟨HB, BK269, GW269, GE269⟩ := n_) | (refine be_ 3 44 #[.int .i64 a1_0, .int .i64 a1_1, .int .i64 a1_2, .slice A1_3 l1_3.length c1_3] ?_; intro gb270 hg w47 hbox hb; have n_ := ba1_ BK269 HB hbox hb hg; clear BK269 HB hb hbox hg; obtain ⟨BK269, HB, BK270, GW270, GE270, NB269_270, NB270_269⟩ := n_) | (refine be_ 4 28 #[.int .i64 0, .slice none 0 0] ?_; intro gb271 hg w48 hbox hb; have n_ := ba2_ BK269 BK270 HB hbox hb hg; clear BK269 BK270 HB hb hbox hg; obtain ⟨BK269, BK270, HB, BK271, GW271, GE271, NB269_271, NB271_269, NB270_271, NB271_270⟩ := n_))
           have n0_ := am_ (blk_drew BK269.out)
           have n1_ := am_ (blk_drew BK270.out)
           have n2_ := am_ (blk_drew BK271.out)
           have n3_ := am_ (below_drew1 HB.out)
           clear BK269 BK270 BK271 HB; revert n0_ n1_ n2_ n3_; intro BK269 BK270 BK271 HB
           refine start_ (n := 8) (S := fun w' => w'.cell? ⟨gb269, 0, none⟩ = some (.int .i64 a0_0) ∧ w'.cell? ⟨gb269, 1, none⟩ = some (.slice A0_1 l0_1.length c0_1)) (ds := []) (bA_ 8 0) (by kernel_rfl) rfl (by kernel_rfl) ⟨bc_ BK269 0, bc_ BK269 1⟩ (fun hHeld => ?_); refine with_tabW spec_l04Move.tab1 spec_l04Move.bits1 (fun HT_ HW_ => ?_)
           generalize w48.drew = w49 at BK269 BK270 BK271 HB hHeld ⊢
           refine pz_ 0 8 (bA_ 8 1) HT_ ?_
           refine pz_ 2 10 (bA_ 8 5) HT_ ?_
           refine tz_ 1 9 (bA_ 8 7) HT_ HW_ hHeld ?_
           refine tz_ 3 11 (bA_ 8 15) HT_ HW_ hHeld ?_
           refine join_ (σ := Value × Nat) 1 (bA_ 8 127) (fun s_ => [(12, s_.1), (5, .pointer (some ⟨s_.2, 0, none⟩)), (13, .agg #[.int .i64 a0_0, s_.1])]) (fun s_ w' => (w'.cell? ⟨gb269, 0, none⟩ = some (.int .i64 a0_0) ∧ w'.cell? ⟨gb269, 1, none⟩ = some (.slice A0_1 l0_1.length c0_1)) ∧ (Kd.N (Kd.slice 2 (Kd.int .i64)) 39 w' w.heap.size (fun k_ => (w.heap.size ≤ k_) ∧ k_ ≠ gb269 ∧ k_ ≠ gb270 ∧ k_ ≠ gb271 ∧ k_ ≠ s_.2) s_.1 t272) ∧ (w'.heap[gb269]? = some (.cells #[.int .i64 a0_0, .slice A0_1 l0_1.length c0_1] 28 (0, 0))) ∧ (w'.heap[gb270]? = some (.cells #[.int .i64 a1_0, .int .i64 a1_1, .int .i64 a1_2, .slice A1_3 l1_3.length c1_3] 44 (0, 0))) ∧ (w'.heap[gb271]? = some (.cells #[.int .i64 0, .slice none 0 0] 28 (0, 0))) ∧ (w'.heap[s_.2]? = some (.cells #[.int .i64 0, .slice none 0 0] 28 (0, 0))) ∧ (w.heap.size ≤ s_.2) ∧ (w.heap.size ≤ s_.2) ∧ (gb269 ≠ s_.2) ∧ (s_.2 ≠ gb269) ∧ (gb270 ≠ s_.2) ∧ (s_.2 ≠ gb270) ∧ (gb271 ≠ s_.2) ∧ (s_.2 ≠ gb271) ∧ (Below w.heap.size w w')) ?_ ?_
           rotate_left
           ·intro hCont
            refine two_ (i := 4) (j := 6) (Ni := some 12) (Nj := some 5) (bA_ 8 31) (bA_ 8 79) rfl rfl rfl rfl (two_of HT_.out (by kernel_rfl)) (by decide) (by decide) (fun K hK => ?_) (fun K hK => ?_)
            ·skip
             refine goes_ Try.func40 (by kernel_rfl) rfl #[.slice A0_1 l0_1.length c0_1, .int .i64 (-1)] (by rfl) rfl rfl lm_ ?_
             with_reducible refine (spec_l04Copy.calls k _ _ l0_1 (-1) t272 _ ?side1 ?side2 A3.out).mono ?_
             (case side1 => exact cb_ HR0_1 HB)
             (case side2 => exact HC0_1.out)
             rintro e w50 ⟨v273, rfl, ho0, hb⟩
             refine ⟨_, rfl, ?_⟩
             have n0_ := am_ (Kd.N_lower (Kd.N_mono (ok' := fun k_ => (w.heap.size ≤ k_) ∧ k_ ≠ gb269 ∧ k_ ≠ gb270 ∧ k_ ≠ gb271) (Kd.S_N (Kd.S_bound ho0)) (fun k_ hk_ => ⟨(Nat.le_trans (below_size (bb_ HB.out)) hk_.2.1), (Kd.freshB (g := gb269) (o := .cells #[.int .i64 a0_0, .slice A0_1 l0_1.length c0_1] 28 (0, 0)) (bk_ BK269.out) k_ hk_.2.1), (Kd.freshB (g := gb270) (o := .cells #[.int .i64 a1_0, .int .i64 a1_1, .int .i64 a1_2, .slice A1_3 l1_3.length c1_3] 44 (0, 0)) (bk_ BK270.out) k_ hk_.2.1), (Kd.freshB (g := gb271) (o := .cells #[.int .i64 0, .slice none 0 0] 28 (0, 0)) (bk_ BK271.out) k_ hk_.2.1)⟩)) (below_size (bb_ HB.out)))
             have n1_ := am_ (bw_ BK269 hb)
             have n2_ := am_ (bw_ BK270 hb)
             have n3_ := am_ (bw_ BK271 hb)
             have n4_ := am_ (below_step (bb_ HB.out) hb)
             clear BK269 BK270 BK271 HB; revert n0_ n1_ n2_ n3_ n4_; intro HO274 BK269 BK270 BK271 HB
             (try clear hb)
             (try clear hb2)
             (try clear hk)
             (try clear hi)
             (try clear ho0)
             obtain ⟨Ao51, co51, eo51⟩ := Kd.N_slice HO274.out
             (first | subst eo51 | (injection eo51 with f1_ f2_ f3_; have f4_ := f1_.symm; have f5_ := f3_.symm; clear f1_ f2_ f3_; subst f4_; subst f5_))
             refine hK.out _ _ ⟨bc_ BK269 0, bc_ BK269 1⟩ (fun hHeld => ?_)
             clear hK K
             refine nm_ 12 ?_
             refine pz_ 5 13 (bA_ 8 63) HT_ ?_
             refine oz_ 6 5 (bA_ 8 127) HT_ (fun K hK => ?_)
             refine box_step ?hg (N := 5) ?hd (cs := #[.int .i64 0, .slice none 0 0]) (t := 28) ?hr ?_; (case hd => rfl); (case hg => rfl); (case hr => first | (go_simp; done) | (go_simp; rfl))
             intro gb275 hg w52 hbox hb
             have n0_ := am_ (Kd.N_below (Kd.N_elderB (Nx_ HO274.out) gb275 (Nat.le_of_eq hg.symm)) hb)
             have n1_ := am_ (bw_ BK269 hb)
             have n2_ := am_ (bw_ BK270 hb)
             have n3_ := am_ (bw_ BK271 hb)
             have n4_ := am_ (below_step (bb_ HB.out) hb)
             have n5_ := am_ (hbox)
             have n6_ := gs_ HB hg
             have n7_ := gs_ HB hg
             have n8_ := am_ (nl_ BK269 hg)
             have n9_ := am_ (ng_ BK269 hg)
             have n10_ := am_ (nl_ BK270 hg)
             have n11_ := am_ (ng_ BK270 hg)
             have n12_ := am_ (nl_ BK271 hg)
             have n13_ := am_ (ng_ BK271 hg)
             clear HO274 BK269 BK270 BK271 HB; revert n0_ n1_ n2_ n3_ n4_ n5_ n6_ n7_ n8_ n9_ n10_ n11_ n12_ n13_; intro HO274 BK269 BK270 BK271 HB BK275 GW275 GE275 NB269_275 NB275_269 NB270_275 NB275_270 NB271_275 NB275_271
             clear hb hbox hg
             refine hK.out _ _ ⟨bc_ BK269 0, bc_ BK269 1⟩ (fun hHeld => ?_)
             clear hK K
             refine nm_ 5 ?_
             exact norm_ (by simp only [putAll, Act.put, List.setIfInBounds_toArray, List.set_cons_zero, List.set_cons_succ]) (hCont (.slice Ao51 t272.length co51, gb275) _ ⟨hHeld, (Nx_ (Kd.N_mono HO274.out (fun _ hk => ⟨hk.1.1, ⟨hk.1.2.1, ⟨hk.1.2.2.1, ⟨hk.1.2.2.2, hk.2⟩⟩⟩⟩))), (bk_ BK269.out), (bk_ BK270.out), (bk_ BK271.out), (bk_ BK275.out), GW275.out, GE275.out, NB269_275.out, NB275_269.out, NB270_275.out, NB275_270.out, NB271_275.out, NB275_271.out, (bb_ HB.out)⟩)
            ·skip
             refine box_step ?hg (N := 5) ?hd (cs := #[.int .i64 0, .slice none 0 0]) (t := 28) ?hr ?_; (case hd => rfl); (case hg => rfl); (case hr => first | (go_simp; done) | (go_simp; rfl))
             intro gb275 hg w50 hbox hb
             have n0_ := am_ (bw_ BK269 hb)
             have n1_ := am_ (bw_ BK270 hb)
             have n2_ := am_ (bw_ BK271 hb)
             have n3_ := am_ (below_step (bb_ HB.out) hb)
             have n4_ := am_ (hbox)
             have n5_ := gs_ HB hg
             have n6_ := gs_ HB hg
             have n7_ := am_ (nl_ BK269 hg)
             have n8_ := am_ (ng_ BK269 hg)
             have n9_ := am_ (nl_ BK270 hg)
             have n10_ := am_ (ng_ BK270 hg)
             have n11_ := am_ (nl_ BK271 hg)
             have n12_ := am_ (ng_ BK271 hg)
             clear BK269 BK270 BK271 HB; revert n0_ n1_ n2_ n3_ n4_ n5_ n6_ n7_ n8_ n9_ n10_ n11_ n12_; intro BK269 BK270 BK271 HB BK275 GW275 GE275 NB269_275 NB275_269 NB270_275 NB275_270 NB271_275 NB275_271
             clear hb hbox hg
             refine hK.out _ _ ⟨bc_ BK269 0, bc_ BK269 1⟩ (fun hHeld => ?_)
             clear hK K
             refine nm_ 5 ?_
             refine oz_ 4 12 (bA_ 8 95) HT_ (fun K hK => ?_)
             refine goes_ Try.func40 (by kernel_rfl) rfl #[.slice A0_1 l0_1.length c0_1, .int .i64 (-1)] (by rfl) rfl rfl lm_ ?_
             with_reducible refine (spec_l04Copy.calls k _ _ l0_1 (-1) t272 _ ?side1 ?side2 A3.out).mono ?_
             (case side1 => exact cb_ HR0_1 HB)
             (case side2 => exact HC0_1.out)
             rintro e w51 ⟨v273, rfl, ho0, hb⟩
             refine ⟨_, rfl, ?_⟩
             have n0_ := am_ (Kd.N_lower (Kd.N_mono (ok' := fun k_ => (w.heap.size ≤ k_) ∧ k_ ≠ gb269 ∧ k_ ≠ gb270 ∧ k_ ≠ gb271 ∧ k_ ≠ gb275) (Kd.S_N (Kd.S_bound ho0)) (fun k_ hk_ => ⟨(Nat.le_trans (below_size (bb_ HB.out)) hk_.2.1), (Kd.freshB (g := gb269) (o := .cells #[.int .i64 a0_0, .slice A0_1 l0_1.length c0_1] 28 (0, 0)) (bk_ BK269.out) k_ hk_.2.1), (Kd.freshB (g := gb270) (o := .cells #[.int .i64 a1_0, .int .i64 a1_1, .int .i64 a1_2, .slice A1_3 l1_3.length c1_3] 44 (0, 0)) (bk_ BK270.out) k_ hk_.2.1), (Kd.freshB (g := gb271) (o := .cells #[.int .i64 0, .slice none 0 0] 28 (0, 0)) (bk_ BK271.out) k_ hk_.2.1), (Kd.freshB (g := gb275) (o := .cells #[.int .i64 0, .slice none 0 0] 28 (0, 0)) (bk_ BK275.out) k_ hk_.2.1)⟩)) (below_size (bb_ HB.out)))
             have n1_ := am_ (bw_ BK269 hb)
             have n2_ := am_ (bw_ BK270 hb)
             have n3_ := am_ (bw_ BK271 hb)
             have n4_ := am_ (bw_ BK275 hb)
             have n5_ := am_ (below_step (bb_ HB.out) hb)
             clear BK269 BK270 BK271 BK275 HB; revert n0_ n1_ n2_ n3_ n4_ n5_; intro HO274 BK269 BK270 BK271 BK275 HB
             (try clear hb)
             (try clear hb2)
             (try clear hk)
             (try clear hi)
             (try clear ho0)
             obtain ⟨Ao52, co52, eo52⟩ := Kd.N_slice HO274.out
             (first | subst eo52 | (injection eo52 with f1_ f2_ f3_; have f4_ := f1_.symm; have f5_ := f3_.symm; clear f1_ f2_ f3_; subst f4_; subst f5_))
             refine hK.out _ _ ⟨bc_ BK269 0, bc_ BK269 1⟩ (fun hHeld => ?_)
             clear hK K
             refine nm_ 12 ?_
             refine pz_ 5 13 (bA_ 8 127) HT_ ?_
             exact norm_ (by simp only [putAll, Act.put, List.setIfInBounds_toArray, List.set_cons_zero, List.set_cons_succ]) (hCont (.slice Ao52 t272.length co52, gb275) _ ⟨hHeld, (Nx_ HO274.out), (bk_ BK269.out), (bk_ BK270.out), (bk_ BK271.out), (bk_ BK275.out), GW275.out, GE275.out, NB269_275.out, NB275_269.out, NB270_275.out, NB275_270.out, NB271_275.out, NB275_271.out, (bb_ HB.out)⟩)
           rintro ⟨v273, gb275⟩ w53 ⟨hS_, h0_, h1_, h2_, h3_, h4_, h5_, h6_, h7_, h8_, h9_, h10_, h11_, h12_, h13_⟩
           have n0_ : Aside0 (Kd.N (Kd.slice 2 (Kd.int .i64)) 39 w53 w.heap.size (fun k_ => (w.heap.size ≤ k_) ∧ k_ ≠ gb269 ∧ k_ ≠ gb270 ∧ k_ ≠ gb271 ∧ k_ ≠ gb275) v273 t272) := ⟨h0_⟩
           have n1_ : Aside0 (w53.heap[gb269]? = some (.cells #[.int .i64 a0_0, .slice A0_1 l0_1.length c0_1] 28 (0, 0))) := ⟨h1_⟩
           have n2_ : Aside0 (w53.heap[gb270]? = some (.cells #[.int .i64 a1_0, .int .i64 a1_1, .int .i64 a1_2, .slice A1_3 l1_3.length c1_3] 44 (0, 0))) := ⟨h2_⟩
           have n3_ : Aside0 (w53.heap[gb271]? = some (.cells #[.int .i64 0, .slice none 0 0] 28 (0, 0))) := ⟨h3_⟩
           have n4_ : Aside0 (w53.heap[gb275]? = some (.cells #[.int .i64 0, .slice none 0 0] 28 (0, 0))) := ⟨h4_⟩
           have n5_ : Aside0 (w.heap.size ≤ gb275) := ⟨h5_⟩
           have n6_ : Aside0 (w.heap.size ≤ gb275) := ⟨h6_⟩
           have n7_ : Aside0 (gb269 ≠ gb275) := ⟨h7_⟩
           have n8_ : Aside0 (gb275 ≠ gb269) := ⟨h8_⟩
           have n9_ : Aside0 (gb270 ≠ gb275) := ⟨h9_⟩
           have n10_ : Aside0 (gb275 ≠ gb270) := ⟨h10_⟩
           have n11_ : Aside0 (gb271 ≠ gb275) := ⟨h11_⟩
           have n12_ : Aside0 (gb275 ≠ gb271) := ⟨h12_⟩
           have n13_ : Aside0 (Below w.heap.size w w53) := ⟨h13_⟩
           clear BK269
           clear BK270
           clear BK271
           clear HB
           clear h0_ h1_ h2_ h3_ h4_ h5_ h6_ h7_ h8_ h9_ h10_ h11_ h12_ h13_
           have HO274 := n0_
           have BK269 := n1_
           have BK270 := n2_
           have BK271 := n3_
           have BK275 := n4_
           have GW275 := n5_
           have GE275 := n6_
           have NB269_275 := n7_
           have NB275_269 := n8_
           have NB270_275 := n9_
           have NB275_270 := n10_
           have NB271_275 := n11_
           have NB275_271 := n12_
           have HB := n13_
           clear n0_ n1_ n2_ n3_ n4_ n5_ n6_ n7_ n8_ n9_ n10_ n11_ n12_ n13_
           have hHeld : w53.cell? ⟨gb269, 0, none⟩ = some (.int .i64 a0_0) ∧ w53.cell? ⟨gb269, 1, none⟩ = some (.slice A0_1 l0_1.length c0_1) := hS_
           obtain ⟨Ao54, co54, eo54⟩ := Kd.N_slice HO274.out
           (first | subst eo54 | (injection eo54 with f1_ f2_ f3_; have f4_ := f1_.symm; have f5_ := f3_.symm; clear f1_ f2_ f3_; subst f4_; subst f5_))
           refine norm_ (a' := ?_) ?_ ?_
           rotate_left
           ·simp only [putAll, Act.put, List.setIfInBounds_toArray, List.set_cons_zero, List.set_cons_succ]
            rfl
           refine one_ (i := 7) (N := none) (bA_ 8 255) rfl rfl (one_of HT_.out (by kernel_rfl)) (by decide) (fun K hK => ?_)
           have hs55 : w53.cell? ⟨gb275, 0, none⟩ = some (.int .i64 0) := bc_ BK275 0
           have hfs55 := blk_frozen BK275.out 0
           have hns55_0 := NB269_275.out
           have hns55_1 := NB270_275.out
           have hns55_2 := NB271_275.out
           have hms55_0 := NB275_269.out
           have hms55_1 := NB275_270.out
           have hms55_2 := NB275_271.out
           have hs56 : w53.cell? ⟨gb275, 1, none⟩ = some (.slice none 0 0) := bc_ BK275 1
           have hfs56 := blk_frozen BK275.out 1
           have hns56_0 := NB269_275.out
           have hns56_1 := NB270_275.out
           have hns56_2 := NB271_275.out
           have hms56_0 := NB275_269.out
           have hms56_1 := NB275_270.out
           have hms56_2 := NB275_271.out
           refine skip_ (w1 := ?_) (by rfl) rfl ?_ ?_
           rotate_left
           ·go_simp
            rfl
           refine hK.out _ _ ⟨((cell_far (p := ⟨gb275, _, none⟩) NB269_275.out _).trans (((cell_far (p := ⟨gb275, _, none⟩) NB269_275.out _).trans (hHeld.1)))), ((cell_far (p := ⟨gb275, _, none⟩) NB269_275.out _).trans (((cell_far (p := ⟨gb275, _, none⟩) NB269_275.out _).trans (hHeld.2))))⟩ (fun hHeld => ?_)
           clear hK K
           refine done_ (done_of HT_.out (by kernel_rfl)) ?_
           have hnb57 := NB270_269.out
           have hnc57 := NB269_270.out
           have hnb58 := NB270_271.out
           have hnc58 := NB271_270.out
           have hnb59 := NB270_275.out
           have hnc59 := NB275_270.out
           obtain ⟨hcz60_0, hcz60_1, hcz60_2, hcz60_3, hfz60_0, hfz60_1, hfz60_2, hfz60_3⟩ := bx4_ BK270
           have hnb61 := NB269_271.out
           have hnc61 := NB271_269.out
           have hnb62 := NB269_275.out
           have hnc62 := NB275_269.out
           obtain ⟨hcz63_0, hcz63_1, hfz63_0, hfz63_1⟩ := bx2_ BK269
           have p281 : 0 ≤ (a1_1 : Int) := da_
           have q281 : a1_1 < (l0_1.length : Int) := da_
           obtain ⟨ad281, A281_0, c281_0, e281, hx281_0, hl281_0, hi281_0⟩ := at_L1 HR0_1.out a1_1 p281 q281
           cases e281
           have hn281_0 : ad281.block ≠ gb275 := Nat.ne_of_lt (Nat.lt_of_lt_of_le (by have := World.block_lt_of_cell? _ _ hx281_0; first | rwa [add_block] at this | exact this) GW275.out)
           have hn281_1 : ad281.block ≠ gb275 := Nat.ne_of_lt (Nat.lt_of_lt_of_le (by have := World.block_lt_of_cell? _ _ hx281_0; first | rwa [add_block] at this | exact this) GW275.out)
           replace hx281_0 := ce_ HB hx281_0
           have HR281_0 := am_ hi281_0
           have HC281_0 := am_ hl281_0
           clear hi281_0 hl281_0
           replace hx281_0 := (cell_far (p := ⟨gb275, 0, none⟩) (by first | (rw [add_block]; exact hn281_0) | (show (Addr.add _ _).block ≠ _; rw [add_block]; exact hn281_0) | exact hn281_0) (.int .i64 a0_0)).trans hx281_0
           replace hx281_0 := (cell_far (p := ⟨gb275, 1, none⟩) (by first | (rw [add_block]; exact hn281_1) | (show (Addr.add _ _).block ≠ _; rw [add_block]; exact hn281_1) | exact hn281_1) (.slice Ao54 t272.length co54)).trans hx281_0
           clear hn281_0
           clear hn281_1
           replace p281 := eq_true p281
           replace q281 := eq_true q281
           try go_wp2
           have n0_ : Aside0 (Kd.N (Kd.slice 2 (Kd.int .i64)) 39 ((w53.setCell ⟨gb275, 0, none⟩ (.int .i64 a0_0)).setCell ⟨gb275, 1, none⟩ (.slice Ao54 t272.length co54)) w.heap.size (fun k_ => (w.heap.size ≤ k_) ∧ k_ ≠ gb269 ∧ k_ ≠ gb270 ∧ k_ ≠ gb271 ∧ k_ ≠ gb275) (.slice Ao54 t272.length co54) t272) := ⟨Nx_ (Kd.N_mono (Kd.N_far (p := ⟨gb275, 1, none⟩) (Kd.N_far (p := ⟨gb275, 0, none⟩) (Kd.N_mono HO274.out (fun k_ hk => (⟨hk, hk.2.2.2.2⟩ : _ ∧ k_ ≠ gb275))) (fun _ hk => hk.2) (.int .i64 a0_0)) (fun _ hk => hk.2) (.slice Ao54 t272.length co54)) (fun _ hk => ⟨hk.1.1, ⟨hk.1.2.1, ⟨hk.1.2.2.1, ⟨hk.1.2.2.2.1, hk.1.2.2.2.2⟩⟩⟩⟩))⟩
           have n1_ : Aside0 (((w53.setCell ⟨gb275, 0, none⟩ (.int .i64 a0_0)).setCell ⟨gb275, 1, none⟩ (.slice Ao54 t272.length co54)).heap[gb269]? = some (.cells #[.int .i64 a0_0, .slice (some ad281) l0_1.length c0_1] 28 (0, 0))) := ⟨bk_ BK269.out⟩
           have n2_ : Aside0 (((w53.setCell ⟨gb275, 0, none⟩ (.int .i64 a0_0)).setCell ⟨gb275, 1, none⟩ (.slice Ao54 t272.length co54)).heap[gb270]? = some (.cells #[.int .i64 a1_0, .int .i64 a1_1, .int .i64 a1_2, .slice A1_3 l1_3.length c1_3] 44 (0, 0))) := ⟨bk_ BK270.out⟩
           have n3_ : Aside0 (((w53.setCell ⟨gb275, 0, none⟩ (.int .i64 a0_0)).setCell ⟨gb275, 1, none⟩ (.slice Ao54 t272.length co54)).heap[gb271]? = some (.cells #[.int .i64 0, .slice none 0 0] 28 (0, 0))) := ⟨bk_ BK271.out⟩
           have n4_ : Aside0 (((w53.setCell ⟨gb275, 0, none⟩ (.int .i64 a0_0)).setCell ⟨gb275, 1, none⟩ (.slice Ao54 t272.length co54)).heap[gb275]? = some (.cells #[.int .i64 a0_0, .slice Ao54 t272.length co54] 28 (0, 0))) := ⟨pu2_ BK275⟩
           have n5_ : Aside0 (Below w.heap.size w ((w53.setCell ⟨gb275, 0, none⟩ (.int .i64 a0_0)).setCell ⟨gb275, 1, none⟩ (.slice Ao54 t272.length co54))) := ⟨bb_ HB.out⟩
           (try clear HO274)
           (try clear BK269)
           (try clear BK270)
           (try clear BK271)
           (try clear BK275)
           (try clear HB)
           generalize ((w53.setCell ⟨gb275, 0, none⟩ (.int .i64 a0_0)).setCell ⟨gb275, 1, none⟩ (.slice Ao54 t272.length co54)) = w64 at n0_ n1_ n2_ n3_ n4_ n5_ ⊢
           have HO274 := n0_
           have BK269 := n1_
           have BK270 := n2_
           have BK271 := n3_
           have BK275 := n4_
           have HB := n5_
           clear n0_ n1_ n2_ n3_ n4_ n5_
           have n0_ := am_ (Kd.N_drew HO274.out)
           have n1_ := am_ (blk_drew BK269.out)
           have n2_ := am_ (blk_drew BK270.out)
           have n3_ := am_ (blk_drew BK271.out)
           have n4_ := am_ (blk_drew BK275.out)
           have n5_ := am_ (below_drew1 HB.out)
           clear HO274 BK269 BK270 BK271 BK275 HB; revert n0_ n1_ n2_ n3_ n4_ n5_; intro HO274 BK269 BK270 BK271 BK275 HB
           obtain ⟨i066, hi066, _, hsz66, _⟩ := info_parts info2
           obtain ⟨A66, hcut66, hA66, hC66⟩ := print_drop_of (P := Try.prog) (Value.int .i64) 0 39 2 .i64 Try.underlying39 hi066 hsz66 A281_0 c281_0 (rd_L1 l0_1 a1_1) 1 (by omega) da_ HC281_0.out
           have HR285 := am_ (Kd.C_of_reads (h1 := fun _ => rfl) (hA66 _ (Kd.reads_of_C HR281_0.out)))
           have HC285 := am_ hC66
           clear hA66 hC66 hi066 hsz66
           have p289 : 0 ≤ (0 : Int) := (by omega)
           have q289 : 0 < ((rd_L1 l0_1 a1_1).length : Int) := da_
           obtain ⟨ad289, e289, hx289_0⟩ := Kd.at_int HR281_0.out 0 p289 q289
           have hw289_0 := hx289_0
           (try rw [show ((0 : Int)).toNat = 0 from rfl] at hw289_0)
           (try rw [show 0 * 1 = 0 from rfl] at hw289_0)
           (try rw [Addr.add_zero'] at hw289_0)
           cases e289
           have qi289 : (0 < (rd_L1 l0_1 a1_1).length) = True := eq_true (by omega)
           (try rw [show ((0 : Int)).toNat = 0 from rfl] at hx289_0)
           (try rw [Addr.add_zero'] at hx289_0)
           replace hx289_0 := ce_ HB hx289_0
           replace p289 := eq_true p289
           replace q289 := eq_true q289
           refine start_ (n := 16) (S := fun w' => w'.cell? ⟨gb275, 0, none⟩ = some (.int .i64 a0_0) ∧ w'.cell? ⟨gb275, 1, none⟩ = some (.slice Ao54 t272.length co54) ∧ w'.cell? ⟨gb270, 0, none⟩ = some (.int .i64 a1_0) ∧ w'.cell? ⟨gb270, 1, none⟩ = some (.int .i64 a1_1) ∧ w'.cell? ⟨gb270, 2, none⟩ = some (.int .i64 a1_2) ∧ w'.cell? ⟨gb270, 3, none⟩ = some (.slice A1_3 l1_3.length c1_3) ∧ w'.cell? ad289 = some (.int .i64 (rd (rd_L1 l0_1 a1_1) 0))) (ds := [15]) (bA_ 16 0) (by kernel_rfl) rfl (by kernel_rfl) ⟨bc_ BK275 0, bc_ BK275 1, bc_ BK270 0, bc_ BK270 1, bc_ BK270 2, bc_ BK270 3, (cf_ HB hw289_0)⟩ (fun hHeld => ?_); refine with_tabW spec_l04Move.tab10 spec_l04Move.bits10 (fun HT_ HW_ => ?_)
           generalize w64.drew = w65 at HO274 BK269 BK270 BK271 BK275 HB HR285 hx289_0 hHeld ⊢
           refine pz_ 0 56 (bA_ 16 1) HT_ ?_
           refine pz_ 2 58 (bA_ 16 5) HT_ ?_
           refine pz_ 5 61 (bA_ 16 37) HT_ ?_
           refine pz_ 6 62 (bA_ 16 101) HT_ ?_
           refine pz_ 8 64 (bA_ 16 357) HT_ ?_
           refine pz_ 9 65 (bA_ 16 869) HT_ ?_
           refine tz_ 1 57 (bA_ 16 871) HT_ HW_ hHeld ?_
           refine tz_ 3 59 (bA_ 16 879) HT_ HW_ hHeld ?_
           refine tz_ 10 66 (bA_ 16 1903) HT_ HW_ hHeld ?_
           refine join_ (σ := Value × Value × Value) 4 (bA_ 16 4095) (fun s_ => [(60, s_.1), (63, s_.2.1), (67, s_.2.2)]) (fun s_ w' => (w'.cell? ⟨gb275, 0, none⟩ = some (.int .i64 a0_0) ∧ w'.cell? ⟨gb275, 1, none⟩ = some (.slice Ao54 t272.length co54) ∧ w'.cell? ⟨gb270, 0, none⟩ = some (.int .i64 a1_0) ∧ w'.cell? ⟨gb270, 1, none⟩ = some (.int .i64 a1_1) ∧ w'.cell? ⟨gb270, 2, none⟩ = some (.int .i64 a1_2) ∧ w'.cell? ⟨gb270, 3, none⟩ = some (.slice A1_3 l1_3.length c1_3) ∧ w'.cell? ad289 = some (.int .i64 (rd (rd_L1 l0_1 a1_1) 0))) ∧ (Kd.N (Kd.slice 2 (Kd.int .i64)) 39 w' w.heap.size (fun k_ => (w.heap.size ≤ k_) ∧ some k_ ≠ (s_.2.1 : Value).ownBlock ∧ some k_ ≠ (s_.2.2 : Value).ownBlock ∧ k_ ≠ gb269 ∧ k_ ≠ gb270 ∧ k_ ≠ gb271 ∧ k_ ≠ gb275) (.slice Ao54 t272.length co54) t272) ∧ (Kd.R (Kd.int .i64) 2 w' w.heap.size (fun k_ => (w.heap.size ≤ k_) ∧ some k_ ≠ (s_.2.2 : Value).ownBlock) s_.2.1 y286) ∧ (Kd.R (Kd.int .i64) 2 w' w.heap.size (fun k_ => (w.heap.size ≤ k_) ∧ some k_ ≠ (s_.2.1 : Value).ownBlock) s_.2.2 y290) ∧ (w'.heap[gb269]? = some (.cells #[.int .i64 a0_0, .slice (some ad281) l0_1.length c0_1] 28 (0, 0))) ∧ (w'.heap[gb270]? = some (.cells #[.int .i64 a1_0, .int .i64 a1_1, .int .i64 a1_2, .slice A1_3 l1_3.length c1_3] 44 (0, 0))) ∧ (w'.heap[gb271]? = some (.cells #[.int .i64 0, .slice none 0 0] 28 (0, 0))) ∧ (w'.heap[gb275]? = some (.cells #[.int .i64 a0_0, .slice Ao54 t272.length co54] 28 (0, 0))) ∧ (Below w.heap.size w w')) ?_ ?_
           rotate_left
           ·intro hCont
            refine two_ (i := 4) (j := 11) (Ni := some 60) (Nj := some 67) (bA_ 16 1919) (bA_ 16 3951) rfl rfl rfl rfl (two_of HT_.out (by kernel_rfl)) (by decide) (by decide) (fun K hK => ?_) (fun K hK => ?_)
            ·skip
             refine Kd.R_lit_step (Kd.int .i64) _ 2 ?hg (N := 60) ?hd (xs := ([] : List Int)) (inner := []) (ok := fun _ => True) (okp := fun _ => True) ?hr ?hp (fun _ hk => hk) trivial (Below.refl _ _) (Nat.le_refl _) (by simp) ?_; (case hd => rfl); (case hg => rfl); (case hr => first | (go_simp; done) | (go_simp; rfl)); (case hp => exact (Reps.none _ _))
             intro v283 w67 ho68 hb hg_ hnew_
             clear hg_ hnew_
             (first | rw [← Ny282.out] at ho68 | (simp only [Int.reduceToNat] at ho68; rw [← Ny282.out] at ho68))
             have n0_ := am_ (Kd.N_elder' (Nx_ HO274.out) (Kd.R_base ho68) hb)
             have n1_ := am_ (Kd.R_lower (Kd.R_newM (M := fun k_ => (w.heap.size ≤ k_)) ho68 (below_size (bb_ HB.out)) (fun k_ h_ => h_)) (below_size (bb_ HB.out)))
             have n2_ := am_ (bw_ BK269 hb)
             have n3_ := am_ (bw_ BK270 hb)
             have n4_ := am_ (bw_ BK271 hb)
             have n5_ := am_ (bw_ BK275 hb)
             have n6_ := am_ (below_step (bb_ HB.out) hb)
             clear HO274 BK269 BK270 BK271 BK275 HB; revert n0_ n1_ n2_ n3_ n4_ n5_ n6_; intro HO274 HO284 BK269 BK270 BK271 BK275 HB
             clear hb ho68
             refine hK.out _ _ ⟨bc_ BK275 0, bc_ BK275 1, bc_ BK270 0, bc_ BK270 1, bc_ BK270 2, bc_ BK270 3, (cf_ HB hw289_0)⟩ (fun hHeld => ?_)
             clear hK K
             refine nm_ 60 ?_
             refine two_ (i := 7) (j := 11) (Ni := some 63) (Nj := some 67) (bA_ 16 2047) (bA_ 16 3967) rfl rfl rfl rfl (two_of HT_.out (by kernel_rfl)) (by decide) (by decide) (fun K hK => ?_) (fun K hK => ?_)
             ·skip
              refine Kd.R_append_rows_step (Kd.int .i64) (w0 := w) w.heap.size (by rfl) (.tmp 60) (.tmp 62) 39 2 (.int .i64 0) 8 rfl Try.underlying39 info2 rfl (by decide) (by omega) v283 y282 ((rd_L1 l0_1 a1_1).drop 1) _ _ _ (fun k_ => (w.heap.size ≤ k_)) (fun _ => False) rfl rfl ?aO ?aR (fun _ _ h => h) (fun _ h => h.elim) ?aF ?aB ?aS ?aL ?_
              (case aR => first | ((exact cb_ HR285 HB); done) | (refine len_ ?_ (show ((rd_L1 l0_1 a1_1).drop 1).length = ((rd_L1 l0_1 a1_1).length - 1) from List.length_drop); exact cb_ HR285 HB))
              (case aB => exact (bb_ HB.out))
              (case aF => exact (fun k_ hk => (Nat.le_trans (below_size (bb_ HB.out)) hk)))
              (case aO => exact (rm_ HO284.out (fun _ hk => hk.1)))
              (case aS => exact (below_size (bb_ HB.out)))
              (case aL => have := LMc40.out; have hlx_ := (show ((rd_L1 l0_1 a1_1).drop 1).length = ((rd_L1 l0_1 a1_1).length - 1) from List.length_drop); omega)
              intro v287 w69 ho hb hg hat
              rw [← Ny286.out] at ho
              have n0_ := am_ (blk_grown (g := gb269) (o := .cells #[.int .i64 a0_0, .slice (some ad281) l0_1.length c0_1] 28 (0, 0)) (bk_ BK269.out) hg (Kd.R_ne HO284.out BK269.out (by decide)))
              have n1_ := am_ (blk_grown (g := gb270) (o := .cells #[.int .i64 a1_0, .int .i64 a1_1, .int .i64 a1_2, .slice A1_3 l1_3.length c1_3] 44 (0, 0)) (bk_ BK270.out) hg (Kd.R_ne HO284.out BK270.out (by decide)))
              have n2_ := am_ (blk_grown (g := gb271) (o := .cells #[.int .i64 0, .slice none 0 0] 28 (0, 0)) (bk_ BK271.out) hg (Kd.R_ne HO284.out BK271.out (by decide)))
              have n3_ := am_ (Kd.N_afterv (ok := (fun k_ => (w.heap.size ≤ k_) ∧ k_ ≠ gb269 ∧ k_ ≠ gb270 ∧ k_ ≠ gb271 ∧ k_ ≠ gb275)) (Nx_ HO274.out) hg hat)
              have n4_ := am_ (blk_grown (g := gb275) (o := .cells #[.int .i64 a0_0, .slice Ao54 t272.length co54] 28 (0, 0)) (bk_ BK275.out) hg (Kd.R_ne HO284.out BK275.out (by decide)))
              have n5_ := am_ (hb)
              have n6_ := am_ (ho)
              clear BK269 BK270 BK271 HO274 BK275 HB HO284; revert n0_ n1_ n2_ n3_ n4_ n5_ n6_; intro BK269 BK270 BK271 HO274 BK275 HB HO288
              clear ho hb hg hat
              refine hK.out _ _ ⟨bc_ BK275 0, bc_ BK275 1, bc_ BK270 0, bc_ BK270 1, bc_ BK270 2, bc_ BK270 3, (cf_ HB hw289_0)⟩ (fun hHeld => ?_)
              clear hK K
              refine nm_ 63 ?_
              refine oz_ 11 67 (bA_ 16 4095) HT_ (fun K hK => ?_)
              refine Kd.R_lit_step (Kd.int .i64) _ 2 ?hg (N := 67) ?hd (xs := ([rd (rd_L1 l0_1 a1_1) 0] : List Int)) (inner := [.int .i64 (rd (rd_L1 l0_1 a1_1) 0)]) (ok := fun _ => True) (okp := fun _ => True) ?hr ?hp (fun _ hk => hk) trivial (Below.refl _ _) (Nat.le_refl _) (by simp) ?_; (case hd => rfl); (case hg => rfl); (case hr => first | (go_simp; done) | (go_simp; rfl)); (case hp => exact (Reps.one (show Kd.M (Kd.int .i64) _ _ _ (rd (rd_L1 l0_1 a1_1) 0) [.int .i64 (rd (rd_L1 l0_1 a1_1) 0)] from rfl) (Reps.none _ _)))
              intro v291 w70 ho71 hb hg_ hnew_
              clear hg_ hnew_
              (first | rw [← Ny290.out] at ho71 | (simp only [Int.reduceToNat] at ho71; rw [← Ny290.out] at ho71))
              have n0_ := am_ (Kd.N_elder' (Nx_ HO274.out) (Kd.R_base ho71) hb)
              have n1_ := am_ (Kd.R_elder' (rk_ HO288.out) (Kd.R_base ho71) hb)
              have n2_ := am_ (Kd.R_lower (Kd.R_new' (Kd.R_newM (M := fun k_ => (w.heap.size ≤ k_)) ho71 (below_size (bb_ HB.out)) (fun k_ h_ => h_)) (Kd.R_lt (rk_ HO288.out))) (below_size (bb_ HB.out)))
              have n3_ := am_ (bw_ BK269 hb)
              have n4_ := am_ (bw_ BK270 hb)
              have n5_ := am_ (bw_ BK271 hb)
              have n6_ := am_ (bw_ BK275 hb)
              have n7_ := am_ (below_step (bb_ HB.out) hb)
              clear HO274 HO288 BK269 BK270 BK271 BK275 HB; revert n0_ n1_ n2_ n3_ n4_ n5_ n6_ n7_; intro HO274 HO288 HO292 BK269 BK270 BK271 BK275 HB
              clear hb ho71
              refine hK.out _ _ ⟨bc_ BK275 0, bc_ BK275 1, bc_ BK270 0, bc_ BK270 1, bc_ BK270 2, bc_ BK270 3, (cf_ HB hw289_0)⟩ (fun hHeld => ?_)
              clear hK K
              refine nm_ 67 ?_
              exact norm_ (by simp only [putAll, Act.put, List.setIfInBounds_toArray, List.set_cons_zero, List.set_cons_succ]) (hCont (v283, v287, v291) _ ⟨hHeld, (Nx_ (Kd.N_mono HO274.out (fun _ hk => ⟨hk.1.1.1, ⟨hk.1.2, ⟨hk.2, ⟨hk.1.1.2.1, ⟨hk.1.1.2.2.1, ⟨hk.1.1.2.2.2.1, hk.1.1.2.2.2.2⟩⟩⟩⟩⟩⟩))), (rk_ HO288.out), (rm_ HO292.out (fun _ hk => ⟨hk.1.1, hk.2⟩)), (bk_ BK269.out), (bk_ BK270.out), (bk_ BK271.out), (bk_ BK275.out), (bb_ HB.out)⟩)
             ·skip
              refine Kd.R_lit_step (Kd.int .i64) _ 2 ?hg (N := 67) ?hd (xs := ([rd (rd_L1 l0_1 a1_1) 0] : List Int)) (inner := [.int .i64 (rd (rd_L1 l0_1 a1_1) 0)]) (ok := fun _ => True) (okp := fun _ => True) ?hr ?hp (fun _ hk => hk) trivial (Below.refl _ _) (Nat.le_refl _) (by simp) ?_; (case hd => rfl); (case hg => rfl); (case hr => first | (go_simp; done) | (go_simp; rfl)); (case hp => exact (Reps.one (show Kd.M (Kd.int .i64) _ _ _ (rd (rd_L1 l0_1 a1_1) 0) [.int .i64 (rd (rd_L1 l0_1 a1_1) 0)] from rfl) (Reps.none _ _)))
              intro v291 w69 ho70 hb hg_ hnew_
              clear hg_ hnew_
              (first | rw [← Ny290.out] at ho70 | (simp only [Int.reduceToNat] at ho70; rw [← Ny290.out] at ho70))
              have n0_ := am_ (Kd.N_elder' (Nx_ HO274.out) (Kd.R_base ho70) hb)
              have n1_ := am_ (Kd.R_elder' (rk_ HO284.out) (Kd.R_base ho70) hb)
              have n2_ := am_ (Kd.R_lower (Kd.R_new' (Kd.R_newM (M := fun k_ => (w.heap.size ≤ k_)) ho70 (below_size (bb_ HB.out)) (fun k_ h_ => h_)) (Kd.R_lt (rk_ HO284.out))) (below_size (bb_ HB.out)))
              have n3_ := am_ (bw_ BK269 hb)
              have n4_ := am_ (bw_ BK270 hb)
              have n5_ := am_ (bw_ BK271 hb)
              have n6_ := am_ (bw_ BK275 hb)
              have n7_ := am_ (below_step (bb_ HB.out) hb)
              clear HO274 HO284 BK269 BK270 BK271 BK275 HB; revert n0_ n1_ n2_ n3_ n4_ n5_ n6_ n7_; intro HO274 HO284 HO292 BK269 BK270 BK271 BK275 HB
              clear hb ho70
              refine hK.out _ _ ⟨bc_ BK275 0, bc_ BK275 1, bc_ BK270 0, bc_ BK270 1, bc_ BK270 2, bc_ BK270 3, (cf_ HB hw289_0)⟩ (fun hHeld => ?_)
              clear hK K
              refine nm_ 67 ?_
              refine oz_ 7 63 (bA_ 16 4095) HT_ (fun K hK => ?_)
              refine Kd.R_append_rows_step (Kd.int .i64) (w0 := w) w.heap.size (by rfl) (.tmp 60) (.tmp 62) 39 2 (.int .i64 0) 8 rfl Try.underlying39 info2 rfl (by decide) (by omega) v283 y282 ((rd_L1 l0_1 a1_1).drop 1) _ _ _ (fun k_ => (w.heap.size ≤ k_) ∧ some k_ ≠ (v291 : Value).ownBlock) (fun _ => False) rfl rfl ?aO ?aR (fun _ _ h => h) (fun _ h => h.elim) ?aF ?aB ?aS ?aL ?_
              (case aR => first | ((exact cb_ HR285 HB); done) | (refine len_ ?_ (show ((rd_L1 l0_1 a1_1).drop 1).length = ((rd_L1 l0_1 a1_1).length - 1) from List.length_drop); exact cb_ HR285 HB))
              (case aB => exact (bb_ HB.out))
              (case aF => exact (fun k_ hk => ⟨(Nat.le_trans (below_size (bb_ HB.out)) hk), Kd.fresh' (Kd.R_lt (rk_ HO292.out)) k_ hk⟩))
              (case aO => exact (rm_ HO284.out (fun _ hk => ⟨hk.1.1, hk.2⟩)))
              (case aS => exact (below_size (bb_ HB.out)))
              (case aL => have := LMc40.out; have hlx_ := (show ((rd_L1 l0_1 a1_1).drop 1).length = ((rd_L1 l0_1 a1_1).length - 1) from List.length_drop); omega)
              intro v287 w71 ho hb hg hat
              rw [← Ny286.out] at ho
              have n0_ := am_ (blk_grown (g := gb269) (o := .cells #[.int .i64 a0_0, .slice (some ad281) l0_1.length c0_1] 28 (0, 0)) (bk_ BK269.out) hg (Kd.R_ne HO284.out BK269.out (by decide)))
              have n1_ := am_ (blk_grown (g := gb270) (o := .cells #[.int .i64 a1_0, .int .i64 a1_1, .int .i64 a1_2, .slice A1_3 l1_3.length c1_3] 44 (0, 0)) (bk_ BK270.out) hg (Kd.R_ne HO284.out BK270.out (by decide)))
              have n2_ := am_ (blk_grown (g := gb271) (o := .cells #[.int .i64 0, .slice none 0 0] 28 (0, 0)) (bk_ BK271.out) hg (Kd.R_ne HO284.out BK271.out (by decide)))
              have n3_ := am_ (Kd.N_afterv (ok := (fun k_ => (w.heap.size ≤ k_) ∧ some k_ ≠ (v291 : Value).ownBlock ∧ k_ ≠ gb269 ∧ k_ ≠ gb270 ∧ k_ ≠ gb271 ∧ k_ ≠ gb275)) (Nx_ (Kd.N_mono HO274.out (fun _ hk => ⟨⟨hk.1.1.1, ⟨hk.2, ⟨hk.1.1.2.1, ⟨hk.1.1.2.2.1, ⟨hk.1.1.2.2.2.1, hk.1.1.2.2.2.2⟩⟩⟩⟩⟩, hk.1.2⟩))) hg hat)
              have n4_ := am_ (blk_grown (g := gb275) (o := .cells #[.int .i64 a0_0, .slice Ao54 t272.length co54] 28 (0, 0)) (bk_ BK275.out) hg (Kd.R_ne HO284.out BK275.out (by decide)))
              have n5_ := am_ (Kd.R_after (ok := (fun k_ => (w.heap.size ≤ k_))) (rm_ HO292.out (fun _ hk => ⟨hk.1.1, hk.2⟩)) hg hat)
              have n6_ := am_ (hb)
              have n7_ := am_ (ho)
              clear BK269 BK270 BK271 HO274 BK275 HO292 HB HO284; revert n0_ n1_ n2_ n3_ n4_ n5_ n6_ n7_; intro BK269 BK270 BK271 HO274 BK275 HO292 HB HO288
              clear ho hb hg hat
              refine hK.out _ _ ⟨bc_ BK275 0, bc_ BK275 1, bc_ BK270 0, bc_ BK270 1, bc_ BK270 2, bc_ BK270 3, (cf_ HB hw289_0)⟩ (fun hHeld => ?_)
              clear hK K
              refine nm_ 63 ?_
              exact norm_ (by simp only [putAll, Act.put, List.setIfInBounds_toArray, List.set_cons_zero, List.set_cons_succ]) (hCont (v283, v287, v291) _ ⟨hHeld, (Nx_ (Kd.N_mono HO274.out (fun _ hk => ⟨hk.1.1, ⟨hk.2, ⟨hk.1.2.1, ⟨hk.1.2.2.1, ⟨hk.1.2.2.2.1, ⟨hk.1.2.2.2.2.1, hk.1.2.2.2.2.2⟩⟩⟩⟩⟩⟩))), (rk_ HO288.out), (rk_ HO292.out), (bk_ BK269.out), (bk_ BK270.out), (bk_ BK271.out), (bk_ BK275.out), (bb_ HB.out)⟩)
            ·skip
             refine Kd.R_lit_step (Kd.int .i64) _ 2 ?hg (N := 67) ?hd (xs := ([rd (rd_L1 l0_1 a1_1) 0] : List Int)) (inner := [.int .i64 (rd (rd_L1 l0_1 a1_1) 0)]) (ok := fun _ => True) (okp := fun _ => True) ?hr ?hp (fun _ hk => hk) trivial (Below.refl _ _) (Nat.le_refl _) (by simp) ?_; (case hd => rfl); (case hg => rfl); (case hr => first | (go_simp; done) | (go_simp; rfl)); (case hp => exact (Reps.one (show Kd.M (Kd.int .i64) _ _ _ (rd (rd_L1 l0_1 a1_1) 0) [.int .i64 (rd (rd_L1 l0_1 a1_1) 0)] from rfl) (Reps.none _ _)))
             intro v291 w67 ho68 hb hg_ hnew_
             clear hg_ hnew_
             (first | rw [← Ny290.out] at ho68 | (simp only [Int.reduceToNat] at ho68; rw [← Ny290.out] at ho68))
             have n0_ := am_ (Kd.N_elder' (Nx_ HO274.out) (Kd.R_base ho68) hb)
             have n1_ := am_ (Kd.R_lower (Kd.R_newM (M := fun k_ => (w.heap.size ≤ k_)) ho68 (below_size (bb_ HB.out)) (fun k_ h_ => h_)) (below_size (bb_ HB.out)))
             have n2_ := am_ (bw_ BK269 hb)
             have n3_ := am_ (bw_ BK270 hb)
             have n4_ := am_ (bw_ BK271 hb)
             have n5_ := am_ (bw_ BK275 hb)
             have n6_ := am_ (below_step (bb_ HB.out) hb)
             clear HO274 BK269 BK270 BK271 BK275 HB; revert n0_ n1_ n2_ n3_ n4_ n5_ n6_; intro HO274 HO292 BK269 BK270 BK271 BK275 HB
             clear hb ho68
             refine hK.out _ _ ⟨bc_ BK275 0, bc_ BK275 1, bc_ BK270 0, bc_ BK270 1, bc_ BK270 2, bc_ BK270 3, (cf_ HB hw289_0)⟩ (fun hHeld => ?_)
             clear hK K
             refine nm_ 67 ?_
             refine oz_ 4 60 (bA_ 16 3967) HT_ (fun K hK => ?_)
             refine Kd.R_lit_step (Kd.int .i64) _ 2 ?hg (N := 60) ?hd (xs := ([] : List Int)) (inner := []) (ok := fun _ => True) (okp := fun _ => True) ?hr ?hp (fun _ hk => hk) trivial (Below.refl _ _) (Nat.le_refl _) (by simp) ?_; (case hd => rfl); (case hg => rfl); (case hr => first | (go_simp; done) | (go_simp; rfl)); (case hp => exact (Reps.none _ _))
             intro v283 w69 ho70 hb hg_ hnew_
             clear hg_ hnew_
             (first | rw [← Ny282.out] at ho70 | (simp only [Int.reduceToNat] at ho70; rw [← Ny282.out] at ho70))
             have n0_ := am_ (Kd.N_elder' (Nx_ HO274.out) (Kd.R_base ho70) hb)
             have n1_ := am_ (Kd.R_elder' (rk_ HO292.out) (Kd.R_base ho70) hb)
             have n2_ := am_ (Kd.R_lower (Kd.R_new' (Kd.R_newM (M := fun k_ => (w.heap.size ≤ k_)) ho70 (below_size (bb_ HB.out)) (fun k_ h_ => h_)) (Kd.R_lt (rk_ HO292.out))) (below_size (bb_ HB.out)))
             have n3_ := am_ (bw_ BK269 hb)
             have n4_ := am_ (bw_ BK270 hb)
             have n5_ := am_ (bw_ BK271 hb)
             have n6_ := am_ (bw_ BK275 hb)
             have n7_ := am_ (below_step (bb_ HB.out) hb)
             clear HO274 HO292 BK269 BK270 BK271 BK275 HB; revert n0_ n1_ n2_ n3_ n4_ n5_ n6_ n7_; intro HO274 HO292 HO284 BK269 BK270 BK271 BK275 HB
             clear hb ho70
             refine hK.out _ _ ⟨bc_ BK275 0, bc_ BK275 1, bc_ BK270 0, bc_ BK270 1, bc_ BK270 2, bc_ BK270 3, (cf_ HB hw289_0)⟩ (fun hHeld => ?_)
             clear hK K
             refine nm_ 60 ?_
             refine oz_ 7 63 (bA_ 16 4095) HT_ (fun K hK => ?_)
             refine Kd.R_append_rows_step (Kd.int .i64) (w0 := w) w.heap.size (by rfl) (.tmp 60) (.tmp 62) 39 2 (.int .i64 0) 8 rfl Try.underlying39 info2 rfl (by decide) (by omega) v283 y282 ((rd_L1 l0_1 a1_1).drop 1) _ _ _ (fun k_ => (w.heap.size ≤ k_) ∧ some k_ ≠ (v291 : Value).ownBlock) (fun _ => False) rfl rfl ?aO ?aR (fun _ _ h => h) (fun _ h => h.elim) ?aF ?aB ?aS ?aL ?_
             (case aR => first | ((exact cb_ HR285 HB); done) | (refine len_ ?_ (show ((rd_L1 l0_1 a1_1).drop 1).length = ((rd_L1 l0_1 a1_1).length - 1) from List.length_drop); exact cb_ HR285 HB))
             (case aB => exact (bb_ HB.out))
             (case aF => exact (fun k_ hk => ⟨(Nat.le_trans (below_size (bb_ HB.out)) hk), Kd.fresh' (Kd.R_lt (rk_ HO292.out)) k_ hk⟩))
             (case aO => exact (rm_ HO284.out (fun _ hk => ⟨hk.1.1, hk.2⟩)))
             (case aS => exact (below_size (bb_ HB.out)))
             (case aL => have := LMc40.out; have hlx_ := (show ((rd_L1 l0_1 a1_1).drop 1).length = ((rd_L1 l0_1 a1_1).length - 1) from List.length_drop); omega)
             intro v287 w71 ho hb hg hat
             rw [← Ny286.out] at ho
             have n0_ := am_ (blk_grown (g := gb269) (o := .cells #[.int .i64 a0_0, .slice (some ad281) l0_1.length c0_1] 28 (0, 0)) (bk_ BK269.out) hg (Kd.R_ne HO284.out BK269.out (by decide)))
             have n1_ := am_ (blk_grown (g := gb270) (o := .cells #[.int .i64 a1_0, .int .i64 a1_1, .int .i64 a1_2, .slice A1_3 l1_3.length c1_3] 44 (0, 0)) (bk_ BK270.out) hg (Kd.R_ne HO284.out BK270.out (by decide)))
             have n2_ := am_ (blk_grown (g := gb271) (o := .cells #[.int .i64 0, .slice none 0 0] 28 (0, 0)) (bk_ BK271.out) hg (Kd.R_ne HO284.out BK271.out (by decide)))
             have n3_ := am_ (Kd.N_afterv (ok := (fun k_ => (w.heap.size ≤ k_) ∧ some k_ ≠ (v291 : Value).ownBlock ∧ k_ ≠ gb269 ∧ k_ ≠ gb270 ∧ k_ ≠ gb271 ∧ k_ ≠ gb275)) (Nx_ (Kd.N_mono HO274.out (fun _ hk => ⟨⟨hk.1.1.1, ⟨hk.1.2, ⟨hk.1.1.2.1, ⟨hk.1.1.2.2.1, ⟨hk.1.1.2.2.2.1, hk.1.1.2.2.2.2⟩⟩⟩⟩⟩, hk.2⟩))) hg hat)
             have n4_ := am_ (blk_grown (g := gb275) (o := .cells #[.int .i64 a0_0, .slice Ao54 t272.length co54] 28 (0, 0)) (bk_ BK275.out) hg (Kd.R_ne HO284.out BK275.out (by decide)))
             have n5_ := am_ (Kd.R_after (ok := (fun k_ => (w.heap.size ≤ k_))) (rm_ HO292.out (fun _ hk => ⟨hk.1.1, hk.2⟩)) hg hat)
             have n6_ := am_ (hb)
             have n7_ := am_ (ho)
             clear BK269 BK270 BK271 HO274 BK275 HO292 HB HO284; revert n0_ n1_ n2_ n3_ n4_ n5_ n6_ n7_; intro BK269 BK270 BK271 HO274 BK275 HO292 HB HO288
             clear ho hb hg hat
             refine hK.out _ _ ⟨bc_ BK275 0, bc_ BK275 1, bc_ BK270 0, bc_ BK270 1, bc_ BK270 2, bc_ BK270 3, (cf_ HB hw289_0)⟩ (fun hHeld => ?_)
             clear hK K
             refine nm_ 63 ?_
             exact norm_ (by simp only [putAll, Act.put, List.setIfInBounds_toArray, List.set_cons_zero, List.set_cons_succ]) (hCont (v283, v287, v291) _ ⟨hHeld, (Nx_ (Kd.N_mono HO274.out (fun _ hk => ⟨hk.1.1, ⟨hk.2, ⟨hk.1.2.1, ⟨hk.1.2.2.1, ⟨hk.1.2.2.2.1, ⟨hk.1.2.2.2.2.1, hk.1.2.2.2.2.2⟩⟩⟩⟩⟩⟩))), (rk_ HO288.out), (rk_ HO292.out), (bk_ BK269.out), (bk_ BK270.out), (bk_ BK271.out), (bk_ BK275.out), (bb_ HB.out)⟩)
           rintro ⟨v283, v287, v291⟩ w72 ⟨hS_, h0_, h1_, h2_, h3_, h4_, h5_, h6_, h7_⟩
           have n0_ : Aside0 (Kd.N (Kd.slice 2 (Kd.int .i64)) 39 w72 w.heap.size (fun k_ => (w.heap.size ≤ k_) ∧ some k_ ≠ (v287 : Value).ownBlock ∧ some k_ ≠ (v291 : Value).ownBlock ∧ k_ ≠ gb269 ∧ k_ ≠ gb270 ∧ k_ ≠ gb271 ∧ k_ ≠ gb275) (.slice Ao54 t272.length co54) t272) := ⟨h0_⟩
           have n1_ : Aside0 (Kd.R (Kd.int .i64) 2 w72 w.heap.size (fun k_ => (w.heap.size ≤ k_) ∧ some k_ ≠ (v291 : Value).ownBlock) v287 y286) := ⟨h1_⟩
           have n2_ : Aside0 (Kd.R (Kd.int .i64) 2 w72 w.heap.size (fun k_ => (w.heap.size ≤ k_) ∧ some k_ ≠ (v287 : Value).ownBlock) v291 y290) := ⟨h2_⟩
           have n3_ : Aside0 (w72.heap[gb269]? = some (.cells #[.int .i64 a0_0, .slice (some ad281) l0_1.length c0_1] 28 (0, 0))) := ⟨h3_⟩
           have n4_ : Aside0 (w72.heap[gb270]? = some (.cells #[.int .i64 a1_0, .int .i64 a1_1, .int .i64 a1_2, .slice A1_3 l1_3.length c1_3] 44 (0, 0))) := ⟨h4_⟩
           have n5_ : Aside0 (w72.heap[gb271]? = some (.cells #[.int .i64 0, .slice none 0 0] 28 (0, 0))) := ⟨h5_⟩
           have n6_ : Aside0 (w72.heap[gb275]? = some (.cells #[.int .i64 a0_0, .slice Ao54 t272.length co54] 28 (0, 0))) := ⟨h6_⟩
           have n7_ : Aside0 (Below w.heap.size w w72) := ⟨h7_⟩
           clear HO274
           clear BK269
           clear BK270
           clear BK271
           clear BK275
           clear HB
           clear h0_ h1_ h2_ h3_ h4_ h5_ h6_ h7_
           have HO274 := n0_
           have HO288 := n1_
           have HO292 := n2_
           have BK269 := n3_
           have BK270 := n4_
           have BK271 := n5_
           have BK275 := n6_
           have HB := n7_
           clear n0_ n1_ n2_ n3_ n4_ n5_ n6_ n7_
           have hHeld : w72.cell? ⟨gb275, 0, none⟩ = some (.int .i64 a0_0) ∧ w72.cell? ⟨gb275, 1, none⟩ = some (.slice Ao54 t272.length co54) ∧ w72.cell? ⟨gb270, 0, none⟩ = some (.int .i64 a1_0) ∧ w72.cell? ⟨gb270, 1, none⟩ = some (.int .i64 a1_1) ∧ w72.cell? ⟨gb270, 2, none⟩ = some (.int .i64 a1_2) ∧ w72.cell? ⟨gb270, 3, none⟩ = some (.slice A1_3 l1_3.length c1_3) ∧ w72.cell? ad289 = some (.int .i64 (rd (rd_L1 l0_1 a1_1) 0)) := hS_
           obtain ⟨Ao74, co74, eo74⟩ := Kd.R_slice HO292.out
           (first | subst eo74 | (injection eo74 with f1_ f2_ f3_; have f4_ := f1_.symm; have f5_ := f3_.symm; clear f1_ f2_ f3_; subst f4_; subst f5_))
           refine norm_ (a' := ?_) ?_ ?_
           rotate_left
           ·simp only [putAll, Act.put, List.setIfInBounds_toArray, List.set_cons_zero, List.set_cons_succ]
            rfl
           refine oz_ 12 68 (bA_ 16 8191) HT_ (fun K hK => ?_)
           refine Kd.R_append_rows_step (Kd.int .i64) (w0 := w) w.heap.size (by rfl) (.tmp 63) (.tmp 67) 39 2 (.int .i64 0) 8 rfl Try.underlying39 info2 rfl (by decide) (by omega) v287 y286 y290 _ _ _ (fun k_ => (w.heap.size ≤ k_) ∧ some k_ ≠ (.slice Ao74 y290.length co74 : Value).ownBlock) (fun _ => False) rfl rfl ?aO ?aR (fun _ _ h => h) (fun _ h => h.elim) ?aF ?aB ?aS ?aL ?_
           (case aR => exact cz_ (Kd.R_reads' HO292.out).2.2)
           (case aB => exact (bb_ HB.out))
           (case aF => exact (fun k_ hk => ⟨(Nat.le_trans (below_size (bb_ HB.out)) hk), Kd.fresh' (Kd.R_lt (rk_ HO292.out)) k_ hk⟩))
           (case aO => exact (rk_ HO288.out))
           (case aS => exact (below_size (bb_ HB.out)))
           (case aL => have := LMc42.out; omega)
           intro v294 w73 ho hb hg hat
           rw [← Ny293.out] at ho
           have n0_ := am_ (blk_grown (g := gb269) (o := .cells #[.int .i64 a0_0, .slice (some ad281) l0_1.length c0_1] 28 (0, 0)) (bk_ BK269.out) hg (Kd.R_ne HO288.out BK269.out (by decide)))
           have n1_ := am_ (blk_grown (g := gb270) (o := .cells #[.int .i64 a1_0, .int .i64 a1_1, .int .i64 a1_2, .slice A1_3 l1_3.length c1_3] 44 (0, 0)) (bk_ BK270.out) hg (Kd.R_ne HO288.out BK270.out (by decide)))
           have n2_ := am_ (blk_grown (g := gb271) (o := .cells #[.int .i64 0, .slice none 0 0] 28 (0, 0)) (bk_ BK271.out) hg (Kd.R_ne HO288.out BK271.out (by decide)))
           have n3_ := am_ (Kd.N_afterv (ok := (fun k_ => (w.heap.size ≤ k_) ∧ some k_ ≠ (.slice Ao74 y290.length co74 : Value).ownBlock ∧ k_ ≠ gb269 ∧ k_ ≠ gb270 ∧ k_ ≠ gb271 ∧ k_ ≠ gb275)) (Nx_ (Kd.N_mono HO274.out (fun _ hk => ⟨⟨hk.1, ⟨hk.2.2.1, ⟨hk.2.2.2.1, ⟨hk.2.2.2.2.1, ⟨hk.2.2.2.2.2.1, hk.2.2.2.2.2.2⟩⟩⟩⟩⟩, hk.2.1⟩))) hg hat)
           have n4_ := am_ (blk_grown (g := gb275) (o := .cells #[.int .i64 a0_0, .slice Ao54 t272.length co54] 28 (0, 0)) (bk_ BK275.out) hg (Kd.R_ne HO288.out BK275.out (by decide)))
           have n5_ := am_ (Kd.R_after (ok := (fun k_ => (w.heap.size ≤ k_))) (rk_ HO292.out) hg hat)
           have n6_ := am_ (hb)
           have n7_ := am_ (ho)
           clear BK269 BK270 BK271 HO274 BK275 HO292 HB HO288; revert n0_ n1_ n2_ n3_ n4_ n5_ n6_ n7_; intro BK269 BK270 BK271 HO274 BK275 HO292 HB HO295
           clear ho hb hg hat
           obtain ⟨Ao75, co75, eo75⟩ := Kd.R_slice HO295.out
           (first | subst eo75 | (injection eo75 with f1_ f2_ f3_; have f4_ := f1_.symm; have f5_ := f3_.symm; clear f1_ f2_ f3_; subst f4_; subst f5_))
           refine hK.out _ _ ⟨bc_ BK275 0, bc_ BK275 1, bc_ BK270 0, bc_ BK270 1, bc_ BK270 2, bc_ BK270 3, (cf_ HB hw289_0)⟩ (fun hHeld => ?_)
           clear hK K
           refine nm_ 68 ?_
           refine oz_ 13 69 (bA_ 16 16383) HT_ (fun K hK => ?_)
           refine goes_ Try.func87 (by kernel_rfl) rfl #[.slice Ao75 y293.length co75] (by rfl) rfl rfl lm_ ?_
           with_reducible refine (spec_l04Reduce.calls k _ _ y293 t296 _ ?side1 ?side2 A43.out).mono ?_
           (case side1 => exact cz_ (Kd.R_reads' HO295.out).2.2)
           (case side2 => exact (Kd.R_reads' HO295.out).2.1)
           rintro e w76 ⟨v297, rfl, ho0, hb⟩
           refine ⟨_, rfl, ?_⟩
           have n0_ := am_ (Kd.N_elder' (Nx_ HO274.out) (Kd.R_base ho0) hb)
           have n1_ := am_ (Kd.R_elder' (rk_ HO292.out) (Kd.R_base ho0) hb)
           have n2_ := am_ (Kd.R_elder' (rk_ HO295.out) (Kd.R_base ho0) hb)
           have n3_ := am_ (Kd.R_lower (Kd.R_new' (Kd.R_new' (Kd.R_newM (M := fun k_ => (w.heap.size ≤ k_)) ho0 (below_size (bb_ HB.out)) (fun k_ h_ => h_)) (Kd.R_lt (rk_ HO292.out))) (Kd.R_lt (rk_ HO295.out))) (below_size (bb_ HB.out)))
           have n4_ := am_ (bw_ BK269 hb)
           have n5_ := am_ (bw_ BK270 hb)
           have n6_ := am_ (bw_ BK271 hb)
           have n7_ := am_ (bw_ BK275 hb)
           have n8_ := am_ (below_step (bb_ HB.out) hb)
           clear HO274 HO292 HO295 BK269 BK270 BK271 BK275 HB; revert n0_ n1_ n2_ n3_ n4_ n5_ n6_ n7_ n8_; intro HO274 HO292 HO295 HO298 BK269 BK270 BK271 BK275 HB
           (try clear hb)
           (try clear hb2)
           (try clear hk)
           (try clear hi)
           (try clear ho0)
           have p45 : 0 ≤ (a1_1 : Int) := da_
           have q45 : (a1_1 : Int) < ((t272.length : Int) : Int) := da_
           obtain ⟨go45, co45, eo45, gb45, gl45, cl45, HG45⟩ := Kd.N_form HO274.out (by omega)
           (first | cases eo45 | (injection eo45 with ea_ en_ ec_; (first | subst ea_ | (injection ea_ with ea_; subst ea_)); subst ec_; clear en_))
           have GB45 := am_ gb45
           have GG45 := am_ HG45
           clear gb45 gl45 HG45
           obtain ⟨ce45, hcl45, hM45, hcc45, hfr45⟩ := Kd.N_elem HO274.out [] (a1_1 : Int) p45 q45
           obtain ⟨ua45_0, uc45_0, rfl, ul45_0, ge45_0⟩ := Kd.FK_slice_open hM45
           have hx45_0 := hcc45 0 _ rfl
           have hf45_0 := hfr45 0
           (try simp only [show ((Kd.slice 2 (Kd.int .i64))).sz = 1 from rfl, Nat.mul_one, Nat.add_zero] at hx45_0)
           (try simp only [show ((Kd.slice 2 (Kd.int .i64))).sz = 1 from rfl, Nat.mul_one, Nat.add_zero] at hf45_0)
           (try clear hcl45); (try clear hcc45); (try clear hfr45); (try clear hM45)
           replace p45 := eq_true p45
           replace q45 := eq_true q45
           obtain ⟨Az297_, cz297_, ez297_⟩ := Kd.R_slice HO298.out
           subst ez297_
           have HX77 := am_ (show Kd.N (Kd.slice 2 (Kd.int .i64)) 39 _ w.heap.size (fun k_ => (w.heap.size ≤ k_) ∧ some k_ ≠ (.slice Ao74 y290.length co74 : Value).ownBlock ∧ some k_ ≠ (.slice Ao75 y293.length co75 : Value).ownBlock ∧ some k_ ≠ ((.slice Az297_ t296.length cz297_) : Value).ownBlock ∧ k_ ≠ gb269 ∧ k_ ≠ gb270 ∧ k_ ≠ gb271 ∧ k_ ≠ gb275) (.slice (some ⟨go45, 0, none⟩) t272.length co54) t272 from (Kd.N_mono (HO274.out) (fun k_ hk => ⟨hk.1.1.1, ⟨hk.1.1.2.1, ⟨hk.1.2, ⟨hk.2, ⟨hk.1.1.2.2.1, ⟨hk.1.1.2.2.2.1, ⟨hk.1.1.2.2.2.2.1, hk.1.1.2.2.2.2.2⟩⟩⟩⟩⟩⟩⟩)))
           replace HX77 := am_ (show Kd.N (Kd.slice 2 (Kd.int .i64)) 39 _ w.heap.size (fun k_ => (w.heap.size ≤ k_) ∧ some k_ ≠ (.slice Ao74 y290.length co74 : Value).ownBlock ∧ some k_ ≠ (.slice Ao75 y293.length co75 : Value).ownBlock ∧ k_ ≠ gb269 ∧ k_ ≠ gb270 ∧ k_ ≠ gb271 ∧ k_ ≠ gb275) (.slice (some ⟨go45, 0, none⟩) t272.length co54) t272 from Kd.N_mono HX77.out (fun k_ hk => ⟨hk.1, ⟨hk.2.1, ⟨hk.2.2.1, ⟨hk.2.2.2.2.1, ⟨hk.2.2.2.2.2.1, ⟨hk.2.2.2.2.2.2.1, hk.2.2.2.2.2.2.2⟩⟩⟩⟩⟩⟩))
           obtain ⟨ce77, hcl77, hM77, hcc77, hfr77⟩ := Kd.N_elem HX77.out [] (a1_1 : Int) da_ (by have h_ : (a1_1 : Int) < ((t272.length : Int) : Int) := da_; first | exact h_ | (have e_ := (Kd.N_reads' HO274.out).1; omega) | simpa using h_)
           obtain ⟨ua77_0, uc77_0, rfl, ul77_0, ge77_0⟩ := Kd.FK_slice_open hM77
           have HP77 := (Kd.N_seg HX77.out (a1_1 : Int) da_ (by have h_ : (a1_1 : Int) < ((t272.length : Int) : Int) := da_; first | exact h_ | (have e_ := (Kd.N_reads' HO274.out).1; omega) | simpa using h_) (seg := [(.slice Az297_ t296.length cz297_)]) (j := 0) hcl77 hcc77 (show 1 ≤ 1 from by decide) (x' := t296) (Kd.FK_slice_mk (Kd.R_reads' (Kd.R_mono (ok' := (fun k_ => ((fun k_ => (w.heap.size ≤ k_) ∧ some k_ ≠ (.slice Ao74 y290.length co74 : Value).ownBlock ∧ some k_ ≠ (.slice Ao75 y293.length co75 : Value).ownBlock ∧ k_ ≠ gb269 ∧ k_ ≠ gb270 ∧ k_ ≠ gb271 ∧ k_ ≠ gb275)) k_ ∧ k_ ≠ go45)) (Kd.R_types (Kd.R_types (Kd.R_types (Kd.R_types (Kd.R_apart' (HO298.out) (Kd.N_typed HO274.out) (by decide)) BK269.out (by decide)) BK270.out (by decide)) BK271.out (by decide)) BK275.out (by decide)) (fun k_ hk => ⟨⟨hk.1.1.1.1.1.1.1.1, ⟨hk.1.1.1.1.1.1.2, ⟨hk.1.1.1.1.1.2, ⟨hk.1.1.1.2, ⟨hk.1.1.2, ⟨hk.1.2, hk.2⟩⟩⟩⟩⟩⟩, fun e_ => (hk.1.1.1.1.2) (by rw [e_]; rfl)⟩))).2.1 (Kd.R_F (Kd.R_mono (ok' := (fun k_ => ((fun k_ => (w.heap.size ≤ k_) ∧ some k_ ≠ (.slice Ao74 y290.length co74 : Value).ownBlock ∧ some k_ ≠ (.slice Ao75 y293.length co75 : Value).ownBlock ∧ k_ ≠ gb269 ∧ k_ ≠ gb270 ∧ k_ ≠ gb271 ∧ k_ ≠ gb275)) k_ ∧ k_ ≠ go45)) (Kd.R_types (Kd.R_types (Kd.R_types (Kd.R_types (Kd.R_apart' (HO298.out) (Kd.N_typed HO274.out) (by decide)) BK269.out (by decide)) BK270.out (by decide)) BK271.out (by decide)) BK275.out (by decide)) (fun k_ hk => ⟨⟨hk.1.1.1.1.1.1.1.1, ⟨hk.1.1.1.1.1.1.2, ⟨hk.1.1.1.1.1.2, ⟨hk.1.1.1.2, ⟨hk.1.1.2, ⟨hk.1.2, hk.2⟩⟩⟩⟩⟩⟩, fun e_ => (hk.1.1.1.1.2) (by rw [e_]; rfl)⟩)))) (fun _ hk => hk)).1
           (try simp only [show ((Kd.slice 2 (Kd.int .i64))).sz = 1 from rfl, Nat.mul_one, Nat.add_zero] at HP77)
           rw [← Ny299.out] at HP77
           have HQ77 := am_ HP77
           (try clear hcl77); (try clear hcc77); (try clear hfr77); (try clear hM77); (try clear HP77)
           refine hK.out _ _ ⟨bc_ BK275 0, bc_ BK275 1, bc_ BK270 0, bc_ BK270 1, bc_ BK270 2, bc_ BK270 3, (cf_ HB hw289_0)⟩ (fun hHeld => ?_)
           clear hK K
           refine nm_ 69 ?_
           refine pz_ 14 70 (bA_ 16 32767) HT_ ?_
           refine last_ (i := 15) (N := none) (bA_ 16 65535) rfl rfl (one_of HT_.out (by kernel_rfl)) (by decide) (fun K hK => ?_)
           refine skip_ (w1 := ?_) (by rfl) rfl ?_ ?_
           rotate_left
           ·go_simp
            rfl
           refine hK.out _ _ ?_
           clear hK K
           refine done_ (done_of HT_.out (by kernel_rfl)) ?_
           have n0_ : Aside0 (Kd.N (Kd.slice 2 (Kd.int .i64)) 39 (w76.setCell ⟨go45, (a1_1 : Int).toNat, none⟩ ((.slice Az297_ t296.length cz297_))) w.heap.size (fun k_ => (w.heap.size ≤ k_) ∧ some k_ ≠ (.slice Ao74 y290.length co74 : Value).ownBlock ∧ some k_ ≠ (.slice Ao75 y293.length co75 : Value).ownBlock ∧ k_ ≠ gb269 ∧ k_ ≠ gb270 ∧ k_ ≠ gb271 ∧ k_ ≠ gb275) (.slice (some ⟨go45, 0, none⟩) t272.length co54) y299) := ⟨Nx_ HQ77.out⟩
           have n1_ : Aside0 (Kd.R (Kd.int .i64) 2 (w76.setCell ⟨go45, (a1_1 : Int).toNat, none⟩ ((.slice Az297_ t296.length cz297_))) w.heap.size (fun k_ => (w.heap.size ≤ k_) ∧ some k_ ≠ (.slice Ao75 y293.length co75 : Value).ownBlock) (.slice Ao74 y290.length co74) y290) := ⟨rm_ (Kd.R_far (p := ⟨go45, (a1_1 : Int).toNat, none⟩) (Kd.R_types HO292.out GG45.out (by decide)) (fun _ hk => hk.2) ((.slice Az297_ t296.length cz297_))) (fun _ hk => ⟨hk.1.1.1, hk.1.1.2⟩)⟩
           have n2_ : Aside0 (Kd.R (Kd.int .i64) 2 (w76.setCell ⟨go45, (a1_1 : Int).toNat, none⟩ ((.slice Az297_ t296.length cz297_))) w.heap.size (fun k_ => (w.heap.size ≤ k_) ∧ some k_ ≠ (.slice Ao74 y290.length co74 : Value).ownBlock) (.slice Ao75 y293.length co75) y293) := ⟨rm_ (Kd.R_far (p := ⟨go45, (a1_1 : Int).toNat, none⟩) (Kd.R_types HO295.out GG45.out (by decide)) (fun _ hk => hk.2) ((.slice Az297_ t296.length cz297_))) (fun _ hk => ⟨hk.1.1.1, hk.1.1.2⟩)⟩
           have n3_ : Aside0 ((w76.setCell ⟨go45, (a1_1 : Int).toNat, none⟩ ((.slice Az297_ t296.length cz297_))).heap[gb269]? = some (.cells #[.int .i64 a0_0, .slice (some ad281) l0_1.length c0_1] 28 (0, 0))) := ⟨by (with_reducible repeat (first | refine blk_drewN ?_ _ | refine blk_drew ?_ | refine blk_alloc ?_ _)); refine blk_far ?_ (by have h_ := Kd.N_away (g := gb269) HO274.out (fun _ hk => by first | exact hk.2.2.2.1 | exact hk.1.2.2.2.1 | exact hk.1.1.2.2.2.1 | exact hk.1.1.1.2.2.2.1 | (simp [hk]; done)); intro e_; exact h_ (by rw [e_]; rfl)) _; (with_reducible repeat (first | refine blk_drewN ?_ _ | refine blk_drew ?_ | refine blk_alloc ?_ _)); exact BK269.out⟩
           have n4_ : Aside0 ((w76.setCell ⟨go45, (a1_1 : Int).toNat, none⟩ ((.slice Az297_ t296.length cz297_))).heap[gb270]? = some (.cells #[.int .i64 a1_0, .int .i64 a1_1, .int .i64 a1_2, .slice A1_3 l1_3.length c1_3] 44 (0, 0))) := ⟨by (with_reducible repeat (first | refine blk_drewN ?_ _ | refine blk_drew ?_ | refine blk_alloc ?_ _)); refine blk_far ?_ (by have h_ := Kd.N_away (g := gb270) HO274.out (fun _ hk => by first | exact hk.2.2.2.2.1 | exact hk.1.2.2.2.2.1 | exact hk.1.1.2.2.2.2.1 | exact hk.1.1.1.2.2.2.2.1 | (simp [hk]; done)); intro e_; exact h_ (by rw [e_]; rfl)) _; (with_reducible repeat (first | refine blk_drewN ?_ _ | refine blk_drew ?_ | refine blk_alloc ?_ _)); exact BK270.out⟩
           have n5_ : Aside0 ((w76.setCell ⟨go45, (a1_1 : Int).toNat, none⟩ ((.slice Az297_ t296.length cz297_))).heap[gb271]? = some (.cells #[.int .i64 0, .slice none 0 0] 28 (0, 0))) := ⟨by (with_reducible repeat (first | refine blk_drewN ?_ _ | refine blk_drew ?_ | refine blk_alloc ?_ _)); refine blk_far ?_ (by have h_ := Kd.N_away (g := gb271) HO274.out (fun _ hk => by first | exact hk.2.2.2.2.2.1 | exact hk.1.2.2.2.2.2.1 | exact hk.1.1.2.2.2.2.2.1 | exact hk.1.1.1.2.2.2.2.2.1 | (simp [hk]; done)); intro e_; exact h_ (by rw [e_]; rfl)) _; (with_reducible repeat (first | refine blk_drewN ?_ _ | refine blk_drew ?_ | refine blk_alloc ?_ _)); exact BK271.out⟩
           have n6_ : Aside0 ((w76.setCell ⟨go45, (a1_1 : Int).toNat, none⟩ ((.slice Az297_ t296.length cz297_))).heap[gb275]? = some (.cells #[.int .i64 a0_0, .slice (some ⟨go45, 0, none⟩) t272.length co54] 28 (0, 0))) := ⟨by (with_reducible repeat (first | refine blk_drewN ?_ _ | refine blk_drew ?_ | refine blk_alloc ?_ _)); refine blk_far ?_ (by have h_ := Kd.N_away (g := gb275) HO274.out (fun _ hk => by first | exact hk.2.2.2.2.2.2 | exact hk.1.2.2.2.2.2.2 | exact hk.1.1.2.2.2.2.2.2 | exact hk.1.1.1.2.2.2.2.2.2 | (simp [hk]; done)); intro e_; exact h_ (by rw [e_]; rfl)) _; (with_reducible repeat (first | refine blk_drewN ?_ _ | refine blk_drew ?_ | refine blk_alloc ?_ _)); exact BK275.out⟩
           have n7_ : Aside0 (Below w.heap.size w (w76.setCell ⟨go45, (a1_1 : Int).toNat, none⟩ ((.slice Az297_ t296.length cz297_)))) := ⟨bb_ HB.out⟩
           (try clear HO274)
           (try clear HO292)
           (try clear HO295)
           (try clear BK269)
           (try clear BK270)
           (try clear BK271)
           (try clear BK275)
           (try clear HB)
           generalize (w76.setCell ⟨go45, (a1_1 : Int).toNat, none⟩ ((.slice Az297_ t296.length cz297_))) = w78 at n0_ n1_ n2_ n3_ n4_ n5_ n6_ n7_ ⊢
           have HO274 := n0_
           have HO292 := n1_
           have HO295 := n2_
           have BK269 := n3_
           have BK270 := n4_
           have BK271 := n5_
           have BK275 := n6_
           have HB := n7_
           clear n0_ n1_ n2_ n3_ n4_ n5_ n6_ n7_
           have hnb79 := NB275_271.out
           have hnc79 := NB271_275.out
           obtain ⟨hcz80_0, hcz80_1, hfz80_0, hfz80_1⟩ := bx2_ BK275
           obtain ⟨hcz81_0, hcz81_1, hfz81_0, hfz81_1⟩ := bx2_ BK271
           try go_wp2
           refine bodyPost_ret (results_cell_row rfl _ _ gb271 28 #[.int .i64 a0_0, .slice (some ⟨go45, 0, none⟩) t272.length co54] (0, 0) _ rfl (pu2_ BK271) Try.underlying28 rfl (by kernel_rfl)) rfl ?_
           exact ⟨_, er_, Nx_ (Kd.N_mono (Kd.N_far (p := ⟨gb271, 1, none⟩) (Kd.N_far (p := ⟨gb271, 0, none⟩) (Kd.N_mono HO274.out (fun k_ hk => (⟨hk, hk.2.2.2.2.2.1⟩ : _ ∧ k_ ≠ gb271))) (fun _ hk => hk.2) (.int .i64 a0_0)) (fun _ hk => hk.2) (.slice (some ⟨go45, 0, none⟩) t272.length co54)) (fun _ hk => hk.1.1)), bb_ HB.out⟩
          ·rw [if_neg c44] at H
           exact absurd H (by simp)
         ·rw [if_neg c42] at H
          exact absurd H (by simp)
        ·rw [if_neg c41] at H
         exact absurd H (by simp)
       ·rw [if_neg c40] at H
        exact absurd H (by simp)
      ·rw [if_neg c39] at H
       exact absurd H (by simp)
     ·rw [if_neg c38] at H
      have c38b0 : decide (0 < ((rd_L1 l0_1 a1_1).length : Int)) = false := decide_eq_false c38
      have c38b1 : decide (0 < (rd_L1 l0_1 a1_1).length) = false := decide_eq_false (by omega)
      clear c38
      simp only [Option.some.injEq, Prod.mk.injEq] at H
      obtain ⟨rfl, rfl⟩ := H
      go_enter Try.func63, Try.ntmps63
      try go_wp2_with (first | (refine be_ 2 28 #[.int .i64 a0_0, .slice A0_1 l0_1.length c0_1] ?_; intro gb269 hg w82 hbox hb; have n_ := ba0_ HB hbox hb hg; clear  HB hb hbox hg; obtain ⟨HB, BK269, GW269, GE269⟩ := n_) | (refine be_ 3 44 #[.int .i64 a1_0, .int .i64 a1_1, .int .i64 a1_2, .slice A1_3 l1_3.length c1_3] ?_; intro gb270 hg w83 hbox hb; have n_ := ba1_ BK269 HB hbox hb hg; clear BK269 HB hb hbox hg; obtain ⟨BK269, HB, BK270, GW270, GE270, NB269_270, NB270_269⟩ := n_) | (refine be_ 4 28 #[.int .i64 0, .slice none 0 0] ?_; intro gb271 hg w84 hbox hb; have n_ := ba2_ BK269 BK270 HB hbox hb hg; clear BK269 BK270 HB hb hbox hg; obtain ⟨BK269, BK270, HB, BK271, GW271, GE271, NB269_271, NB271_269, NB270_271, NB271_270⟩ := n_))
      have n0_ := am_ (blk_drew BK269.out)
      have n1_ := am_ (blk_drew BK270.out)
      have n2_ := am_ (blk_drew BK271.out)
      have n3_ := am_ (below_drew1 HB.out)
      clear BK269 BK270 BK271 HB; revert n0_ n1_ n2_ n3_; intro BK269 BK270 BK271 HB
      refine start_ (n := 8) (S := fun w' => w'.cell? ⟨gb269, 0, none⟩ = some (.int .i64 a0_0) ∧ w'.cell? ⟨gb269, 1, none⟩ = some (.slice A0_1 l0_1.length c0_1)) (ds := []) (bA_ 8 0) (by kernel_rfl) rfl (by kernel_rfl) ⟨bc_ BK269 0, bc_ BK269 1⟩ (fun hHeld => ?_); refine with_tabW spec_l04Move.tab1 spec_l04Move.bits1 (fun HT_ HW_ => ?_)
      generalize w84.drew = w85 at BK269 BK270 BK271 HB hHeld ⊢
      refine pz_ 0 8 (bA_ 8 1) HT_ ?_
      refine pz_ 2 10 (bA_ 8 5) HT_ ?_
      refine tz_ 1 9 (bA_ 8 7) HT_ HW_ hHeld ?_
      refine tz_ 3 11 (bA_ 8 15) HT_ HW_ hHeld ?_
      refine join_ (σ := Value × Nat) 1 (bA_ 8 127) (fun s_ => [(12, s_.1), (5, .pointer (some ⟨s_.2, 0, none⟩)), (13, .agg #[.int .i64 a0_0, s_.1])]) (fun s_ w' => (w'.cell? ⟨gb269, 0, none⟩ = some (.int .i64 a0_0) ∧ w'.cell? ⟨gb269, 1, none⟩ = some (.slice A0_1 l0_1.length c0_1)) ∧ (Kd.N (Kd.slice 2 (Kd.int .i64)) 39 w' w.heap.size (fun k_ => (w.heap.size ≤ k_) ∧ k_ ≠ gb269 ∧ k_ ≠ gb270 ∧ k_ ≠ gb271 ∧ k_ ≠ s_.2) s_.1 t272) ∧ (w'.heap[gb269]? = some (.cells #[.int .i64 a0_0, .slice A0_1 l0_1.length c0_1] 28 (0, 0))) ∧ (w'.heap[gb270]? = some (.cells #[.int .i64 a1_0, .int .i64 a1_1, .int .i64 a1_2, .slice A1_3 l1_3.length c1_3] 44 (0, 0))) ∧ (w'.heap[gb271]? = some (.cells #[.int .i64 0, .slice none 0 0] 28 (0, 0))) ∧ (w'.heap[s_.2]? = some (.cells #[.int .i64 0, .slice none 0 0] 28 (0, 0))) ∧ (w.heap.size ≤ s_.2) ∧ (w.heap.size ≤ s_.2) ∧ (gb269 ≠ s_.2) ∧ (s_.2 ≠ gb269) ∧ (gb270 ≠ s_.2) ∧ (s_.2 ≠ gb270) ∧ (gb271 ≠ s_.2) ∧ (s_.2 ≠ gb271) ∧ (Below w.heap.size w w')) ?_ ?_
      rotate_left
      ·intro hCont
       refine two_ (i := 4) (j := 6) (Ni := some 12) (Nj := some 5) (bA_ 8 31) (bA_ 8 79) rfl rfl rfl rfl (two_of HT_.out (by kernel_rfl)) (by decide) (by decide) (fun K hK => ?_) (fun K hK => ?_)
       ·skip
        refine goes_ Try.func40 (by kernel_rfl) rfl #[.slice A0_1 l0_1.length c0_1, .int .i64 (-1)] (by rfl) rfl rfl lm_ ?_
        with_reducible refine (spec_l04Copy.calls k _ _ l0_1 (-1) t272 _ ?side1 ?side2 A3.out).mono ?_
        (case side1 => exact cb_ HR0_1 HB)
        (case side2 => exact HC0_1.out)
        rintro e w86 ⟨v273, rfl, ho0, hb⟩
        refine ⟨_, rfl, ?_⟩
        have n0_ := am_ (Kd.N_lower (Kd.N_mono (ok' := fun k_ => (w.heap.size ≤ k_) ∧ k_ ≠ gb269 ∧ k_ ≠ gb270 ∧ k_ ≠ gb271) (Kd.S_N (Kd.S_bound ho0)) (fun k_ hk_ => ⟨(Nat.le_trans (below_size (bb_ HB.out)) hk_.2.1), (Kd.freshB (g := gb269) (o := .cells #[.int .i64 a0_0, .slice A0_1 l0_1.length c0_1] 28 (0, 0)) (bk_ BK269.out) k_ hk_.2.1), (Kd.freshB (g := gb270) (o := .cells #[.int .i64 a1_0, .int .i64 a1_1, .int .i64 a1_2, .slice A1_3 l1_3.length c1_3] 44 (0, 0)) (bk_ BK270.out) k_ hk_.2.1), (Kd.freshB (g := gb271) (o := .cells #[.int .i64 0, .slice none 0 0] 28 (0, 0)) (bk_ BK271.out) k_ hk_.2.1)⟩)) (below_size (bb_ HB.out)))
        have n1_ := am_ (bw_ BK269 hb)
        have n2_ := am_ (bw_ BK270 hb)
        have n3_ := am_ (bw_ BK271 hb)
        have n4_ := am_ (below_step (bb_ HB.out) hb)
        clear BK269 BK270 BK271 HB; revert n0_ n1_ n2_ n3_ n4_; intro HO274 BK269 BK270 BK271 HB
        (try clear hb)
        (try clear hb2)
        (try clear hk)
        (try clear hi)
        (try clear ho0)
        obtain ⟨Ao87, co87, eo87⟩ := Kd.N_slice HO274.out
        (first | subst eo87 | (injection eo87 with f1_ f2_ f3_; have f4_ := f1_.symm; have f5_ := f3_.symm; clear f1_ f2_ f3_; subst f4_; subst f5_))
        refine hK.out _ _ ⟨bc_ BK269 0, bc_ BK269 1⟩ (fun hHeld => ?_)
        clear hK K
        refine nm_ 12 ?_
        refine pz_ 5 13 (bA_ 8 63) HT_ ?_
        refine oz_ 6 5 (bA_ 8 127) HT_ (fun K hK => ?_)
        refine box_step ?hg (N := 5) ?hd (cs := #[.int .i64 0, .slice none 0 0]) (t := 28) ?hr ?_; (case hd => rfl); (case hg => rfl); (case hr => first | (go_simp; done) | (go_simp; rfl))
        intro gb275 hg w88 hbox hb
        have n0_ := am_ (Kd.N_below (Kd.N_elderB (Nx_ HO274.out) gb275 (Nat.le_of_eq hg.symm)) hb)
        have n1_ := am_ (bw_ BK269 hb)
        have n2_ := am_ (bw_ BK270 hb)
        have n3_ := am_ (bw_ BK271 hb)
        have n4_ := am_ (below_step (bb_ HB.out) hb)
        have n5_ := am_ (hbox)
        have n6_ := gs_ HB hg
        have n7_ := gs_ HB hg
        have n8_ := am_ (nl_ BK269 hg)
        have n9_ := am_ (ng_ BK269 hg)
        have n10_ := am_ (nl_ BK270 hg)
        have n11_ := am_ (ng_ BK270 hg)
        have n12_ := am_ (nl_ BK271 hg)
        have n13_ := am_ (ng_ BK271 hg)
        clear HO274 BK269 BK270 BK271 HB; revert n0_ n1_ n2_ n3_ n4_ n5_ n6_ n7_ n8_ n9_ n10_ n11_ n12_ n13_; intro HO274 BK269 BK270 BK271 HB BK275 GW275 GE275 NB269_275 NB275_269 NB270_275 NB275_270 NB271_275 NB275_271
        clear hb hbox hg
        refine hK.out _ _ ⟨bc_ BK269 0, bc_ BK269 1⟩ (fun hHeld => ?_)
        clear hK K
        refine nm_ 5 ?_
        exact norm_ (by simp only [putAll, Act.put, List.setIfInBounds_toArray, List.set_cons_zero, List.set_cons_succ]) (hCont (.slice Ao87 t272.length co87, gb275) _ ⟨hHeld, (Nx_ (Kd.N_mono HO274.out (fun _ hk => ⟨hk.1.1, ⟨hk.1.2.1, ⟨hk.1.2.2.1, ⟨hk.1.2.2.2, hk.2⟩⟩⟩⟩))), (bk_ BK269.out), (bk_ BK270.out), (bk_ BK271.out), (bk_ BK275.out), GW275.out, GE275.out, NB269_275.out, NB275_269.out, NB270_275.out, NB275_270.out, NB271_275.out, NB275_271.out, (bb_ HB.out)⟩)
       ·skip
        refine box_step ?hg (N := 5) ?hd (cs := #[.int .i64 0, .slice none 0 0]) (t := 28) ?hr ?_; (case hd => rfl); (case hg => rfl); (case hr => first | (go_simp; done) | (go_simp; rfl))
        intro gb275 hg w86 hbox hb
        have n0_ := am_ (bw_ BK269 hb)
        have n1_ := am_ (bw_ BK270 hb)
        have n2_ := am_ (bw_ BK271 hb)
        have n3_ := am_ (below_step (bb_ HB.out) hb)
        have n4_ := am_ (hbox)
        have n5_ := gs_ HB hg
        have n6_ := gs_ HB hg
        have n7_ := am_ (nl_ BK269 hg)
        have n8_ := am_ (ng_ BK269 hg)
        have n9_ := am_ (nl_ BK270 hg)
        have n10_ := am_ (ng_ BK270 hg)
        have n11_ := am_ (nl_ BK271 hg)
        have n12_ := am_ (ng_ BK271 hg)
        clear BK269 BK270 BK271 HB; revert n0_ n1_ n2_ n3_ n4_ n5_ n6_ n7_ n8_ n9_ n10_ n11_ n12_; intro BK269 BK270 BK271 HB BK275 GW275 GE275 NB269_275 NB275_269 NB270_275 NB275_270 NB271_275 NB275_271
        clear hb hbox hg
        refine hK.out _ _ ⟨bc_ BK269 0, bc_ BK269 1⟩ (fun hHeld => ?_)
        clear hK K
        refine nm_ 5 ?_
        refine oz_ 4 12 (bA_ 8 95) HT_ (fun K hK => ?_)
        refine goes_ Try.func40 (by kernel_rfl) rfl #[.slice A0_1 l0_1.length c0_1, .int .i64 (-1)] (by rfl) rfl rfl lm_ ?_
        with_reducible refine (spec_l04Copy.calls k _ _ l0_1 (-1) t272 _ ?side1 ?side2 A3.out).mono ?_
        (case side1 => exact cb_ HR0_1 HB)
        (case side2 => exact HC0_1.out)
        rintro e w87 ⟨v273, rfl, ho0, hb⟩
        refine ⟨_, rfl, ?_⟩
        have n0_ := am_ (Kd.N_lower (Kd.N_mono (ok' := fun k_ => (w.heap.size ≤ k_) ∧ k_ ≠ gb269 ∧ k_ ≠ gb270 ∧ k_ ≠ gb271 ∧ k_ ≠ gb275) (Kd.S_N (Kd.S_bound ho0)) (fun k_ hk_ => ⟨(Nat.le_trans (below_size (bb_ HB.out)) hk_.2.1), (Kd.freshB (g := gb269) (o := .cells #[.int .i64 a0_0, .slice A0_1 l0_1.length c0_1] 28 (0, 0)) (bk_ BK269.out) k_ hk_.2.1), (Kd.freshB (g := gb270) (o := .cells #[.int .i64 a1_0, .int .i64 a1_1, .int .i64 a1_2, .slice A1_3 l1_3.length c1_3] 44 (0, 0)) (bk_ BK270.out) k_ hk_.2.1), (Kd.freshB (g := gb271) (o := .cells #[.int .i64 0, .slice none 0 0] 28 (0, 0)) (bk_ BK271.out) k_ hk_.2.1), (Kd.freshB (g := gb275) (o := .cells #[.int .i64 0, .slice none 0 0] 28 (0, 0)) (bk_ BK275.out) k_ hk_.2.1)⟩)) (below_size (bb_ HB.out)))
        have n1_ := am_ (bw_ BK269 hb)
        have n2_ := am_ (bw_ BK270 hb)
        have n3_ := am_ (bw_ BK271 hb)
        have n4_ := am_ (bw_ BK275 hb)
        have n5_ := am_ (below_step (bb_ HB.out) hb)
        clear BK269 BK270 BK271 BK275 HB; revert n0_ n1_ n2_ n3_ n4_ n5_; intro HO274 BK269 BK270 BK271 BK275 HB
        (try clear hb)
        (try clear hb2)
        (try clear hk)
        (try clear hi)
        (try clear ho0)
        obtain ⟨Ao88, co88, eo88⟩ := Kd.N_slice HO274.out
        (first | subst eo88 | (injection eo88 with f1_ f2_ f3_; have f4_ := f1_.symm; have f5_ := f3_.symm; clear f1_ f2_ f3_; subst f4_; subst f5_))
        refine hK.out _ _ ⟨bc_ BK269 0, bc_ BK269 1⟩ (fun hHeld => ?_)
        clear hK K
        refine nm_ 12 ?_
        refine pz_ 5 13 (bA_ 8 127) HT_ ?_
        exact norm_ (by simp only [putAll, Act.put, List.setIfInBounds_toArray, List.set_cons_zero, List.set_cons_succ]) (hCont (.slice Ao88 t272.length co88, gb275) _ ⟨hHeld, (Nx_ HO274.out), (bk_ BK269.out), (bk_ BK270.out), (bk_ BK271.out), (bk_ BK275.out), GW275.out, GE275.out, NB269_275.out, NB275_269.out, NB270_275.out, NB275_270.out, NB271_275.out, NB275_271.out, (bb_ HB.out)⟩)
      rintro ⟨v273, gb275⟩ w89 ⟨hS_, h0_, h1_, h2_, h3_, h4_, h5_, h6_, h7_, h8_, h9_, h10_, h11_, h12_, h13_⟩
      have n0_ : Aside0 (Kd.N (Kd.slice 2 (Kd.int .i64)) 39 w89 w.heap.size (fun k_ => (w.heap.size ≤ k_) ∧ k_ ≠ gb269 ∧ k_ ≠ gb270 ∧ k_ ≠ gb271 ∧ k_ ≠ gb275) v273 t272) := ⟨h0_⟩
      have n1_ : Aside0 (w89.heap[gb269]? = some (.cells #[.int .i64 a0_0, .slice A0_1 l0_1.length c0_1] 28 (0, 0))) := ⟨h1_⟩
      have n2_ : Aside0 (w89.heap[gb270]? = some (.cells #[.int .i64 a1_0, .int .i64 a1_1, .int .i64 a1_2, .slice A1_3 l1_3.length c1_3] 44 (0, 0))) := ⟨h2_⟩
      have n3_ : Aside0 (w89.heap[gb271]? = some (.cells #[.int .i64 0, .slice none 0 0] 28 (0, 0))) := ⟨h3_⟩
      have n4_ : Aside0 (w89.heap[gb275]? = some (.cells #[.int .i64 0, .slice none 0 0] 28 (0, 0))) := ⟨h4_⟩
      have n5_ : Aside0 (w.heap.size ≤ gb275) := ⟨h5_⟩
      have n6_ : Aside0 (w.heap.size ≤ gb275) := ⟨h6_⟩
      have n7_ : Aside0 (gb269 ≠ gb275) := ⟨h7_⟩
      have n8_ : Aside0 (gb275 ≠ gb269) := ⟨h8_⟩
      have n9_ : Aside0 (gb270 ≠ gb275) := ⟨h9_⟩
      have n10_ : Aside0 (gb275 ≠ gb270) := ⟨h10_⟩
      have n11_ : Aside0 (gb271 ≠ gb275) := ⟨h11_⟩
      have n12_ : Aside0 (gb275 ≠ gb271) := ⟨h12_⟩
      have n13_ : Aside0 (Below w.heap.size w w89) := ⟨h13_⟩
      clear BK269
      clear BK270
      clear BK271
      clear HB
      clear h0_ h1_ h2_ h3_ h4_ h5_ h6_ h7_ h8_ h9_ h10_ h11_ h12_ h13_
      have HO274 := n0_
      have BK269 := n1_
      have BK270 := n2_
      have BK271 := n3_
      have BK275 := n4_
      have GW275 := n5_
      have GE275 := n6_
      have NB269_275 := n7_
      have NB275_269 := n8_
      have NB270_275 := n9_
      have NB275_270 := n10_
      have NB271_275 := n11_
      have NB275_271 := n12_
      have HB := n13_
      clear n0_ n1_ n2_ n3_ n4_ n5_ n6_ n7_ n8_ n9_ n10_ n11_ n12_ n13_
      have hHeld : w89.cell? ⟨gb269, 0, none⟩ = some (.int .i64 a0_0) ∧ w89.cell? ⟨gb269, 1, none⟩ = some (.slice A0_1 l0_1.length c0_1) := hS_
      obtain ⟨Ao90, co90, eo90⟩ := Kd.N_slice HO274.out
      (first | subst eo90 | (injection eo90 with f1_ f2_ f3_; have f4_ := f1_.symm; have f5_ := f3_.symm; clear f1_ f2_ f3_; subst f4_; subst f5_))
      refine norm_ (a' := ?_) ?_ ?_
      rotate_left
      ·simp only [putAll, Act.put, List.setIfInBounds_toArray, List.set_cons_zero, List.set_cons_succ]
       rfl
      refine one_ (i := 7) (N := none) (bA_ 8 255) rfl rfl (one_of HT_.out (by kernel_rfl)) (by decide) (fun K hK => ?_)
      have hs91 : w89.cell? ⟨gb275, 0, none⟩ = some (.int .i64 0) := bc_ BK275 0
      have hfs91 := blk_frozen BK275.out 0
      have hns91_0 := NB269_275.out
      have hns91_1 := NB270_275.out
      have hns91_2 := NB271_275.out
      have hms91_0 := NB275_269.out
      have hms91_1 := NB275_270.out
      have hms91_2 := NB275_271.out
      have hs92 : w89.cell? ⟨gb275, 1, none⟩ = some (.slice none 0 0) := bc_ BK275 1
      have hfs92 := blk_frozen BK275.out 1
      have hns92_0 := NB269_275.out
      have hns92_1 := NB270_275.out
      have hns92_2 := NB271_275.out
      have hms92_0 := NB275_269.out
      have hms92_1 := NB275_270.out
      have hms92_2 := NB275_271.out
      refine skip_ (w1 := ?_) (by rfl) rfl ?_ ?_
      rotate_left
      ·go_simp
       rfl
      refine hK.out _ _ ⟨((cell_far (p := ⟨gb275, _, none⟩) NB269_275.out _).trans (((cell_far (p := ⟨gb275, _, none⟩) NB269_275.out _).trans (hHeld.1)))), ((cell_far (p := ⟨gb275, _, none⟩) NB269_275.out _).trans (((cell_far (p := ⟨gb275, _, none⟩) NB269_275.out _).trans (hHeld.2))))⟩ (fun hHeld => ?_)
      clear hK K
      refine done_ (done_of HT_.out (by kernel_rfl)) ?_
      have hnb93 := NB270_269.out
      have hnc93 := NB269_270.out
      have hnb94 := NB270_271.out
      have hnc94 := NB271_270.out
      have hnb95 := NB270_275.out
      have hnc95 := NB275_270.out
      obtain ⟨hcz96_0, hcz96_1, hcz96_2, hcz96_3, hfz96_0, hfz96_1, hfz96_2, hfz96_3⟩ := bx4_ BK270
      have hnb97 := NB269_271.out
      have hnc97 := NB271_269.out
      have hnb98 := NB269_275.out
      have hnc98 := NB275_269.out
      obtain ⟨hcz99_0, hcz99_1, hfz99_0, hfz99_1⟩ := bx2_ BK269
      have p281 : 0 ≤ (a1_1 : Int) := da_
      have q281 : a1_1 < (l0_1.length : Int) := da_
      obtain ⟨ad281, A281_0, c281_0, e281, hx281_0, hl281_0, hi281_0⟩ := at_L1 HR0_1.out a1_1 p281 q281
      cases e281
      have hn281_0 : ad281.block ≠ gb275 := Nat.ne_of_lt (Nat.lt_of_lt_of_le (by have := World.block_lt_of_cell? _ _ hx281_0; first | rwa [add_block] at this | exact this) GW275.out)
      have hn281_1 : ad281.block ≠ gb275 := Nat.ne_of_lt (Nat.lt_of_lt_of_le (by have := World.block_lt_of_cell? _ _ hx281_0; first | rwa [add_block] at this | exact this) GW275.out)
      replace hx281_0 := ce_ HB hx281_0
      have HR281_0 := am_ hi281_0
      have HC281_0 := am_ hl281_0
      clear hi281_0 hl281_0
      replace hx281_0 := (cell_far (p := ⟨gb275, 0, none⟩) (by first | (rw [add_block]; exact hn281_0) | (show (Addr.add _ _).block ≠ _; rw [add_block]; exact hn281_0) | exact hn281_0) (.int .i64 a0_0)).trans hx281_0
      replace hx281_0 := (cell_far (p := ⟨gb275, 1, none⟩) (by first | (rw [add_block]; exact hn281_1) | (show (Addr.add _ _).block ≠ _; rw [add_block]; exact hn281_1) | exact hn281_1) (.slice Ao90 t272.length co90)).trans hx281_0
      clear hn281_0
      clear hn281_1
      replace p281 := eq_true p281
      replace q281 := eq_true q281
      have hnb100 := NB275_271.out
      have hnc100 := NB271_275.out
      obtain ⟨hcz101_0, hcz101_1, hfz101_0, hfz101_1⟩ := bx2_ BK275
      obtain ⟨hcz102_0, hcz102_1, hfz102_0, hfz102_1⟩ := bx2_ BK271
      try go_wp2
      refine bodyPost_ret (results_cell_row rfl _ _ gb271 28 #[.int .i64 a0_0, .slice Ao90 t272.length co90] (0, 0) _ rfl (by (with_reducible repeat (first | refine blk_drewN ?_ _ | refine blk_drew ?_ | refine blk_alloc ?_ _)); refine blk_put (cs := #[.int .i64 a0_0, .slice none 0 0]) ?_ 1 _ rfl; (with_reducible repeat (first | refine blk_drewN ?_ _ | refine blk_drew ?_ | refine blk_alloc ?_ _)); refine blk_put (cs := #[.int .i64 0, .slice none 0 0]) ?_ 0 _ rfl; (with_reducible repeat (first | refine blk_drewN ?_ _ | refine blk_drew ?_ | refine blk_alloc ?_ _)); refine blk_far ?_ NB271_275.out _; (with_reducible repeat (first | refine blk_drewN ?_ _ | refine blk_drew ?_ | refine blk_alloc ?_ _)); refine blk_far ?_ NB271_275.out _; (with_reducible repeat (first | refine blk_drewN ?_ _ | refine blk_drew ?_ | refine blk_alloc ?_ _)); exact BK271.out) Try.underlying28 rfl (by kernel_rfl)) rfl ?_
      exact ⟨_, er_, Nx_ (Kd.N_mono (Kd.N_far (p := ⟨gb271, 1, none⟩) (Kd.N_far (p := ⟨gb271, 0, none⟩) (Kd.N_far (p := ⟨gb275, 1, none⟩) (Kd.N_far (p := ⟨gb275, 0, none⟩) (Kd.N_mono (Kd.N_mono HO274.out (fun k_ hk => (⟨hk, hk.2.2.2.2⟩ : _ ∧ k_ ≠ gb275))) (fun k_ hk => (⟨hk, hk.1.2.2.2.1⟩ : _ ∧ k_ ≠ gb271))) (fun _ hk => hk.1.2) (.int .i64 a0_0)) (fun _ hk => hk.1.2) (.slice Ao90 t272.length co90)) (fun _ hk => hk.2) (.int .i64 a0_0)) (fun _ hk => hk.2) (.slice Ao90 t272.length co90)) (fun _ hk => hk.1.1.1)), bb_ HB.out⟩
    ·rw [if_neg c37] at H
     exact absurd H (by simp)
   ·rw [if_neg c36] at H
    exact absurd H (by simp)
  · exact absurd G_.out (by clear H; omega)

end Go.Proofs.Ytbcdngjajjgmkaa.PFnExactSimplifyPresentation
