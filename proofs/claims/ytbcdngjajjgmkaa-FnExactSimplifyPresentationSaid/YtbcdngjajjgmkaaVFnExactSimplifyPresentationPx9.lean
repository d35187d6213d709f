/- Written by this session's program out of the kit's print and this session's contracts. -/
import Derived.Test.YtbcdngjajjgmkaaVFnExactSimplifyPresentationPx0
import Derived.Test.YtbcdngjajjgmkaaVFnExactSimplifyPresentationPx4
import Derived.Test.YtbcdngjajjgmkaaVFnExactSimplifyPresentationPx5
import Derived.Test.YtbcdngjajjgmkaaVFnExactSimplifyPresentationPx6
import Derived.Test.YtbcdngjajjgmkaaVFnExactSimplifyPresentationPx7
import Derived.Test.YtbcdngjajjgmkaaVFnExactSimplifyPresentationPx8
namespace Go.Proofs.Ytbcdngjajjgmkaa.PFnExactSimplifyPresentation
open Go.RowKit Go.Proofs.YtbcdngjajjgmkaaW.PrintWords Go.Proofs.YtbcdngjajjgmkaaW.PrintLast Go.Proofs.YtbcdngjajjgmkaaW.PrintMore
set_option linter.unusedVariables false
set_option linter.unusedSimpArgs false

/-! ### spec_l04Move: part 2 -/
set_option maxHeartbeats 8000000 in
set_option maxRecDepth 100000 in
theorem spec_l04Move.calls_2 (k : Nat) (a0_0 : Int) (A0_1 : Option Addr) (c0_1 : Nat) (l0_1 : List (List Int)) (a1_0 : Int) (a1_1 : Int) (a1_2 : Int) (A1_3 : Option Addr) (c1_3 : Nat) (l1_3 : List Int) (r1 : Int) (r2 : List (List Int)) (w : World) (hr0_1 : Kd.C (Kd.slice 2 (Kd.int .i64)) w A0_1 l0_1.length l0_1) (hc0_1 : l0_1.length ≤ c0_1) (hr1_3 : Kd.C (Kd.int .i64) w A1_3 l1_3.length l1_3) (hc1_3 : l1_3.length ≤ c1_3) (h : spec_l04Move.f k a0_0 l0_1 a1_0 a1_1 a1_2 l1_3 = some (r1, r2)) (G_ : Aside0 (¬ a1_0 = 2 ∧ ¬ a1_0 = 1 ∧ ¬ a1_0 = 3)) :
  Calls Try.prog 63 #[.agg #[.int .i64 a0_0, .slice A0_1 l0_1.length c0_1], .agg #[.int .i64 a1_0, .int .i64 a1_1, .int .i64 a1_2, .slice A1_3 l1_3.length c1_3]] w fun e w' => ∃ v1_ : Value, e = .returned (.agg #[.int .i64 r1, v1_]) ∧ Kd.N (Kd.slice 2 (Kd.int .i64)) 39 w' w.heap.size (fun k_ => (w.heap.size ≤ k_)) v1_ r2 ∧ Below w.heap.size w w' := by
 have hu28 := Try.underlying28
 have hu44 := Try.underlying44
 have HR0_1 := am_ hr0_1
 have HC0_1 := am_ hc0_1
 clear hr0_1 hc0_1
 have HR1_3 := am_ hr1_3
 have HC1_3 := am_ hc1_3
 clear hr1_3 hc1_3
 have HB := am_ (Below.refl w.heap.size w)
 have H := h
 unfold spec_l04Move.f at H
 clear h
 replace H := Option.bind_eq_some_iff.mp H
 obtain ⟨t272, A30, H⟩ := H
 replace H : (if a1_0 = 1 then (if 0 ≤ a1_1 then (if a1_1 < (l0_1.length : Int) then ((spec_l04Inverse.f k (rd_L1 l0_1 a1_1)).bind fun t277 => (if a1_1 < (t272.length : Int) then (some (a0_0, (t272.set (a1_1 : Int).toNat t277))) else (none))) else (none)) else (none)) else (if a1_0 = 2 then (if 0 ≤ a1_1 then (if a1_1 < (l0_1.length : Int) then (if ((rd_L1 l0_1 a1_1).length : Int) > 0 then ((some (([] : List Int) : List Int)).bind fun y282 => (if 1 ≤ ((rd_L1 l0_1 a1_1).length : Int) then (if y282.length + ((rd_L1 l0_1 a1_1).drop 1).length < 17592186044416 then ((some (y282 ++ ((rd_L1 l0_1 a1_1).drop 1) : List Int)).bind fun y286 => (if 0 < ((rd_L1 l0_1 a1_1).length : Int) then ((some (([rd (rd_L1 l0_1 a1_1) 0] : List Int) : List Int)).bind fun y290 => (if y286.length + y290.length < 17592186044416 then ((spec_l04Reduce.f k (y286 ++ y290)).bind fun t296 => (if a1_1 < (t272.length : Int) then (some (a0_0, (t272.set (a1_1 : Int).toNat t296))) else (none))) else (none))) else (none))) else (none)) else (none))) else (some (a0_0, t272))) else (none)) else (none)) else (if a1_0 = 3 then ((some (([] : List Int) : List Int)).bind fun y300 => (if 0 ≤ a1_1 then (if a1_1 < (l0_1.length : Int) then (if y300.length + (rd_L1 l0_1 a1_1).length < 17592186044416 then ((some (y300 ++ (rd_L1 l0_1 a1_1) : List Int)).bind fun y304 => (if 0 ≤ a1_2 then (if a1_2 < (l0_1.length : Int) then (if y304.length + (rd_L1 l0_1 a1_2).length < 17592186044416 then ((spec_l04Reduce.f k (y304 ++ (rd_L1 l0_1 a1_2))).bind fun t311 => (if a1_1 < (t272.length : Int) then (some (a0_0, (t272.set (a1_1 : Int).toNat t311))) else (none))) else (none)) else (none)) else (none))) else (none)) else (none)) else (none))) else (if a1_0 = 4 then ((spec_l04Copy.f k l0_1 a1_1).bind fun t315 => (some (a0_0, t315))) else (if a1_0 = 5 then ((spec_l04Remove.f k a0_0 l0_1 a1_1 a1_2).bind fun bt318 => (some (bt318.1, bt318.2))) else ((some (([wrap64 (-(wrap64 (a0_0 + 1)))] : List Int) : List Int)).bind fun y322 => (if y322.length + l1_3.length < 17592186044416 then ((some (([(y322 ++ l1_3)] : List (List Int)) : List (List Int))).bind fun y328 => (if t272.length + y328.length < 5864062014805 then (some (wrap64 (a0_0 + 1), (t272 ++ y328))) else (none))) else (none)))))))) = some (r1, r2) := H
 have A3 := am_ A30
 clear A30
 by_cases c4 : a1_0 = 1
 · exact absurd c4 (by have g_ := G_.out; clear H; omega)
 ·rw [if_neg c4] at H
  have c4b0 : (a1_0 == 1) = false := beq_eq_false_iff_ne.mpr c4
  have c4b1 : (a1_0 != 1) = true := bne_iff_ne.mpr c4
  by_cases c35 : a1_0 = 2
  · exact absurd c35 (by have g_ := G_.out; clear H; omega)
  ·rw [if_neg c35] at H
   have c35b0 : (a1_0 == 2) = false := beq_eq_false_iff_ne.mpr c35
   have c35b1 : (a1_0 != 2) = true := bne_iff_ne.mpr c35
   by_cases c103 : a1_0 = 3
   · exact absurd c103 (by have g_ := G_.out; clear H; omega)
   ·rw [if_neg c103] at H
    have c103b0 : (a1_0 == 3) = false := beq_eq_false_iff_ne.mpr c103
    have c103b1 : (a1_0 != 3) = true := bne_iff_ne.mpr c103
    by_cases c143 : a1_0 = 4
    ·rw [if_pos c143] at H
     have c143b0 : (a1_0 == 4) = true := beq_iff_eq.mpr c143
     have c143b1 : (a1_0 != 4) = false := bne_eq_false_iff_eq.mpr c143
     clear c143
     replace H := Option.bind_eq_some_iff.mp H
     obtain ⟨t315, A1440, H⟩ := H
     replace H : (some (a0_0, t315)) = some (r1, r2) := H
     have A144 := am_ A1440
     clear A1440
     simp only [Option.some.injEq, Prod.mk.injEq] at H
     obtain ⟨rfl, rfl⟩ := H
     go_enter Try.func63, Try.ntmps63
     try go_wp2_with (first | (refine be_ 2 28 #[.int .i64 a0_0, .slice A0_1 l0_1.length c0_1] ?_; intro gb269 hg w145 hbox hb; have n_ := ba0_ HB hbox hb hg; clear  HB hb hbox hg; obtain ⟨HB, BK269, GW269, GE269⟩ := n_) | (refine be_ 3 44 #[.int .i64 a1_0, .int .i64 a1_1, .int .i64 a1_2, .slice A1_3 l1_3.length c1_3] ?_; intro gb270 hg w146 hbox hb; have n_ := ba1_ BK269 HB hbox hb hg; clear BK269 HB hb hbox hg; obtain ⟨BK269, HB, BK270, GW270, GE270, NB269_270, NB270_269⟩ := n_) | (refine be_ 4 28 #[.int .i64 0, .slice none 0 0] ?_; intro gb271 hg w147 hbox hb; have n_ := ba2_ BK269 BK270 HB hbox hb hg; clear BK269 BK270 HB hb hbox hg; obtain ⟨BK269, BK270, HB, BK271, GW271, GE271, NB269_271, NB271_269, NB270_271, NB271_270⟩ := n_))
     have n0_ := am_ (blk_drew BK269.out)
     have n1_ := am_ (blk_drew BK270.out)
     have n2_ := am_ (blk_drew BK271.out)
     have n3_ := am_ (below_drew1 HB.out)
     clear BK269 BK270 BK271 HB; revert n0_ n1_ n2_ n3_; intro BK269 BK270 BK271 HB
     refine start_ (n := 8) (S := fun w' => w'.cell? ⟨gb269, 0, none⟩ = some (.int .i64 a0_0) ∧ w'.cell? ⟨gb269, 1, none⟩ = some (.slice A0_1 l0_1.length c0_1)) (ds := []) (bA_ 8 0) (by kernel_rfl) rfl (by kernel_rfl) ⟨bc_ BK269 0, bc_ BK269 1⟩ (fun hHeld => ?_); refine with_tabW spec_l04Move.tab1 spec_l04Move.bits1 (fun HT_ HW_ => ?_)
     generalize w147.drew = w148 at BK269 BK270 BK271 HB hHeld ⊢
     refine pz_ 0 8 (bA_ 8 1) HT_ ?_
     refine pz_ 2 10 (bA_ 8 5) HT_ ?_
     refine tz_ 1 9 (bA_ 8 7) HT_ HW_ hHeld ?_
     refine tz_ 3 11 (bA_ 8 15) HT_ HW_ hHeld ?_
     refine join_ (σ := Value × Nat) 1 (bA_ 8 127) (fun s_ => [(12, s_.1), (5, .pointer (some ⟨s_.2, 0, none⟩)), (13, .agg #[.int .i64 a0_0, s_.1])]) (fun s_ w' => (w'.cell? ⟨gb269, 0, none⟩ = some (.int .i64 a0_0) ∧ w'.cell? ⟨gb269, 1, none⟩ = some (.slice A0_1 l0_1.length c0_1)) ∧ (Kd.N (Kd.slice 2 (Kd.int .i64)) 39 w' w.heap.size (fun k_ => (w.heap.size ≤ k_) ∧ k_ ≠ gb269 ∧ k_ ≠ gb270 ∧ k_ ≠ gb271 ∧ k_ ≠ s_.2) s_.1 t272) ∧ (w'.heap[gb269]? = some (.cells #[.int .i64 a0_0, .slice A0_1 l0_1.length c0_1] 28 (0, 0))) ∧ (w'.heap[gb270]? = some (.cells #[.int .i64 a1_0, .int .i64 a1_1, .int .i64 a1_2, .slice A1_3 l1_3.length c1_3] 44 (0, 0))) ∧ (w'.heap[gb271]? = some (.cells #[.int .i64 0, .slice none 0 0] 28 (0, 0))) ∧ (w'.heap[s_.2]? = some (.cells #[.int .i64 0, .slice none 0 0] 28 (0, 0))) ∧ (w.heap.size ≤ s_.2) ∧ (w.heap.size ≤ s_.2) ∧ (gb269 ≠ s_.2) ∧ (s_.2 ≠ gb269) ∧ (gb270 ≠ s_.2) ∧ (s_.2 ≠ gb270) ∧ (gb271 ≠ s_.2) ∧ (s_.2 ≠ gb271) ∧ (Below w.heap.size w w')) ?_ ?_
     rotate_left
     ·intro hCont
      refine two_ (i := 4) (j := 6) (Ni := some 12) (Nj := some 5) (bA_ 8 31) (bA_ 8 79) rfl rfl rfl rfl (two_of HT_.out (by kernel_rfl)) (by decide) (by decide) (fun K hK => ?_) (fun K hK => ?_)
      ·skip
       refine goes_ Try.func40 (by kernel_rfl) rfl #[.slice A0_1 l0_1.length c0_1, .int .i64 (-1)] (by rfl) rfl rfl lm_ ?_
       with_reducible refine (spec_l04Copy.calls k _ _ l0_1 (-1) t272 _ ?side1 ?side2 A3.out).mono ?_
       (case side1 => exact cb_ HR0_1 HB)
       (case side2 => exact HC0_1.out)
       rintro e w149 ⟨v273, rfl, ho0, hb⟩
       refine ⟨_, rfl, ?_⟩
       have n0_ := am_ (Kd.N_lower (Kd.N_mono (ok' := fun k_ => (w.heap.size ≤ k_) ∧ k_ ≠ gb269 ∧ k_ ≠ gb270 ∧ k_ ≠ gb271) (Kd.S_N (Kd.S_bound ho0)) (fun k_ hk_ => ⟨(Nat.le_trans (below_size (bb_ HB.out)) hk_.2.1), (Kd.freshB (g := gb269) (o := .cells #[.int .i64 a0_0, .slice A0_1 l0_1.length c0_1] 28 (0, 0)) (bk_ BK269.out) k_ hk_.2.1), (Kd.freshB (g := gb270) (o := .cells #[.int .i64 a1_0, .int .i64 a1_1, .int .i64 a1_2, .slice A1_3 l1_3.length c1_3] 44 (0, 0)) (bk_ BK270.out) k_ hk_.2.1), (Kd.freshB (g := gb271) (o := .cells #[.int .i64 0, .slice none 0 0] 28 (0, 0)) (bk_ BK271.out) k_ hk_.2.1)⟩)) (below_size (bb_ HB.out)))
       have n1_ := am_ (bw_ BK269 hb)
       have n2_ := am_ (bw_ BK270 hb)
       have n3_ := am_ (bw_ BK271 hb)
       have n4_ := am_ (below_step (bb_ HB.out) hb)
       clear BK269 BK270 BK271 HB; revert n0_ n1_ n2_ n3_ n4_; intro HO274 BK269 BK270 BK271 HB
       (try clear hb)
       (try clear hb2)
       (try clear hk)
       (try clear hi)
       (try clear ho0)
       obtain ⟨Ao150, co150, eo150⟩ := Kd.N_slice HO274.out
       (first | subst eo150 | (injection eo150 with f1_ f2_ f3_; have f4_ := f1_.symm; have f5_ := f3_.symm; clear f1_ f2_ f3_; subst f4_; subst f5_))
       refine hK.out _ _ ⟨bc_ BK269 0, bc_ BK269 1⟩ (fun hHeld => ?_)
       clear hK K
       refine nm_ 12 ?_
       refine pz_ 5 13 (bA_ 8 63) HT_ ?_
       refine oz_ 6 5 (bA_ 8 127) HT_ (fun K hK => ?_)
       refine box_step ?hg (N := 5) ?hd (cs := #[.int .i64 0, .slice none 0 0]) (t := 28) ?hr ?_; (case hd => rfl); (case hg => rfl); (case hr => first | (go_simp; done) | (go_simp; rfl))
       intro gb275 hg w151 hbox hb
       have n0_ := am_ (Kd.N_below (Kd.N_elderB (Nx_ HO274.out) gb275 (Nat.le_of_eq hg.symm)) hb)
       have n1_ := am_ (bw_ BK269 hb)
       have n2_ := am_ (bw_ BK270 hb)
       have n3_ := am_ (bw_ BK271 hb)
       have n4_ := am_ (below_step (bb_ HB.out) hb)
       have n5_ := am_ (hbox)
       have n6_ := gs_ HB hg
       have n7_ := gs_ HB hg
       have n8_ := am_ (nl_ BK269 hg)
       have n9_ := am_ (ng_ BK269 hg)
       have n10_ := am_ (nl_ BK270 hg)
       have n11_ := am_ (ng_ BK270 hg)
       have n12_ := am_ (nl_ BK271 hg)
       have n13_ := am_ (ng_ BK271 hg)
       clear HO274 BK269 BK270 BK271 HB; revert n0_ n1_ n2_ n3_ n4_ n5_ n6_ n7_ n8_ n9_ n10_ n11_ n12_ n13_; intro HO274 BK269 BK270 BK271 HB BK275 GW275 GE275 NB269_275 NB275_269 NB270_275 NB275_270 NB271_275 NB275_271
       clear hb hbox hg
       refine hK.out _ _ ⟨bc_ BK269 0, bc_ BK269 1⟩ (fun hHeld => ?_)
       clear hK K
       refine nm_ 5 ?_
       exact norm_ (by simp only [putAll, Act.put, List.setIfInBounds_toArray, List.set_cons_zero, List.set_cons_succ]) (hCont (.slice Ao150 t272.length co150, gb275) _ ⟨hHeld, (Nx_ (Kd.N_mono HO274.out (fun _ hk => ⟨hk.1.1, ⟨hk.1.2.1, ⟨hk.1.2.2.1, ⟨hk.1.2.2.2, hk.2⟩⟩⟩⟩))), (bk_ BK269.out), (bk_ BK270.out), (bk_ BK271.out), (bk_ BK275.out), GW275.out, GE275.out, NB269_275.out, NB275_269.out, NB270_275.out, NB275_270.out, NB271_275.out, NB275_271.out, (bb_ HB.out)⟩)
      ·skip
       refine box_step ?hg (N := 5) ?hd (cs := #[.int .i64 0, .slice none 0 0]) (t := 28) ?hr ?_; (case hd => rfl); (case hg => rfl); (case hr => first | (go_simp; done) | (go_simp; rfl))
       intro gb275 hg w149 hbox hb
       have n0_ := am_ (bw_ BK269 hb)
       have n1_ := am_ (bw_ BK270 hb)
       have n2_ := am_ (bw_ BK271 hb)
       have n3_ := am_ (below_step (bb_ HB.out) hb)
       have n4_ := am_ (hbox)
       have n5_ := gs_ HB hg
       have n6_ := gs_ HB hg
       have n7_ := am_ (nl_ BK269 hg)
       have n8_ := am_ (ng_ BK269 hg)
       have n9_ := am_ (nl_ BK270 hg)
       have n10_ := am_ (ng_ BK270 hg)
       have n11_ := am_ (nl_ BK271 hg)
       have n12_ := am_ (ng_ BK271 hg)
       clear BK269 BK270 BK271 HB; revert n0_ n1_ n2_ n3_ n4_ n5_ n6_ n7_ n8_ n9_ n10_ n11_ n12_; intro BK269 BK270 BK271 HB BK275 GW275 GE275 NB269_275 NB275_269 NB270_275 NB275_270 NB271_275 NB275_271
       clear hb hbox hg
       refine hK.out _ _ ⟨bc_ BK269 0, bc_ BK269 1⟩ (fun hHeld => ?_)
       clear hK K
       refine nm_ 5 ?_
       refine oz_ 4 12 (bA_ 8 95) HT_ (fun K hK => ?_)
       refine goes_ Try.func40 (by kernel_rfl) rfl #[.slice A0_1 l0_1.length c0_1, .int .i64 (-1)] (by rfl) rfl rfl lm_ ?_
       with_reducible refine (spec_l04Copy.calls k _ _ l0_1 (-1) t272 _ ?side1 ?side2 A3.out).mono ?_
       (case side1 => exact cb_ HR0_1 HB)
       (case side2 => exact HC0_1.out)
       rintro e w150 ⟨v273, rfl, ho0, hb⟩
       refine ⟨_, rfl, ?_⟩
       have n0_ := am_ (Kd.N_lower (Kd.N_mono (ok' := fun k_ => (w.heap.size ≤ k_) ∧ k_ ≠ gb269 ∧ k_ ≠ gb270 ∧ k_ ≠ gb271 ∧ k_ ≠ gb275) (Kd.S_N (Kd.S_bound ho0)) (fun k_ hk_ => ⟨(Nat.le_trans (below_size (bb_ HB.out)) hk_.2.1), (Kd.freshB (g := gb269) (o := .cells #[.int .i64 a0_0, .slice A0_1 l0_1.length c0_1] 28 (0, 0)) (bk_ BK269.out) k_ hk_.2.1), (Kd.freshB (g := gb270) (o := .cells #[.int .i64 a1_0, .int .i64 a1_1, .int .i64 a1_2, .slice A1_3 l1_3.length c1_3] 44 (0, 0)) (bk_ BK270.out) k_ hk_.2.1), (Kd.freshB (g := gb271) (o := .cells #[.int .i64 0, .slice none 0 0] 28 (0, 0)) (bk_ BK271.out) k_ hk_.2.1), (Kd.freshB (g := gb275) (o := .cells #[.int .i64 0, .slice none 0 0] 28 (0, 0)) (bk_ BK275.out) k_ hk_.2.1)⟩)) (below_size (bb_ HB.out)))
       have n1_ := am_ (bw_ BK269 hb)
       have n2_ := am_ (bw_ BK270 hb)
       have n3_ := am_ (bw_ BK271 hb)
       have n4_ := am_ (bw_ BK275 hb)
       have n5_ := am_ (below_step (bb_ HB.out) hb)
       clear BK269 BK270 BK271 BK275 HB; revert n0_ n1_ n2_ n3_ n4_ n5_; intro HO274 BK269 BK270 BK271 BK275 HB
       (try clear hb)
       (try clear hb2)
       (try clear hk)
       (try clear hi)
       (try clear ho0)
       obtain ⟨Ao151, co151, eo151⟩ := Kd.N_slice HO274.out
       (first | subst eo151 | (injection eo151 with f1_ f2_ f3_; have f4_ := f1_.symm; have f5_ := f3_.symm; clear f1_ f2_ f3_; subst f4_; subst f5_))
       refine hK.out _ _ ⟨bc_ BK269 0, bc_ BK269 1⟩ (fun hHeld => ?_)
       clear hK K
       refine nm_ 12 ?_
       refine pz_ 5 13 (bA_ 8 127) HT_ ?_
       exact norm_ (by simp only [putAll, Act.put, List.setIfInBounds_toArray, List.set_cons_zero, List.set_cons_succ]) (hCont (.slice Ao151 t272.length co151, gb275) _ ⟨hHeld, (Nx_ HO274.out), (bk_ BK269.out), (bk_ BK270.out), (bk_ BK271.out), (bk_ BK275.out), GW275.out, GE275.out, NB269_275.out, NB275_269.out, NB270_275.out, NB275_270.out, NB271_275.out, NB275_271.out, (bb_ HB.out)⟩)
     rintro ⟨v273, gb275⟩ w152 ⟨hS_, h0_, h1_, h2_, h3_, h4_, h5_, h6_, h7_, h8_, h9_, h10_, h11_, h12_, h13_⟩
     have n0_ : Aside0 (Kd.N (Kd.slice 2 (Kd.int .i64)) 39 w152 w.heap.size (fun k_ => (w.heap.size ≤ k_) ∧ k_ ≠ gb269 ∧ k_ ≠ gb270 ∧ k_ ≠ gb271 ∧ k_ ≠ gb275) v273 t272) := ⟨h0_⟩
     have n1_ : Aside0 (w152.heap[gb269]? = some (.cells #[.int .i64 a0_0, .slice A0_1 l0_1.length c0_1] 28 (0, 0))) := ⟨h1_⟩
     have n2_ : Aside0 (w152.heap[gb270]? = some (.cells #[.int .i64 a1_0, .int .i64 a1_1, .int .i64 a1_2, .slice A1_3 l1_3.length c1_3] 44 (0, 0))) := ⟨h2_⟩
     have n3_ : Aside0 (w152.heap[gb271]? = some (.cells #[.int .i64 0, .slice none 0 0] 28 (0, 0))) := ⟨h3_⟩
     have n4_ : Aside0 (w152.heap[gb275]? = some (.cells #[.int .i64 0, .slice none 0 0] 28 (0, 0))) := ⟨h4_⟩
     have n5_ : Aside0 (w.heap.size ≤ gb275) := ⟨h5_⟩
     have n6_ : Aside0 (w.heap.size ≤ gb275) := ⟨h6_⟩
     have n7_ : Aside0 (gb269 ≠ gb275) := ⟨h7_⟩
     have n8_ : Aside0 (gb275 ≠ gb269) := ⟨h8_⟩
     have n9_ : Aside0 (gb270 ≠ gb275) := ⟨h9_⟩
     have n10_ : Aside0 (gb275 ≠ gb270) := ⟨h10_⟩
     have n11_ : Aside0 (gb271 ≠ gb275) := ⟨h11_⟩
     have n12_ : Aside0 (gb275 ≠ gb271) := ⟨h12_⟩
     have n13_ : Aside0 (Below w.heap.size w w152) := ⟨h13_⟩
     clear BK269
     clear BK270
     clear BK271
     clear HB
     clear h0_ h1_ h2_ h3_ h4_ h5_ h6_ h7_ h8_ h9_ h10_ h11_ h12_ h13_
     have HO274 := n0_
     have BK269 := n1_
     have BK270 := n2_
     have BK271 := n3_
     have BK275 := n4_
     have GW275 := n5_
     have GE275 := n6_
     have NB269_275 := n7_
     have NB275_269 := n8_
     have NB270_275 := n9_
     have NB275_270 := n10_
     have NB271_275 := n11_
     have NB275_271 := n12_
     have HB := n13_
     clear n0_ n1_ n2_ n3_ n4_ n5_ n6_ n7_ n8_ n9_ n10_ n11_ n12_ n13_
     have hHeld : w152.cell? ⟨gb269, 0, none⟩ = some (.int .i64 a0_0) ∧ w152.cell? ⟨gb269, 1, none⟩ = some (.slice A0_1 l0_1.length c0_1) := hS_
     obtain ⟨Ao153, co153, eo153⟩ := Kd.N_slice HO274.out
     (first | subst eo153 | (injection eo153 with f1_ f2_ f3_; have f4_ := f1_.symm; have f5_ := f3_.symm; clear f1_ f2_ f3_; subst f4_; subst f5_))
     refine norm_ (a' := ?_) ?_ ?_
     rotate_left
     ·simp only [putAll, Act.put, List.setIfInBounds_toArray, List.set_cons_zero, List.set_cons_succ]
      rfl
     refine one_ (i := 7) (N := none) (bA_ 8 255) rfl rfl (one_of HT_.out (by kernel_rfl)) (by decide) (fun K hK => ?_)
     have hs154 : w152.cell? ⟨gb275, 0, none⟩ = some (.int .i64 0) := bc_ BK275 0
     have hfs154 := blk_frozen BK275.out 0
     have hns154_0 := NB269_275.out
     have hns154_1 := NB270_275.out
     have hns154_2 := NB271_275.out
     have hms154_0 := NB275_269.out
     have hms154_1 := NB275_270.out
     have hms154_2 := NB275_271.out
     have hs155 : w152.cell? ⟨gb275, 1, none⟩ = some (.slice none 0 0) := bc_ BK275 1
     have hfs155 := blk_frozen BK275.out 1
     have hns155_0 := NB269_275.out
     have hns155_1 := NB270_275.out
     have hns155_2 := NB271_275.out
     have hms155_0 := NB275_269.out
     have hms155_1 := NB275_270.out
     have hms155_2 := NB275_271.out
     refine skip_ (w1 := ?_) (by rfl) rfl ?_ ?_
     rotate_left
     ·go_simp
      rfl
     refine hK.out _ _ ⟨((cell_far (p := ⟨gb275, _, none⟩) NB269_275.out _).trans (((cell_far (p := ⟨gb275, _, none⟩) NB269_275.out _).trans (hHeld.1)))), ((cell_far (p := ⟨gb275, _, none⟩) NB269_275.out _).trans (((cell_far (p := ⟨gb275, _, none⟩) NB269_275.out _).trans (hHeld.2))))⟩ (fun hHeld => ?_)
     clear hK K
     refine done_ (done_of HT_.out (by kernel_rfl)) ?_
     have hnb156 := NB270_269.out
     have hnc156 := NB269_270.out
     have hnb157 := NB270_271.out
     have hnc157 := NB271_270.out
     have hnb158 := NB270_275.out
     have hnc158 := NB275_270.out
     obtain ⟨hcz159_0, hcz159_1, hcz159_2, hcz159_3, hfz159_0, hfz159_1, hfz159_2, hfz159_3⟩ := bx4_ BK270
     try go_wp2
     have n0_ : Aside0 (Kd.N (Kd.slice 2 (Kd.int .i64)) 39 ((w152.setCell ⟨gb275, 0, none⟩ (.int .i64 a0_0)).setCell ⟨gb275, 1, none⟩ (.slice Ao153 t272.length co153)) w.heap.size (fun k_ => (w.heap.size ≤ k_) ∧ k_ ≠ gb269 ∧ k_ ≠ gb270 ∧ k_ ≠ gb271 ∧ k_ ≠ gb275) (.slice Ao153 t272.length co153) t272) := ⟨Nx_ (Kd.N_mono (Kd.N_far (p := ⟨gb275, 1, none⟩) (Kd.N_far (p := ⟨gb275, 0, none⟩) (Kd.N_mono HO274.out (fun k_ hk => (⟨hk, hk.2.2.2.2⟩ : _ ∧ k_ ≠ gb275))) (fun _ hk => hk.2) (.int .i64 a0_0)) (fun _ hk => hk.2) (.slice Ao153 t272.length co153)) (fun _ hk => ⟨hk.1.1, ⟨hk.1.2.1, ⟨hk.1.2.2.1, ⟨hk.1.2.2.2.1, hk.1.2.2.2.2⟩⟩⟩⟩))⟩
     have n1_ : Aside0 (((w152.setCell ⟨gb275, 0, none⟩ (.int .i64 a0_0)).setCell ⟨gb275, 1, none⟩ (.slice Ao153 t272.length co153)).heap[gb269]? = some (.cells #[.int .i64 a0_0, .slice A0_1 l0_1.length c0_1] 28 (0, 0))) := ⟨bk_ BK269.out⟩
     have n2_ : Aside0 (((w152.setCell ⟨gb275, 0, none⟩ (.int .i64 a0_0)).setCell ⟨gb275, 1, none⟩ (.slice Ao153 t272.length co153)).heap[gb270]? = some (.cells #[.int .i64 a1_0, .int .i64 a1_1, .int .i64 a1_2, .slice A1_3 l1_3.length c1_3] 44 (0, 0))) := ⟨bk_ BK270.out⟩
     have n3_ : Aside0 (((w152.setCell ⟨gb275, 0, none⟩ (.int .i64 a0_0)).setCell ⟨gb275, 1, none⟩ (.slice Ao153 t272.length co153)).heap[gb271]? = some (.cells #[.int .i64 0, .slice none 0 0] 28 (0, 0))) := ⟨bk_ BK271.out⟩
     have n4_ : Aside0 (((w152.setCell ⟨gb275, 0, none⟩ (.int .i64 a0_0)).setCell ⟨gb275, 1, none⟩ (.slice Ao153 t272.length co153)).heap[gb275]? = some (.cells #[.int .i64 a0_0, .slice Ao153 t272.length co153] 28 (0, 0))) := ⟨pu2_ BK275⟩
     have n5_ : Aside0 (Below w.heap.size w ((w152.setCell ⟨gb275, 0, none⟩ (.int .i64 a0_0)).setCell ⟨gb275, 1, none⟩ (.slice Ao153 t272.length co153))) := ⟨bb_ HB.out⟩
     (try clear HO274)
     (try clear BK269)
     (try clear BK270)
     (try clear BK271)
     (try clear BK275)
     (try clear HB)
     generalize ((w152.setCell ⟨gb275, 0, none⟩ (.int .i64 a0_0)).setCell ⟨gb275, 1, none⟩ (.slice Ao153 t272.length co153)) = w160 at n0_ n1_ n2_ n3_ n4_ n5_ ⊢
     have HO274 := n0_
     have BK269 := n1_
     have BK270 := n2_
     have BK271 := n3_
     have BK275 := n4_
     have HB := n5_
     clear n0_ n1_ n2_ n3_ n4_ n5_
     have n0_ := am_ (Kd.N_drew HO274.out)
     have n1_ := am_ (blk_drew BK269.out)
     have n2_ := am_ (blk_drew BK270.out)
     have n3_ := am_ (blk_drew BK271.out)
     have n4_ := am_ (blk_drew BK275.out)
     have n5_ := am_ (below_drew1 HB.out)
     clear HO274 BK269 BK270 BK271 BK275 HB; revert n0_ n1_ n2_ n3_ n4_ n5_; intro HO274 BK269 BK270 BK271 BK275 HB
     refine start_ (n := 9) (S := fun w' => w'.cell? ⟨gb269, 0, none⟩ = some (.int .i64 a0_0) ∧ w'.cell? ⟨gb269, 1, none⟩ = some (.slice A0_1 l0_1.length c0_1) ∧ w'.cell? ⟨gb270, 0, none⟩ = some (.int .i64 a1_0) ∧ w'.cell? ⟨gb270, 1, none⟩ = some (.int .i64 a1_1) ∧ w'.cell? ⟨gb270, 2, none⟩ = some (.int .i64 a1_2) ∧ w'.cell? ⟨gb270, 3, none⟩ = some (.slice A1_3 l1_3.length c1_3)) (ds := []) (bA_ 9 0) (by kernel_rfl) rfl (by kernel_rfl) ⟨bc_ BK269 0, bc_ BK269 1, bc_ BK270 0, bc_ BK270 1, bc_ BK270 2, bc_ BK270 3⟩ (fun hHeld => ?_); refine with_tabW spec_l04Move.tab14 spec_l04Move.bits14 (fun HT_ HW_ => ?_)
     generalize w160.drew = w161 at HO274 BK269 BK270 BK271 BK275 HB hHeld ⊢
     refine pz_ 0 96 (bA_ 9 1) HT_ ?_
     refine pz_ 2 98 (bA_ 9 5) HT_ ?_
     refine pz_ 4 100 (bA_ 9 21) HT_ ?_
     refine tz_ 1 97 (bA_ 9 23) HT_ HW_ hHeld ?_
     refine tz_ 3 99 (bA_ 9 31) HT_ HW_ hHeld ?_
     refine tz_ 5 101 (bA_ 9 63) HT_ HW_ hHeld ?_
     refine oz_ 6 102 (bA_ 9 127) HT_ (fun K hK => ?_)
     refine goes_ Try.func40 (by kernel_rfl) rfl #[.slice A0_1 l0_1.length c0_1, .int .i64 a1_1] (by rfl) rfl rfl lm_ ?_
     with_reducible refine (spec_l04Copy.calls k _ _ l0_1 a1_1 t315 _ ?side1 ?side2 A144.out).mono ?_
     (case side1 => exact cb_ HR0_1 HB)
     (case side2 => exact HC0_1.out)
     rintro e w162 ⟨v316, rfl, ho0, hb⟩
     refine ⟨_, rfl, ?_⟩
     have n0_ := am_ (Kd.N_elder' (Nx_ HO274.out) (by first | exact Kd.N_base ho0 | exact Kd.S_base ho0 | exact Kd.R_base ho0) hb)
     have n1_ := am_ (Kd.N_lower (Kd.N_mono (ok' := fun k_ => (w.heap.size ≤ k_) ∧ some k_ ≠ (.slice Ao153 t272.length co153 : Value).ownBlock ∧ k_ ≠ gb269 ∧ k_ ≠ gb270 ∧ k_ ≠ gb271 ∧ k_ ≠ gb275) (Kd.S_N (Kd.S_bound ho0)) (fun k_ hk_ => ⟨(Nat.le_trans (below_size (bb_ HB.out)) hk_.2.1), (Kd.fresh' (Kd.N_lt (Nx_ HO274.out)) k_ hk_.2.1), (Kd.freshB (g := gb269) (o := .cells #[.int .i64 a0_0, .slice A0_1 l0_1.length c0_1] 28 (0, 0)) (bk_ BK269.out) k_ hk_.2.1), (Kd.freshB (g := gb270) (o := .cells #[.int .i64 a1_0, .int .i64 a1_1, .int .i64 a1_2, .slice A1_3 l1_3.length c1_3] 44 (0, 0)) (bk_ BK270.out) k_ hk_.2.1), (Kd.freshB (g := gb271) (o := .cells #[.int .i64 0, .slice none 0 0] 28 (0, 0)) (bk_ BK271.out) k_ hk_.2.1), (Kd.freshB (g := gb275) (o := .cells #[.int .i64 a0_0, .slice Ao153 t272.length co153] 28 (0, 0)) (bk_ BK275.out) k_ hk_.2.1)⟩)) (below_size (bb_ HB.out)))
     have n2_ := am_ (bw_ BK269 hb)
     have n3_ := am_ (bw_ BK270 hb)
     have n4_ := am_ (bw_ BK271 hb)
     have n5_ := am_ (bw_ BK275 hb)
     have n6_ := am_ (below_step (bb_ HB.out) hb)
     clear HO274 BK269 BK270 BK271 BK275 HB; revert n0_ n1_ n2_ n3_ n4_ n5_ n6_; intro HO274 HO317 BK269 BK270 BK271 BK275 HB
     (try clear hb)
     (try clear hb2)
     (try clear hk)
     (try clear hi)
     (try clear ho0)
     obtain ⟨Ao163, co163, eo163⟩ := Kd.N_slice HO317.out
     (first | subst eo163 | (injection eo163 with f1_ f2_ f3_; have f4_ := f1_.symm; have f5_ := f3_.symm; clear f1_ f2_ f3_; subst f4_; subst f5_))
     refine hK.out _ _ ⟨bc_ BK269 0, bc_ BK269 1, bc_ BK270 0, bc_ BK270 1, bc_ BK270 2, bc_ BK270 3⟩ (fun hHeld => ?_)
     clear hK K
     refine nm_ 102 ?_
     refine pz_ 7 103 (bA_ 9 255) HT_ ?_
     refine one_ (i := 8) (N := none) (bA_ 9 511) rfl rfl (one_of HT_.out (by kernel_rfl)) (by decide) (fun K hK => ?_)
     have hs164 : w162.cell? ⟨gb271, 0, none⟩ = some (.int .i64 0) := bc_ BK271 0
     have hfs164 := blk_frozen BK271.out 0
     have hns164_0 := NB269_271.out
     have hns164_1 := NB270_271.out
     have hns164_3 := NB275_271.out
     have hms164_0 := NB271_269.out
     have hms164_1 := NB271_270.out
     have hms164_3 := NB271_275.out
     have hs165 : w162.cell? ⟨gb271, 1, none⟩ = some (.slice none 0 0) := bc_ BK271 1
     have hfs165 := blk_frozen BK271.out 1
     have hns165_0 := NB269_271.out
     have hns165_1 := NB270_271.out
     have hns165_3 := NB275_271.out
     have hms165_0 := NB271_269.out
     have hms165_1 := NB271_270.out
     have hms165_3 := NB271_275.out
     refine skip_ (w1 := ?_) (by rfl) rfl ?_ ?_
     rotate_left
     ·go_simp
      rfl
     refine hK.out _ _ ⟨((cell_far (p := ⟨gb271, _, none⟩) NB269_271.out _).trans (((cell_far (p := ⟨gb271, _, none⟩) NB269_271.out _).trans (hHeld.1)))), ((cell_far (p := ⟨gb271, _, none⟩) NB269_271.out _).trans (((cell_far (p := ⟨gb271, _, none⟩) NB269_271.out _).trans (hHeld.2.1)))), ((cell_far (p := ⟨gb271, _, none⟩) NB270_271.out _).trans (((cell_far (p := ⟨gb271, _, none⟩) NB270_271.out _).trans (hHeld.2.2.1)))), ((cell_far (p := ⟨gb271, _, none⟩) NB270_271.out _).trans (((cell_far (p := ⟨gb271, _, none⟩) NB270_271.out _).trans (hHeld.2.2.2.1)))), ((cell_far (p := ⟨gb271, _, none⟩) NB270_271.out _).trans (((cell_far (p := ⟨gb271, _, none⟩) NB270_271.out _).trans (hHeld.2.2.2.2.1)))), ((cell_far (p := ⟨gb271, _, none⟩) NB270_271.out _).trans (((cell_far (p := ⟨gb271, _, none⟩) NB270_271.out _).trans (hHeld.2.2.2.2.2))))⟩ (fun hHeld => ?_)
     clear hK K
     refine done_ (done_of HT_.out (by kernel_rfl)) ?_
     try go_wp2
     refine bodyPost_ret (results_cell_row rfl _ _ gb271 28 #[.int .i64 a0_0, .slice Ao163 t315.length co163] (0, 0) _ rfl (pu2_ BK271) Try.underlying28 rfl (by kernel_rfl)) rfl ?_
     exact ⟨_, er_, Nx_ (Kd.N_mono (Kd.N_far (p := ⟨gb271, 1, none⟩) (Kd.N_far (p := ⟨gb271, 0, none⟩) (Kd.N_mono HO317.out (fun k_ hk => (⟨hk, hk.2.2.2.2.1⟩ : _ ∧ k_ ≠ gb271))) (fun _ hk => hk.2) (.int .i64 a0_0)) (fun _ hk => hk.2) (.slice Ao163 t315.length co163)) (fun _ hk => hk.1.1)), bb_ HB.out⟩
    ·rw [if_neg c143] at H
     have c143b0 : (a1_0 == 4) = false := beq_eq_false_iff_ne.mpr c143
     have c143b1 : (a1_0 != 4) = true := bne_iff_ne.mpr c143
     by_cases c166 : a1_0 = 5
     ·rw [if_pos c166] at H
      have c166b0 : (a1_0 == 5) = true := beq_iff_eq.mpr c166
      have c166b1 : (a1_0 != 5) = false := bne_eq_false_iff_eq.mpr c166
      clear c166
      replace H := Option.bind_eq_some_iff.mp H
      obtain ⟨⟨t318, t319⟩, A1670, H⟩ := H
      replace H : (some (t318, t319)) = some (r1, r2) := H
      have A167 := am_ A1670
      clear A1670
      simp only [Option.some.injEq, Prod.mk.injEq] at H
      obtain ⟨rfl, rfl⟩ := H
      go_enter Try.func63, Try.ntmps63
      try go_wp2_with (first | (refine be_ 2 28 #[.int .i64 a0_0, .slice A0_1 l0_1.length c0_1] ?_; intro gb269 hg w168 hbox hb; have n_ := ba0_ HB hbox hb hg; clear  HB hb hbox hg; obtain ⟨HB, BK269, GW269, GE269⟩ := n_) | (refine be_ 3 44 #[.int .i64 a1_0, .int .i64 a1_1, .int .i64 a1_2, .slice A1_3 l1_3.length c1_3] ?_; intro gb270 hg w169 hbox hb; have n_ := ba1_ BK269 HB hbox hb hg; clear BK269 HB hb hbox hg; obtain ⟨BK269, HB, BK270, GW270, GE270, NB269_270, NB270_269⟩ := n_) | (refine be_ 4 28 #[.int .i64 0, .slice none 0 0] ?_; intro gb271 hg w170 hbox hb; have n_ := ba2_ BK269 BK270 HB hbox hb hg; clear BK269 BK270 HB hb hbox hg; obtain ⟨BK269, BK270, HB, BK271, GW271, GE271, NB269_271, NB271_269, NB270_271, NB271_270⟩ := n_))
      have n0_ := am_ (blk_drew BK269.out)
      have n1_ := am_ (blk_drew BK270.out)
      have n2_ := am_ (blk_drew BK271.out)
      have n3_ := am_ (below_drew1 HB.out)
      clear BK269 BK270 BK271 HB; revert n0_ n1_ n2_ n3_; intro BK269 BK270 BK271 HB
      refine start_ (n := 8) (S := fun w' => w'.cell? ⟨gb269, 0, none⟩ = some (.int .i64 a0_0) ∧ w'.cell? ⟨gb269, 1, none⟩ = some (.slice A0_1 l0_1.length c0_1)) (ds := []) (bA_ 8 0) (by kernel_rfl) rfl (by kernel_rfl) ⟨bc_ BK269 0, bc_ BK269 1⟩ (fun hHeld => ?_); refine with_tabW spec_l04Move.tab1 spec_l04Move.bits1 (fun HT_ HW_ => ?_)
      generalize w170.drew = w171 at BK269 BK270 BK271 HB hHeld ⊢
      refine pz_ 0 8 (bA_ 8 1) HT_ ?_
      refine pz_ 2 10 (bA_ 8 5) HT_ ?_
      refine tz_ 1 9 (bA_ 8 7) HT_ HW_ hHeld ?_
      refine tz_ 3 11 (bA_ 8 15) HT_ HW_ hHeld ?_
      refine join_ (σ := Value × Nat) 1 (bA_ 8 127) (fun s_ => [(12, s_.1), (5, .pointer (some ⟨s_.2, 0, none⟩)), (13, .agg #[.int .i64 a0_0, s_.1])]) (fun s_ w' => (w'.cell? ⟨gb269, 0, none⟩ = some (.int .i64 a0_0) ∧ w'.cell? ⟨gb269, 1, none⟩ = some (.slice A0_1 l0_1.length c0_1)) ∧ (Kd.N (Kd.slice 2 (Kd.int .i64)) 39 w' w.heap.size (fun k_ => (w.heap.size ≤ k_) ∧ k_ ≠ gb269 ∧ k_ ≠ gb270 ∧ k_ ≠ gb271 ∧ k_ ≠ s_.2) s_.1 t272) ∧ (w'.heap[gb269]? = some (.cells #[.int .i64 a0_0, .slice A0_1 l0_1.length c0_1] 28 (0, 0))) ∧ (w'.heap[gb270]? = some (.cells #[.int .i64 a1_0, .int .i64 a1_1, .int .i64 a1_2, .slice A1_3 l1_3.length c1_3] 44 (0, 0))) ∧ (w'.heap[gb271]? = some (.cells #[.int .i64 0, .slice none 0 0] 28 (0, 0))) ∧ (w'.heap[s_.2]? = some (.cells #[.int .i64 0, .slice none 0 0] 28 (0, 0))) ∧ (w.heap.size ≤ s_.2) ∧ (w.heap.size ≤ s_.2) ∧ (gb269 ≠ s_.2) ∧ (s_.2 ≠ gb269) ∧ (gb270 ≠ s_.2) ∧ (s_.2 ≠ gb270) ∧ (gb271 ≠ s_.2) ∧ (s_.2 ≠ gb271) ∧ (Below w.heap.size w w')) ?_ ?_
      rotate_left
      ·intro hCont
       refine two_ (i := 4) (j := 6) (Ni := some 12) (Nj := some 5) (bA_ 8 31) (bA_ 8 79) rfl rfl rfl rfl (two_of HT_.out (by kernel_rfl)) (by decide) (by decide) (fun K hK => ?_) (fun K hK => ?_)
       ·skip
        refine goes_ Try.func40 (by kernel_rfl) rfl #[.slice A0_1 l0_1.length c0_1, .int .i64 (-1)] (by rfl) rfl rfl lm_ ?_
        with_reducible refine (spec_l04Copy.calls k _ _ l0_1 (-1) t272 _ ?side1 ?side2 A3.out).mono ?_
        (case side1 => exact cb_ HR0_1 HB)
        (case side2 => exact HC0_1.out)
        rintro e w172 ⟨v273, rfl, ho0, hb⟩
        refine ⟨_, rfl, ?_⟩
        have n0_ := am_ (Kd.N_lower (Kd.N_mono (ok' := fun k_ => (w.heap.size ≤ k_) ∧ k_ ≠ gb269 ∧ k_ ≠ gb270 ∧ k_ ≠ gb271) (Kd.S_N (Kd.S_bound ho0)) (fun k_ hk_ => ⟨(Nat.le_trans (below_size (bb_ HB.out)) hk_.2.1), (Kd.freshB (g := gb269) (o := .cells #[.int .i64 a0_0, .slice A0_1 l0_1.length c0_1] 28 (0, 0)) (bk_ BK269.out) k_ hk_.2.1), (Kd.freshB (g := gb270) (o := .cells #[.int .i64 a1_0, .int .i64 a1_1, .int .i64 a1_2, .slice A1_3 l1_3.length c1_3] 44 (0, 0)) (bk_ BK270.out) k_ hk_.2.1), (Kd.freshB (g := gb271) (o := .cells #[.int .i64 0, .slice none 0 0] 28 (0, 0)) (bk_ BK271.out) k_ hk_.2.1)⟩)) (below_size (bb_ HB.out)))
        have n1_ := am_ (bw_ BK269 hb)
        have n2_ := am_ (bw_ BK270 hb)
        have n3_ := am_ (bw_ BK271 hb)
        have n4_ := am_ (below_step (bb_ HB.out) hb)
        clear BK269 BK270 BK271 HB; revert n0_ n1_ n2_ n3_ n4_; intro HO274 BK269 BK270 BK271 HB
        (try clear hb)
        (try clear hb2)
        (try clear hk)
        (try clear hi)
        (try clear ho0)
        obtain ⟨Ao173, co173, eo173⟩ := Kd.N_slice HO274.out
        (first | subst eo173 | (injection eo173 with f1_ f2_ f3_; have f4_ := f1_.symm; have f5_ := f3_.symm; clear f1_ f2_ f3_; subst f4_; subst f5_))
        refine hK.out _ _ ⟨bc_ BK269 0, bc_ BK269 1⟩ (fun hHeld => ?_)
        clear hK K
        refine nm_ 12 ?_
        refine pz_ 5 13 (bA_ 8 63) HT_ ?_
        refine oz_ 6 5 (bA_ 8 127) HT_ (fun K hK => ?_)
        refine box_step ?hg (N := 5) ?hd (cs := #[.int .i64 0, .slice none 0 0]) (t := 28) ?hr ?_; (case hd => rfl); (case hg => rfl); (case hr => first | (go_simp; done) | (go_simp; rfl))
        intro gb275 hg w174 hbox hb
        have n0_ := am_ (Kd.N_below (Kd.N_elderB (Nx_ HO274.out) gb275 (Nat.le_of_eq hg.symm)) hb)
        have n1_ := am_ (bw_ BK269 hb)
        have n2_ := am_ (bw_ BK270 hb)
        have n3_ := am_ (bw_ BK271 hb)
        have n4_ := am_ (below_step (bb_ HB.out) hb)
        have n5_ := am_ (hbox)
        have n6_ := gs_ HB hg
        have n7_ := gs_ HB hg
        have n8_ := am_ (nl_ BK269 hg)
        have n9_ := am_ (ng_ BK269 hg)
        have n10_ := am_ (nl_ BK270 hg)
        have n11_ := am_ (ng_ BK270 hg)
        have n12_ := am_ (nl_ BK271 hg)
        have n13_ := am_ (ng_ BK271 hg)
        clear HO274 BK269 BK270 BK271 HB; revert n0_ n1_ n2_ n3_ n4_ n5_ n6_ n7_ n8_ n9_ n10_ n11_ n12_ n13_; intro HO274 BK269 BK270 BK271 HB BK275 GW275 GE275 NB269_275 NB275_269 NB270_275 NB275_270 NB271_275 NB275_271
        clear hb hbox hg
        refine hK.out _ _ ⟨bc_ BK269 0, bc_ BK269 1⟩ (fun hHeld => ?_)
        clear hK K
        refine nm_ 5 ?_
        exact norm_ (by simp only [putAll, Act.put, List.setIfInBounds_toArray, List.set_cons_zero, List.set_cons_succ]) (hCont (.slice Ao173 t272.length co173, gb275) _ ⟨hHeld, (Nx_ (Kd.N_mono HO274.out (fun _ hk => ⟨hk.1.1, ⟨hk.1.2.1, ⟨hk.1.2.2.1, ⟨hk.1.2.2.2, hk.2⟩⟩⟩⟩))), (bk_ BK269.out), (bk_ BK270.out), (bk_ BK271.out), (bk_ BK275.out), GW275.out, GE275.out, NB269_275.out, NB275_269.out, NB270_275.out, NB275_270.out, NB271_275.out, NB275_271.out, (bb_ HB.out)⟩)
       ·skip
        refine box_step ?hg (N := 5) ?hd (cs := #[.int .i64 0, .slice none 0 0]) (t := 28) ?hr ?_; (case hd => rfl); (case hg => rfl); (case hr => first | (go_simp; done) | (go_simp; rfl))
        intro gb275 hg w172 hbox hb
        have n0_ := am_ (bw_ BK269 hb)
        have n1_ := am_ (bw_ BK270 hb)
        have n2_ := am_ (bw_ BK271 hb)
        have n3_ := am_ (below_step (bb_ HB.out) hb)
        have n4_ := am_ (hbox)
        have n5_ := gs_ HB hg
        have n6_ := gs_ HB hg
        have n7_ := am_ (nl_ BK269 hg)
        have n8_ := am_ (ng_ BK269 hg)
        have n9_ := am_ (nl_ BK270 hg)
        have n10_ := am_ (ng_ BK270 hg)
        have n11_ := am_ (nl_ BK271 hg)
        have n12_ := am_ (ng_ BK271 hg)
        clear BK269 BK270 BK271 HB; revert n0_ n1_ n2_ n3_ n4_ n5_ n6_ n7_ n8_ n9_ n10_ n11_ n12_; intro BK269 BK270 BK271 HB BK275 GW275 GE275 NB269_275 NB275_269 NB270_275 NB275_270 NB271_275 NB275_271
        clear hb hbox hg
        refine hK.out _ _ ⟨bc_ BK269 0, bc_ BK269 1⟩ (fun hHeld => ?_)
        clear hK K
        refine nm_ 5 ?_
        refine oz_ 4 12 (bA_ 8 95) HT_ (fun K hK => ?_)
        refine goes_ Try.func40 (by kernel_rfl) rfl #[.slice A0_1 l0_1.length c0_1, .int .i64 (-1)] (by rfl) rfl rfl lm_ ?_
        with_reducible refine (spec_l04Copy.calls k _ _ l0_1 (-1) t272 _ ?side1 ?side2 A3.out).mono ?_
        (case side1 => exact cb_ HR0_1 HB)
        (case side2 => exact HC0_1.out)
        rintro e w173 ⟨v273, rfl, ho0, hb⟩
        refine ⟨_, rfl, ?_⟩
        have n0_ := am_ (Kd.N_lower (Kd.N_mono (ok' := fun k_ => (w.heap.size ≤ k_) ∧ k_ ≠ gb269 ∧ k_ ≠ gb270 ∧ k_ ≠ gb271 ∧ k_ ≠ gb275) (Kd.S_N (Kd.S_bound ho0)) (fun k_ hk_ => ⟨(Nat.le_trans (below_size (bb_ HB.out)) hk_.2.1), (Kd.freshB (g := gb269) (o := .cells #[.int .i64 a0_0, .slice A0_1 l0_1.length c0_1] 28 (0, 0)) (bk_ BK269.out) k_ hk_.2.1), (Kd.freshB (g := gb270) (o := .cells #[.int .i64 a1_0, .int .i64 a1_1, .int .i64 a1_2, .slice A1_3 l1_3.length c1_3] 44 (0, 0)) (bk_ BK270.out) k_ hk_.2.1), (Kd.freshB (g := gb271) (o := .cells #[.int .i64 0, .slice none 0 0] 28 (0, 0)) (bk_ BK271.out) k_ hk_.2.1), (Kd.freshB (g := gb275) (o := .cells #[.int .i64 0, .slice none 0 0] 28 (0, 0)) (bk_ BK275.out) k_ hk_.2.1)⟩)) (below_size (bb_ HB.out)))
        have n1_ := am_ (bw_ BK269 hb)
        have n2_ := am_ (bw_ BK270 hb)
        have n3_ := am_ (bw_ BK271 hb)
        have n4_ := am_ (bw_ BK275 hb)
        have n5_ := am_ (below_step (bb_ HB.out) hb)
        clear BK269 BK270 BK271 BK275 HB; revert n0_ n1_ n2_ n3_ n4_ n5_; intro HO274 BK269 BK270 BK271 BK275 HB
        (try clear hb)
        (try clear hb2)
        (try clear hk)
        (try clear hi)
        (try clear ho0)
        obtain ⟨Ao174, co174, eo174⟩ := Kd.N_slice HO274.out
        (first | subst eo174 | (injection eo174 with f1_ f2_ f3_; have f4_ := f1_.symm; have f5_ := f3_.symm; clear f1_ f2_ f3_; subst f4_; subst f5_))
        refine hK.out _ _ ⟨bc_ BK269 0, bc_ BK269 1⟩ (fun hHeld => ?_)
        clear hK K
        refine nm_ 12 ?_
        refine pz_ 5 13 (bA_ 8 127) HT_ ?_
        exact norm_ (by simp only [putAll, Act.put, List.setIfInBounds_toArray, List.set_cons_zero, List.set_cons_succ]) (hCont (.slice Ao174 t272.length co174, gb275) _ ⟨hHeld, (Nx_ HO274.out), (bk_ BK269.out), (bk_ BK270.out), (bk_ BK271.out), (bk_ BK275.out), GW275.out, GE275.out, NB269_275.out, NB275_269.out, NB270_275.out, NB275_270.out, NB271_275.out, NB275_271.out, (bb_ HB.out)⟩)
      rintro ⟨v273, gb275⟩ w175 ⟨hS_, h0_, h1_, h2_, h3_, h4_, h5_, h6_, h7_, h8_, h9_, h10_, h11_, h12_, h13_⟩
      have n0_ : Aside0 (Kd.N (Kd.slice 2 (Kd.int .i64)) 39 w175 w.heap.size (fun k_ => (w.heap.size ≤ k_) ∧ k_ ≠ gb269 ∧ k_ ≠ gb270 ∧ k_ ≠ gb271 ∧ k_ ≠ gb275) v273 t272) := ⟨h0_⟩
      have n1_ : Aside0 (w175.heap[gb269]? = some (.cells #[.int .i64 a0_0, .slice A0_1 l0_1.length c0_1] 28 (0, 0))) := ⟨h1_⟩
      have n2_ : Aside0 (w175.heap[gb270]? = some (.cells #[.int .i64 a1_0, .int .i64 a1_1, .int .i64 a1_2, .slice A1_3 l1_3.length c1_3] 44 (0, 0))) := ⟨h2_⟩
      have n3_ : Aside0 (w175.heap[gb271]? = some (.cells #[.int .i64 0, .slice none 0 0] 28 (0, 0))) := ⟨h3_⟩
      have n4_ : Aside0 (w175.heap[gb275]? = some (.cells #[.int .i64 0, .slice none 0 0] 28 (0, 0))) := ⟨h4_⟩
      have n5_ : Aside0 (w.heap.size ≤ gb275) := ⟨h5_⟩
      have n6_ : Aside0 (w.heap.size ≤ gb275) := ⟨h6_⟩
      have n7_ : Aside0 (gb269 ≠ gb275) := ⟨h7_⟩
      have n8_ : Aside0 (gb275 ≠ gb269) := ⟨h8_⟩
      have n9_ : Aside0 (gb270 ≠ gb275) := ⟨h9_⟩
      have n10_ : Aside0 (gb275 ≠ gb270) := ⟨h10_⟩
      have n11_ : Aside0 (gb271 ≠ gb275) := ⟨h11_⟩
      have n12_ : Aside0 (gb275 ≠ gb271) := ⟨h12_⟩
      have n13_ : Aside0 (Below w.heap.size w w175) := ⟨h13_⟩
      clear BK269
      clear BK270
      clear BK271
      clear HB
      clear h0_ h1_ h2_ h3_ h4_ h5_ h6_ h7_ h8_ h9_ h10_ h11_ h12_ h13_
      have HO274 := n0_
      have BK269 := n1_
      have BK270 := n2_
      have BK271 := n3_
      have BK275 := n4_
      have GW275 := n5_
      have GE275 := n6_
      have NB269_275 := n7_
      have NB275_269 := n8_
      have NB270_275 := n9_
      have NB275_270 := n10_
      have NB271_275 := n11_
      have NB275_271 := n12_
      have HB := n13_
      clear n0_ n1_ n2_ n3_ n4_ n5_ n6_ n7_ n8_ n9_ n10_ n11_ n12_ n13_
      have hHeld : w175.cell? ⟨gb269, 0, none⟩ = some (.int .i64 a0_0) ∧ w175.cell? ⟨gb269, 1, none⟩ = some (.slice A0_1 l0_1.length c0_1) := hS_
      obtain ⟨Ao176, co176, eo176⟩ := Kd.N_slice HO274.out
      (first | subst eo176 | (injection eo176 with f1_ f2_ f3_; have f4_ := f1_.symm; have f5_ := f3_.symm; clear f1_ f2_ f3_; subst f4_; subst f5_))
      refine norm_ (a' := ?_) ?_ ?_
      rotate_left
      ·simp only [putAll, Act.put, List.setIfInBounds_toArray, List.set_cons_zero, List.set_cons_succ]
       rfl
      refine one_ (i := 7) (N := none) (bA_ 8 255) rfl rfl (one_of HT_.out (by kernel_rfl)) (by decide) (fun K hK => ?_)
      have hs177 : w175.cell? ⟨gb275, 0, none⟩ = some (.int .i64 0) := bc_ BK275 0
      have hfs177 := blk_frozen BK275.out 0
      have hns177_0 := NB269_275.out
      have hns177_1 := NB270_275.out
      have hns177_2 := NB271_275.out
      have hms177_0 := NB275_269.out
      have hms177_1 := NB275_270.out
      have hms177_2 := NB275_271.out
      have hs178 : w175.cell? ⟨gb275, 1, none⟩ = some (.slice none 0 0) := bc_ BK275 1
      have hfs178 := blk_frozen BK275.out 1
      have hns178_0 := NB269_275.out
      have hns178_1 := NB270_275.out
      have hns178_2 := NB271_275.out
      have hms178_0 := NB275_269.out
      have hms178_1 := NB275_270.out
      have hms178_2 := NB275_271.out
      refine skip_ (w1 := ?_) (by rfl) rfl ?_ ?_
      rotate_left
      ·go_simp
       rfl
      refine hK.out _ _ ⟨((cell_far (p := ⟨gb275, _, none⟩) NB269_275.out _).trans (((cell_far (p := ⟨gb275, _, none⟩) NB269_275.out _).trans (hHeld.1)))), ((cell_far (p := ⟨gb275, _, none⟩) NB269_275.out _).trans (((cell_far (p := ⟨gb275, _, none⟩) NB269_275.out _).trans (hHeld.2))))⟩ (fun hHeld => ?_)
      clear hK K
      refine done_ (done_of HT_.out (by kernel_rfl)) ?_
      have hnb179 := NB270_269.out
      have hnc179 := NB269_270.out
      have hnb180 := NB270_271.out
      have hnc180 := NB271_270.out
      have hnb181 := NB270_275.out
      have hnc181 := NB275_270.out
      obtain ⟨hcz182_0, hcz182_1, hcz182_2, hcz182_3, hfz182_0, hfz182_1, hfz182_2, hfz182_3⟩ := bx4_ BK270
      have hnb183 := NB269_271.out
      have hnc183 := NB271_269.out
      have hnb184 := NB269_275.out
      have hnc184 := NB275_269.out
      obtain ⟨hcz185_0, hcz185_1, hfz185_0, hfz185_1⟩ := bx2_ BK269
      try go_wp2_with (first | ((with_reducible refine gate_callee (f := 97) rfl ?_); refine goesL_ (some 111) rfl rfl Try.func97 (by kernel_rfl) rfl #[.agg #[.int .i64 a0_0, .slice A0_1 l0_1.length c0_1], .int .i64 a1_1, .int .i64 a1_2] rfl lm_ ?_; (with_reducible refine (spec_l04Remove.calls k a0_0 _ _ l0_1 a1_1 a1_2 t318 t319 _ ?side1 ?side2 A167.out).mono ?_); (case side1 => exact Kd.C_below HR0_1.out (bb_ HB.out)); (case side2 => exact HC0_1.out); rintro e w186 ⟨v320, rfl, ho0, hb⟩; refine ⟨_, rfl, ?_⟩; have n0_ := am_ (Kd.N_elder' (Nx_ (Kd.N_mono (Kd.N_far (p := ⟨gb275, 1, none⟩) (Kd.N_far (p := ⟨gb275, 0, none⟩) (Kd.N_mono HO274.out (fun k_ hk => (⟨hk, hk.2.2.2.2⟩ : _ ∧ k_ ≠ gb275))) (fun _ hk => hk.2) (.int .i64 a0_0)) (fun _ hk => hk.2) (.slice Ao176 t272.length co176)) (fun _ h_ => h_.1))) (by first | exact Kd.N_base ho0 | exact Kd.S_base ho0 | exact Kd.R_base ho0) hb); have n1_ := am_ (Kd.N_lower (Kd.N_mono (ok' := fun k_ => (w.heap.size ≤ k_) ∧ some k_ ≠ (.slice Ao176 t272.length co176 : Value).ownBlock ∧ k_ ≠ gb269 ∧ k_ ≠ gb270 ∧ k_ ≠ gb271 ∧ k_ ≠ gb275) (Kd.S_N (Kd.S_bound ho0)) (fun k_ hk_ => ⟨(Nat.le_trans (below_size (bb_ HB.out)) hk_.2.1), (Kd.fresh' (Kd.N_lt (Nx_ (Kd.N_mono (Kd.N_far (p := ⟨gb275, 1, none⟩) (Kd.N_far (p := ⟨gb275, 0, none⟩) (Kd.N_mono HO274.out (fun k_ hk => (⟨hk, hk.2.2.2.2⟩ : _ ∧ k_ ≠ gb275))) (fun _ hk => hk.2) (.int .i64 a0_0)) (fun _ hk => hk.2) (.slice Ao176 t272.length co176)) (fun _ h_ => h_.1)))) k_ hk_.2.1), (Kd.freshB (g := gb269) (o := .cells #[.int .i64 a0_0, .slice A0_1 l0_1.length c0_1] 28 (0, 0)) (bk_ BK269.out) k_ hk_.2.1), (Kd.freshB (g := gb270) (o := .cells #[.int .i64 a1_0, .int .i64 a1_1, .int .i64 a1_2, .slice A1_3 l1_3.length c1_3] 44 (0, 0)) (bk_ BK270.out) k_ hk_.2.1), (Kd.freshB (g := gb271) (o := .cells #[.int .i64 0, .slice none 0 0] 28 (0, 0)) (bk_ BK271.out) k_ hk_.2.1), (Kd.freshB (g := gb275) (o := .cells #[.int .i64 a0_0, .slice Ao176 t272.length co176] 28 (0, 0)) (pu2_ BK275) k_ hk_.2.1)⟩)) (below_size (bb_ HB.out))); have n2_ := am_ (bw_ BK269 hb); have n3_ := am_ (bw_ BK270 hb); have n4_ := am_ (bw_ BK271 hb); have n5_ := am_ (blk_below (g := gb275) (o := .cells #[.int .i64 a0_0, .slice Ao176 t272.length co176] 28 (0, 0)) (pu2_ BK275) hb); have n6_ := am_ (below_step (bb_ HB.out) hb); clear HO274 BK269 BK270 BK271 BK275 HB; revert n0_ n1_ n2_ n3_ n4_ n5_ n6_; intro HO274 HO321 BK269 BK270 BK271 BK275 HB; (try clear hb); (try clear hb2); (try clear hk); (try clear hi); (try clear ho0); have hnb187 := NB271_275.out; have hnc187 := NB275_271.out; obtain ⟨hcz188_0, hcz188_1, hfz188_0, hfz188_1⟩ := bx2_ BK271; obtain ⟨Ao189, co189, eo189⟩ := Kd.N_slice HO321.out; subst eo189))
      refine bodyPost_ret (results_cell_row rfl _ _ gb271 28 #[.int .i64 t318, .slice Ao189 t319.length co189] (0, 0) _ rfl (pu2_ BK271) Try.underlying28 rfl (by kernel_rfl)) rfl ?_
      exact ⟨_, er_, Nx_ (Kd.N_mono (Kd.N_far (p := ⟨gb271, 1, none⟩) (Kd.N_far (p := ⟨gb271, 0, none⟩) (Kd.N_mono HO321.out (fun k_ hk => (⟨hk, hk.2.2.2.2.1⟩ : _ ∧ k_ ≠ gb271))) (fun _ hk => hk.2) (.int .i64 t318)) (fun _ hk => hk.2) (.slice Ao189 t319.length co189)) (fun _ hk => hk.1.1)), bb_ HB.out⟩
     ·rw [if_neg c166] at H
      have c166b0 : (a1_0 == 5) = false := beq_eq_false_iff_ne.mpr c166
      have c166b1 : (a1_0 != 5) = true := bne_iff_ne.mpr c166
      obtain ⟨y322, hy322⟩ : ∃ y_ : List Int, y_ = (([wrap64 (-(wrap64 (a0_0 + 1)))] : List Int)) := ⟨_, rfl⟩
      replace H : (if y322.length + l1_3.length < 17592186044416 then ((some (([(y322 ++ l1_3)] : List (List Int)) : List (List Int))).bind fun y328 => (if t272.length + y328.length < 5864062014805 then (some (wrap64 (a0_0 + 1), (t272 ++ y328))) else (none))) else (none)) = some (r1, r2) := hq_ hy322 H
      have Ny322 := am_ hy322
      clear hy322
      by_cases c190 : y322.length + l1_3.length < 17592186044416
      ·rw [if_pos c190] at H
       have LMc190 := am_ c190
       clear c190
       obtain ⟨y325, hy325⟩ : ∃ y_ : List Int, y_ = (y322 ++ l1_3) := ⟨_, rfl⟩
       replace H : ((some (([y325] : List (List Int)) : List (List Int))).bind fun y328 => (if t272.length + y328.length < 5864062014805 then (some (wrap64 (a0_0 + 1), (t272 ++ y328))) else (none))) = some (r1, r2) := hq_ hy325 H
       have Ny325 := am_ hy325
       clear hy325
       obtain ⟨y328, hy328⟩ : ∃ y_ : List (List Int), y_ = (([y325] : List (List Int))) := ⟨_, rfl⟩
       replace H : (if t272.length + y328.length < 5864062014805 then (some (wrap64 (a0_0 + 1), (t272 ++ y328))) else (none)) = some (r1, r2) := hq_ hy328 H
       have Ny328 := am_ hy328
       clear hy328
       by_cases c191 : t272.length + y328.length < 5864062014805
       ·rw [if_pos c191] at H
        have LMc191 := am_ c191
        clear c191
        obtain ⟨y331, hy331⟩ : ∃ y_ : List (List Int), y_ = (t272 ++ y328) := ⟨_, rfl⟩
        replace H : (some (wrap64 (a0_0 + 1), y331)) = some (r1, r2) := hq_ hy331 H
        have Ny331 := am_ hy331
        clear hy331
        simp only [Option.some.injEq, Prod.mk.injEq] at H
        obtain ⟨rfl, rfl⟩ := H
        go_enter Try.func63, Try.ntmps63
        try go_wp2_with (first | (refine be_ 2 28 #[.int .i64 a0_0, .slice A0_1 l0_1.length c0_1] ?_; intro gb269 hg w192 hbox hb; have n_ := ba0_ HB hbox hb hg; clear  HB hb hbox hg; obtain ⟨HB, BK269, GW269, GE269⟩ := n_) | (refine be_ 3 44 #[.int .i64 a1_0, .int .i64 a1_1, .int .i64 a1_2, .slice A1_3 l1_3.length c1_3] ?_; intro gb270 hg w193 hbox hb; have n_ := ba1_ BK269 HB hbox hb hg; clear BK269 HB hb hbox hg; obtain ⟨BK269, HB, BK270, GW270, GE270, NB269_270, NB270_269⟩ := n_) | (refine be_ 4 28 #[.int .i64 0, .slice none 0 0] ?_; intro gb271 hg w194 hbox hb; have n_ := ba2_ BK269 BK270 HB hbox hb hg; clear BK269 BK270 HB hb hbox hg; obtain ⟨BK269, BK270, HB, BK271, GW271, GE271, NB269_271, NB271_269, NB270_271, NB271_270⟩ := n_))
        have n0_ := am_ (blk_drew BK269.out)
        have n1_ := am_ (blk_drew BK270.out)
        have n2_ := am_ (blk_drew BK271.out)
        have n3_ := am_ (below_drew1 HB.out)
        clear BK269 BK270 BK271 HB; revert n0_ n1_ n2_ n3_; intro BK269 BK270 BK271 HB
        refine start_ (n := 8) (S := fun w' => w'.cell? ⟨gb269, 0, none⟩ = some (.int .i64 a0_0) ∧ w'.cell? ⟨gb269, 1, none⟩ = some (.slice A0_1 l0_1.length c0_1)) (ds := []) (bA_ 8 0) (by kernel_rfl) rfl (by kernel_rfl) ⟨bc_ BK269 0, bc_ BK269 1⟩ (fun hHeld => ?_); refine with_tabW spec_l04Move.tab1 spec_l04Move.bits1 (fun HT_ HW_ => ?_)
        generalize w194.drew = w195 at BK269 BK270 BK271 HB hHeld ⊢
        refine pz_ 0 8 (bA_ 8 1) HT_ ?_
        refine pz_ 2 10 (bA_ 8 5) HT_ ?_
        refine tz_ 1 9 (bA_ 8 7) HT_ HW_ hHeld ?_
        refine tz_ 3 11 (bA_ 8 15) HT_ HW_ hHeld ?_
        refine join_ (σ := Value × Nat) 1 (bA_ 8 127) (fun s_ => [(12, s_.1), (5, .pointer (some ⟨s_.2, 0, none⟩)), (13, .agg #[.int .i64 a0_0, s_.1])]) (fun s_ w' => (w'.cell? ⟨gb269, 0, none⟩ = some (.int .i64 a0_0) ∧ w'.cell? ⟨gb269, 1, none⟩ = some (.slice A0_1 l0_1.length c0_1)) ∧ (Kd.N (Kd.slice 2 (Kd.int .i64)) 39 w' w.heap.size (fun k_ => (w.heap.size ≤ k_) ∧ k_ ≠ gb269 ∧ k_ ≠ gb270 ∧ k_ ≠ gb271 ∧ k_ ≠ s_.2) s_.1 t272) ∧ (w'.heap[gb269]? = some (.cells #[.int .i64 a0_0, .slice A0_1 l0_1.length c0_1] 28 (0, 0))) ∧ (w'.heap[gb270]? = some (.cells #[.int .i64 a1_0, .int .i64 a1_1, .int .i64 a1_2, .slice A1_3 l1_3.length c1_3] 44 (0, 0))) ∧ (w'.heap[gb271]? = some (.cells #[.int .i64 0, .slice none 0 0] 28 (0, 0))) ∧ (w'.heap[s_.2]? = some (.cells #[.int .i64 0, .slice none 0 0] 28 (0, 0))) ∧ (w.heap.size ≤ s_.2) ∧ (w.heap.size ≤ s_.2) ∧ (gb269 ≠ s_.2) ∧ (s_.2 ≠ gb269) ∧ (gb270 ≠ s_.2) ∧ (s_.2 ≠ gb270) ∧ (gb271 ≠ s_.2) ∧ (s_.2 ≠ gb271) ∧ (Below w.heap.size w w')) ?_ ?_
        rotate_left
        ·intro hCont
         refine two_ (i := 4) (j := 6) (Ni := some 12) (Nj := some 5) (bA_ 8 31) (bA_ 8 79) rfl rfl rfl rfl (two_of HT_.out (by kernel_rfl)) (by decide) (by decide) (fun K hK => ?_) (fun K hK => ?_)
         ·skip
          refine goes_ Try.func40 (by kernel_rfl) rfl #[.slice A0_1 l0_1.length c0_1, .int .i64 (-1)] (by rfl) rfl rfl lm_ ?_
          with_reducible refine (spec_l04Copy.calls k _ _ l0_1 (-1) t272 _ ?side1 ?side2 A3.out).mono ?_
          (case side1 => exact cb_ HR0_1 HB)
          (case side2 => exact HC0_1.out)
          rintro e w196 ⟨v273, rfl, ho0, hb⟩
          refine ⟨_, rfl, ?_⟩
          have n0_ := am_ (Kd.N_lower (Kd.N_mono (ok' := fun k_ => (w.heap.size ≤ k_) ∧ k_ ≠ gb269 ∧ k_ ≠ gb270 ∧ k_ ≠ gb271) (Kd.S_N (Kd.S_bound ho0)) (fun k_ hk_ => ⟨(Nat.le_trans (below_size (bb_ HB.out)) hk_.2.1), (Kd.freshB (g := gb269) (o := .cells #[.int .i64 a0_0, .slice A0_1 l0_1.length c0_1] 28 (0, 0)) (bk_ BK269.out) k_ hk_.2.1), (Kd.freshB (g := gb270) (o := .cells #[.int .i64 a1_0, .int .i64 a1_1, .int .i64 a1_2, .slice A1_3 l1_3.length c1_3] 44 (0, 0)) (bk_ BK270.out) k_ hk_.2.1), (Kd.freshB (g := gb271) (o := .cells #[.int .i64 0, .slice none 0 0] 28 (0, 0)) (bk_ BK271.out) k_ hk_.2.1)⟩)) (below_size (bb_ HB.out)))
          have n1_ := am_ (bw_ BK269 hb)
          have n2_ := am_ (bw_ BK270 hb)
          have n3_ := am_ (bw_ BK271 hb)
          have n4_ := am_ (below_step (bb_ HB.out) hb)
          clear BK269 BK270 BK271 HB; revert n0_ n1_ n2_ n3_ n4_; intro HO274 BK269 BK270 BK271 HB
          (try clear hb)
          (try clear hb2)
          (try clear hk)
          (try clear hi)
          (try clear ho0)
          obtain ⟨Ao197, co197, eo197⟩ := Kd.N_slice HO274.out
          (first | subst eo197 | (injection eo197 with f1_ f2_ f3_; have f4_ := f1_.symm; have f5_ := f3_.symm; clear f1_ f2_ f3_; subst f4_; subst f5_))
          refine hK.out _ _ ⟨bc_ BK269 0, bc_ BK269 1⟩ (fun hHeld => ?_)
          clear hK K
          refine nm_ 12 ?_
          refine pz_ 5 13 (bA_ 8 63) HT_ ?_
          refine oz_ 6 5 (bA_ 8 127) HT_ (fun K hK => ?_)
          refine box_step ?hg (N := 5) ?hd (cs := #[.int .i64 0, .slice none 0 0]) (t := 28) ?hr ?_; (case hd => rfl); (case hg => rfl); (case hr => first | (go_simp; done) | (go_simp; rfl))
          intro gb275 hg w198 hbox hb
          have n0_ := am_ (Kd.N_below (Kd.N_elderB (Nx_ HO274.out) gb275 (Nat.le_of_eq hg.symm)) hb)
          have n1_ := am_ (bw_ BK269 hb)
          have n2_ := am_ (bw_ BK270 hb)
          have n3_ := am_ (bw_ BK271 hb)
          have n4_ := am_ (below_step (bb_ HB.out) hb)
          have n5_ := am_ (hbox)
          have n6_ := gs_ HB hg
          have n7_ := gs_ HB hg
          have n8_ := am_ (nl_ BK269 hg)
          have n9_ := am_ (ng_ BK269 hg)
          have n10_ := am_ (nl_ BK270 hg)
          have n11_ := am_ (ng_ BK270 hg)
          have n12_ := am_ (nl_ BK271 hg)
          have n13_ := am_ (ng_ BK271 hg)
          clear HO274 BK269 BK270 BK271 HB; revert n0_ n1_ n2_ n3_ n4_ n5_ n6_ n7_ n8_ n9_ n10_ n11_ n12_ n13_; intro HO274 BK269 BK270 BK271 HB BK275 GW275 GE275 NB269_275 NB275_269 NB270_275 NB275_270 NB271_275 NB275_271
          clear hb hbox hg
          refine hK.out _ _ ⟨bc_ BK269 0, bc_ BK269 1⟩ (fun hHeld => ?_)
          clear hK K
          refine nm_ 5 ?_
          exact norm_ (by simp only [putAll, Act.put, List.setIfInBounds_toArray, List.set_cons_zero, List.set_cons_succ]) (hCont (.slice Ao197 t272.length co197, gb275) _ ⟨hHeld, (Nx_ (Kd.N_mono HO274.out (fun _ hk => ⟨hk.1.1, ⟨hk.1.2.1, ⟨hk.1.2.2.1, ⟨hk.1.2.2.2, hk.2⟩⟩⟩⟩))), (bk_ BK269.out), (bk_ BK270.out), (bk_ BK271.out), (bk_ BK275.out), GW275.out, GE275.out, NB269_275.out, NB275_269.out, NB270_275.out, NB275_270.out, NB271_275.out, NB275_271.out, (bb_ HB.out)⟩)
         ·skip
          refine box_step ?hg (N := 5) ?hd (cs := #[.int .i64 0, .slice none 0 0]) (t := 28) ?hr ?_; (case hd => rfl); (case hg => rfl); (case hr => first | (go_simp; done) | (go_simp; rfl))
          intro gb275 hg w196 hbox hb
          have n0_ := am_ (bw_ BK269 hb)
          have n1_ := am_ (bw_ BK270 hb)
          have n2_ := am_ (bw_ BK271 hb)
          have n3_ := am_ (below_step (bb_ HB.out) hb)
          have n4_ := am_ (hbox)
          have n5_ := gs_ HB hg
          have n6_ := gs_ HB hg
          have n7_ := am_ (nl_ BK269 hg)
          have n8_ := am_ (ng_ BK269 hg)
          have n9_ := am_ (nl_ BK270 hg)
          have n10_ := am_ (ng_ BK270 hg)
          have n11_ := am_ (nl_ BK271 hg)
          have n12_ := am_ (ng_ BK271 hg)
          clear BK269 BK270 BK271 HB; revert n0_ n1_ n2_ n3_ n4_ n5_ n6_ n7_ n8_ n9_ n10_ n11_ n12_; intro BK269 BK270 BK271 HB BK275 GW275 GE275 NB269_275 NB275_269 NB270_275 NB275_270 NB271_275 NB275_271
          clear hb hbox hg
          refine hK.out _ _ ⟨bc_ BK269 0, bc_ BK269 1⟩ (fun hHeld => ?_)
          clear hK K
          refine nm_ 5 ?_
          refine oz_ 4 12 (bA_ 8 95) HT_ (fun K hK => ?_)
          refine goes_ Try.func40 (by kernel_rfl) rfl #[.slice A0_1 l0_1.length c0_1, .int .i64 (-1)] (by rfl) rfl rfl lm_ ?_
          with_reducible refine (spec_l04Copy.calls k _ _ l0_1 (-1) t272 _ ?side1 ?side2 A3.out).mono ?_
          (case side1 => exact cb_ HR0_1 HB)
          (case side2 => exact HC0_1.out)
          rintro e w197 ⟨v273, rfl, ho0, hb⟩
          refine ⟨_, rfl, ?_⟩
          have n0_ := am_ (Kd.N_lower (Kd.N_mono (ok' := fun k_ => (w.heap.size ≤ k_) ∧ k_ ≠ gb269 ∧ k_ ≠ gb270 ∧ k_ ≠ gb271 ∧ k_ ≠ gb275) (Kd.S_N (Kd.S_bound ho0)) (fun k_ hk_ => ⟨(Nat.le_trans (below_size (bb_ HB.out)) hk_.2.1), (Kd.freshB (g := gb269) (o := .cells #[.int .i64 a0_0, .slice A0_1 l0_1.length c0_1] 28 (0, 0)) (bk_ BK269.out) k_ hk_.2.1), (Kd.freshB (g := gb270) (o := .cells #[.int .i64 a1_0, .int .i64 a1_1, .int .i64 a1_2, .slice A1_3 l1_3.length c1_3] 44 (0, 0)) (bk_ BK270.out) k_ hk_.2.1), (Kd.freshB (g := gb271) (o := .cells #[.int .i64 0, .slice none 0 0] 28 (0, 0)) (bk_ BK271.out) k_ hk_.2.1), (Kd.freshB (g := gb275) (o := .cells #[.int .i64 0, .slice none 0 0] 28 (0, 0)) (bk_ BK275.out) k_ hk_.2.1)⟩)) (below_size (bb_ HB.out)))
          have n1_ := am_ (bw_ BK269 hb)
          have n2_ := am_ (bw_ BK270 hb)
          have n3_ := am_ (bw_ BK271 hb)
          have n4_ := am_ (bw_ BK275 hb)
          have n5_ := am_ (below_step (bb_ HB.out) hb)
          clear BK269 BK270 BK271 BK275 HB; revert n0_ n1_ n2_ n3_ n4_ n5_; intro HO274 BK269 BK270 BK271 BK275 HB
          (try clear hb)
          (try clear hb2)
          (try clear hk)
          (try clear hi)
          (try clear ho0)
          obtain ⟨Ao198, co198, eo198⟩ := Kd.N_slice HO274.out
          (first | subst eo198 | (injection eo198 with f1_ f2_ f3_; have f4_ := f1_.symm; have f5_ := f3_.symm; clear f1_ f2_ f3_; subst f4_; subst f5_))
          refine hK.out _ _ ⟨bc_ BK269 0, bc_ BK269 1⟩ (fun hHeld => ?_)
          clear hK K
          refine nm_ 12 ?_
          refine pz_ 5 13 (bA_ 8 127) HT_ ?_
          exact norm_ (by simp only [putAll, Act.put, List.setIfInBounds_toArray, List.set_cons_zero, List.set_cons_succ]) (hCont (.slice Ao198 t272.length co198, gb275) _ ⟨hHeld, (Nx_ HO274.out), (bk_ BK269.out), (bk_ BK270.out), (bk_ BK271.out), (bk_ BK275.out), GW275.out, GE275.out, NB269_275.out, NB275_269.out, NB270_275.out, NB275_270.out, NB271_275.out, NB275_271.out, (bb_ HB.out)⟩)
        rintro ⟨v273, gb275⟩ w199 ⟨hS_, h0_, h1_, h2_, h3_, h4_, h5_, h6_, h7_, h8_, h9_, h10_, h11_, h12_, h13_⟩
        have n0_ : Aside0 (Kd.N (Kd.slice 2 (Kd.int .i64)) 39 w199 w.heap.size (fun k_ => (w.heap.size ≤ k_) ∧ k_ ≠ gb269 ∧ k_ ≠ gb270 ∧ k_ ≠ gb271 ∧ k_ ≠ gb275) v273 t272) := ⟨h0_⟩
        have n1_ : Aside0 (w199.heap[gb269]? = some (.cells #[.int .i64 a0_0, .slice A0_1 l0_1.length c0_1] 28 (0, 0))) := ⟨h1_⟩
        have n2_ : Aside0 (w199.heap[gb270]? = some (.cells #[.int .i64 a1_0, .int .i64 a1_1, .int .i64 a1_2, .slice A1_3 l1_3.length c1_3] 44 (0, 0))) := ⟨h2_⟩
        have n3_ : Aside0 (w199.heap[gb271]? = some (.cells #[.int .i64 0, .slice none 0 0] 28 (0, 0))) := ⟨h3_⟩
        have n4_ : Aside0 (w199.heap[gb275]? = some (.cells #[.int .i64 0, .slice none 0 0] 28 (0, 0))) := ⟨h4_⟩
        have n5_ : Aside0 (w.heap.size ≤ gb275) := ⟨h5_⟩
        have n6_ : Aside0 (w.heap.size ≤ gb275) := ⟨h6_⟩
        have n7_ : Aside0 (gb269 ≠ gb275) := ⟨h7_⟩
        have n8_ : Aside0 (gb275 ≠ gb269) := ⟨h8_⟩
        have n9_ : Aside0 (gb270 ≠ gb275) := ⟨h9_⟩
        have n10_ : Aside0 (gb275 ≠ gb270) := ⟨h10_⟩
        have n11_ : Aside0 (gb271 ≠ gb275) := ⟨h11_⟩
        have n12_ : Aside0 (gb275 ≠ gb271) := ⟨h12_⟩
        have n13_ : Aside0 (Below w.heap.size w w199) := ⟨h13_⟩
        clear BK269
        clear BK270
        clear BK271
        clear HB
        clear h0_ h1_ h2_ h3_ h4_ h5_ h6_ h7_ h8_ h9_ h10_ h11_ h12_ h13_
        have HO274 := n0_
        have BK269 := n1_
        have BK270 := n2_
        have BK271 := n3_
        have BK275 := n4_
        have GW275 := n5_
        have GE275 := n6_
        have NB269_275 := n7_
        have NB275_269 := n8_
        have NB270_275 := n9_
        have NB275_270 := n10_
        have NB271_275 := n11_
        have NB275_271 := n12_
        have HB := n13_
        clear n0_ n1_ n2_ n3_ n4_ n5_ n6_ n7_ n8_ n9_ n10_ n11_ n12_ n13_
        have hHeld : w199.cell? ⟨gb269, 0, none⟩ = some (.int .i64 a0_0) ∧ w199.cell? ⟨gb269, 1, none⟩ = some (.slice A0_1 l0_1.length c0_1) := hS_
        obtain ⟨Ao200, co200, eo200⟩ := Kd.N_slice HO274.out
        (first | subst eo200 | (injection eo200 with f1_ f2_ f3_; have f4_ := f1_.symm; have f5_ := f3_.symm; clear f1_ f2_ f3_; subst f4_; subst f5_))
        refine norm_ (a' := ?_) ?_ ?_
        rotate_left
        ·simp only [putAll, Act.put, List.setIfInBounds_toArray, List.set_cons_zero, List.set_cons_succ]
         rfl
        refine one_ (i := 7) (N := none) (bA_ 8 255) rfl rfl (one_of HT_.out (by kernel_rfl)) (by decide) (fun K hK => ?_)
        have hs201 : w199.cell? ⟨gb275, 0, none⟩ = some (.int .i64 0) := bc_ BK275 0
        have hfs201 := blk_frozen BK275.out 0
        have hns201_0 := NB269_275.out
        have hns201_1 := NB270_275.out
        have hns201_2 := NB271_275.out
        have hms201_0 := NB275_269.out
        have hms201_1 := NB275_270.out
        have hms201_2 := NB275_271.out
        have hs202 : w199.cell? ⟨gb275, 1, none⟩ = some (.slice none 0 0) := bc_ BK275 1
        have hfs202 := blk_frozen BK275.out 1
        have hns202_0 := NB269_275.out
        have hns202_1 := NB270_275.out
        have hns202_2 := NB271_275.out
        have hms202_0 := NB275_269.out
        have hms202_1 := NB275_270.out
        have hms202_2 := NB275_271.out
        refine skip_ (w1 := ?_) (by rfl) rfl ?_ ?_
        rotate_left
        ·go_simp
         rfl
        refine hK.out _ _ ⟨((cell_far (p := ⟨gb275, _, none⟩) NB269_275.out _).trans (((cell_far (p := ⟨gb275, _, none⟩) NB269_275.out _).trans (hHeld.1)))), ((cell_far (p := ⟨gb275, _, none⟩) NB269_275.out _).trans (((cell_far (p := ⟨gb275, _, none⟩) NB269_275.out _).trans (hHeld.2))))⟩ (fun hHeld => ?_)
        clear hK K
        refine done_ (done_of HT_.out (by kernel_rfl)) ?_
        have hnb203 := NB270_269.out
        have hnc203 := NB269_270.out
        have hnb204 := NB270_271.out
        have hnc204 := NB271_270.out
        have hnb205 := NB270_275.out
        have hnc205 := NB275_270.out
        obtain ⟨hcz206_0, hcz206_1, hcz206_2, hcz206_3, hfz206_0, hfz206_1, hfz206_2, hfz206_3⟩ := bx4_ BK270
        have hnb207 := NB269_271.out
        have hnc207 := NB271_269.out
        have hnb208 := NB269_275.out
        have hnc208 := NB275_269.out
        obtain ⟨hcz209_0, hcz209_1, hfz209_0, hfz209_1⟩ := bx2_ BK269
        try go_wp2
        have n0_ : Aside0 (Kd.N (Kd.slice 2 (Kd.int .i64)) 39 ((w199.setCell ⟨gb275, 0, none⟩ (.int .i64 a0_0)).setCell ⟨gb275, 1, none⟩ (.slice Ao200 t272.length co200)) w.heap.size (fun k_ => (w.heap.size ≤ k_) ∧ k_ ≠ gb269 ∧ k_ ≠ gb270 ∧ k_ ≠ gb271 ∧ k_ ≠ gb275) (.slice Ao200 t272.length co200) t272) := ⟨Nx_ (Kd.N_mono (Kd.N_far (p := ⟨gb275, 1, none⟩) (Kd.N_far (p := ⟨gb275, 0, none⟩) (Kd.N_mono HO274.out (fun k_ hk => (⟨hk, hk.2.2.2.2⟩ : _ ∧ k_ ≠ gb275))) (fun _ hk => hk.2) (.int .i64 a0_0)) (fun _ hk => hk.2) (.slice Ao200 t272.length co200)) (fun _ hk => ⟨hk.1.1, ⟨hk.1.2.1, ⟨hk.1.2.2.1, ⟨hk.1.2.2.2.1, hk.1.2.2.2.2⟩⟩⟩⟩))⟩
        have n1_ : Aside0 (((w199.setCell ⟨gb275, 0, none⟩ (.int .i64 a0_0)).setCell ⟨gb275, 1, none⟩ (.slice Ao200 t272.length co200)).heap[gb269]? = some (.cells #[.int .i64 a0_0, .slice A0_1 l0_1.length c0_1] 28 (0, 0))) := ⟨bk_ BK269.out⟩
        have n2_ : Aside0 (((w199.setCell ⟨gb275, 0, none⟩ (.int .i64 a0_0)).setCell ⟨gb275, 1, none⟩ (.slice Ao200 t272.length co200)).heap[gb270]? = some (.cells #[.int .i64 a1_0, .int .i64 a1_1, .int .i64 a1_2, .slice A1_3 l1_3.length c1_3] 44 (0, 0))) := ⟨bk_ BK270.out⟩
        have n3_ : Aside0 (((w199.setCell ⟨gb275, 0, none⟩ (.int .i64 a0_0)).setCell ⟨gb275, 1, none⟩ (.slice Ao200 t272.length co200)).heap[gb271]? = some (.cells #[.int .i64 0, .slice none 0 0] 28 (0, 0))) := ⟨bk_ BK271.out⟩
        have n4_ : Aside0 (((w199.setCell ⟨gb275, 0, none⟩ (.int .i64 a0_0)).setCell ⟨gb275, 1, none⟩ (.slice Ao200 t272.length co200)).heap[gb275]? = some (.cells #[.int .i64 a0_0, .slice Ao200 t272.length co200] 28 (0, 0))) := ⟨pu2_ BK275⟩
        have n5_ : Aside0 (Below w.heap.size w ((w199.setCell ⟨gb275, 0, none⟩ (.int .i64 a0_0)).setCell ⟨gb275, 1, none⟩ (.slice Ao200 t272.length co200))) := ⟨bb_ HB.out⟩
        (try clear HO274)
        (try clear BK269)
        (try clear BK270)
        (try clear BK271)
        (try clear BK275)
        (try clear HB)
        generalize ((w199.setCell ⟨gb275, 0, none⟩ (.int .i64 a0_0)).setCell ⟨gb275, 1, none⟩ (.slice Ao200 t272.length co200)) = w210 at n0_ n1_ n2_ n3_ n4_ n5_ ⊢
        have HO274 := n0_
        have BK269 := n1_
        have BK270 := n2_
        have BK271 := n3_
        have BK275 := n4_
        have HB := n5_
        clear n0_ n1_ n2_ n3_ n4_ n5_
        have n0_ := am_ (Kd.N_drew HO274.out)
        have n1_ := am_ (blk_drew BK269.out)
        have n2_ := am_ (blk_drew BK270.out)
        have n3_ := am_ (blk_drew BK271.out)
        have n4_ := am_ (blk_drew BK275.out)
        have n5_ := am_ (below_drew1 HB.out)
        clear HO274 BK269 BK270 BK271 BK275 HB; revert n0_ n1_ n2_ n3_ n4_ n5_; intro HO274 BK269 BK270 BK271 BK275 HB
        refine start_ (n := 13) (S := fun w' => w'.cell? ⟨gb275, 0, none⟩ = some (.int .i64 a0_0) ∧ w'.cell? ⟨gb275, 1, none⟩ = some (.slice Ao200 t272.length co200) ∧ w'.cell? ⟨gb270, 0, none⟩ = some (.int .i64 a1_0) ∧ w'.cell? ⟨gb270, 1, none⟩ = some (.int .i64 a1_1) ∧ w'.cell? ⟨gb270, 2, none⟩ = some (.int .i64 a1_2) ∧ w'.cell? ⟨gb270, 3, none⟩ = some (.slice A1_3 l1_3.length c1_3)) (ds := []) (bA_ 13 0) (by kernel_rfl) rfl (by kernel_rfl) ⟨bc_ BK275 0, bc_ BK275 1, bc_ BK270 0, bc_ BK270 1, bc_ BK270 2, bc_ BK270 3⟩ (fun hHeld => ?_); refine with_tabW spec_l04Move.tab4 spec_l04Move.bits4 (fun HT_ HW_ => ?_)
        generalize w210.drew = w211 at HO274 BK269 BK270 BK271 BK275 HB hHeld ⊢
        refine pz_ 0 19 (bA_ 13 1) HT_ ?_
        refine pz_ 1 20 (bA_ 13 3) HT_ ?_
        refine pz_ 3 22 (bA_ 13 11) HT_ ?_
        refine pz_ 4 23 (bA_ 13 27) HT_ ?_
        refine pz_ 6 25 (bA_ 13 91) HT_ ?_
        refine tz_ 2 21 (bA_ 13 95) HT_ HW_ hHeld ?_
        refine tz_ 7 26 (bA_ 13 223) HT_ HW_ hHeld ?_
        refine oz_ 5 24 (bA_ 13 255) HT_ (fun K hK => ?_)
        refine Kd.R_lit_step (Kd.int .i64) _ 2 ?hg (N := 24) ?hd (xs := ([wrap64 (-(wrap64 (a0_0 + 1)))] : List Int)) (inner := [.int .i64 (wrap64 (-(wrap64 (a0_0 + 1))))]) (ok := fun _ => True) (okp := fun _ => True) ?hr ?hp (fun _ hk => hk) trivial (Below.refl _ _) (Nat.le_refl _) (by simp) ?_; (case hd => rfl); (case hg => rfl); (case hr => first | (go_simp; done) | (go_simp; rfl)); (case hp => exact (Reps.one (show Kd.M (Kd.int .i64) _ _ _ (wrap64 (-(wrap64 (a0_0 + 1)))) [.int .i64 (wrap64 (-(wrap64 (a0_0 + 1))))] from rfl) (Reps.none _ _)))
        intro v323 w212 ho213 hb hg_ hnew_
        clear hg_ hnew_
        (first | rw [← Ny322.out] at ho213 | (simp only [Int.reduceToNat] at ho213; rw [← Ny322.out] at ho213))
        have n0_ := am_ (Kd.N_elder' (Nx_ HO274.out) (Kd.R_base ho213) hb)
        have n1_ := am_ (Kd.R_lower (Kd.R_newM (M := fun k_ => (w.heap.size ≤ k_)) ho213 (below_size (bb_ HB.out)) (fun k_ h_ => h_)) (below_size (bb_ HB.out)))
        have n2_ := am_ (bw_ BK269 hb)
        have n3_ := am_ (bw_ BK270 hb)
        have n4_ := am_ (bw_ BK271 hb)
        have n5_ := am_ (bw_ BK275 hb)
        have n6_ := am_ (below_step (bb_ HB.out) hb)
        clear HO274 BK269 BK270 BK271 BK275 HB; revert n0_ n1_ n2_ n3_ n4_ n5_ n6_; intro HO274 HO324 BK269 BK270 BK271 BK275 HB
        clear hb ho213
        refine hK.out _ _ ⟨bc_ BK275 0, bc_ BK275 1, bc_ BK270 0, bc_ BK270 1, bc_ BK270 2, bc_ BK270 3⟩ (fun hHeld => ?_)
        clear hK K
        refine nm_ 24 ?_
        refine oz_ 8 27 (bA_ 13 511) HT_ (fun K hK => ?_)
        refine Kd.R_append_rows_step (Kd.int .i64) (w0 := w) w.heap.size (by rfl) (.tmp 24) (.tmp 26) 39 2 (.int .i64 0) 8 rfl Try.underlying39 info2 rfl (by decide) (by omega) v323 y322 l1_3 _ _ _ (fun k_ => (w.heap.size ≤ k_)) (fun _ => False) rfl rfl ?aO ?aR (fun _ _ h => h) (fun _ h => h.elim) ?aF ?aB ?aS ?aL ?_
        (case aR => exact cb_ HR1_3 HB)
        (case aB => exact (bb_ HB.out))
        (case aF => exact (fun k_ hk => (Nat.le_trans (below_size (bb_ HB.out)) hk)))
        (case aO => exact (rm_ HO324.out (fun _ hk => hk.1)))
        (case aS => exact (below_size (bb_ HB.out)))
        (case aL => have := LMc190.out; omega)
        intro v326 w214 ho hb hg hat
        rw [← Ny325.out] at ho
        have n0_ := am_ (blk_grown (g := gb269) (o := .cells #[.int .i64 a0_0, .slice A0_1 l0_1.length c0_1] 28 (0, 0)) (bk_ BK269.out) hg (Kd.R_ne HO324.out BK269.out (by decide)))
        have n1_ := am_ (blk_grown (g := gb270) (o := .cells #[.int .i64 a1_0, .int .i64 a1_1, .int .i64 a1_2, .slice A1_3 l1_3.length c1_3] 44 (0, 0)) (bk_ BK270.out) hg (Kd.R_ne HO324.out BK270.out (by decide)))
        have n2_ := am_ (blk_grown (g := gb271) (o := .cells #[.int .i64 0, .slice none 0 0] 28 (0, 0)) (bk_ BK271.out) hg (Kd.R_ne HO324.out BK271.out (by decide)))
        have n3_ := am_ (Kd.N_afterv (ok := (fun k_ => (w.heap.size ≤ k_) ∧ k_ ≠ gb269 ∧ k_ ≠ gb270 ∧ k_ ≠ gb271 ∧ k_ ≠ gb275)) (Nx_ HO274.out) hg hat)
        have n4_ := am_ (blk_grown (g := gb275) (o := .cells #[.int .i64 a0_0, .slice Ao200 t272.length co200] 28 (0, 0)) (bk_ BK275.out) hg (Kd.R_ne HO324.out BK275.out (by decide)))
        have n5_ := am_ (hb)
        have n6_ := am_ (ho)
        clear BK269 BK270 BK271 HO274 BK275 HB HO324; revert n0_ n1_ n2_ n3_ n4_ n5_ n6_; intro BK269 BK270 BK271 HO274 BK275 HB HO327
        clear ho hb hg hat
        obtain ⟨Ao215, co215, eo215⟩ := Kd.R_slice HO327.out
        (first | subst eo215 | (injection eo215 with f1_ f2_ f3_; have f4_ := f1_.symm; have f5_ := f3_.symm; clear f1_ f2_ f3_; subst f4_; subst f5_))
        refine hK.out _ _ ⟨bc_ BK275 0, bc_ BK275 1, bc_ BK270 0, bc_ BK270 1, bc_ BK270 2, bc_ BK270 3⟩ (fun hHeld => ?_)
        clear hK K
        refine nm_ 27 ?_
        refine oz_ 9 28 (bA_ 13 1023) HT_ (fun K hK => ?_)
        refine Kd.N_lit_step (Kd.slice 2 (Kd.int .i64)) _ 39 ?hg (N' := 28) ?hd (xs := ([y325] : List (List Int))) (inner := [.slice Ao215 y325.length co215]) (ok := (fun k_ => (w.heap.size ≤ k_) ∧ some k_ ≠ (.slice Ao200 t272.length co200 : Value).ownBlock ∧ k_ ≠ gb269 ∧ k_ ≠ gb270 ∧ k_ ≠ gb271 ∧ k_ ≠ gb275)) (okp := (fun k_ => (w.heap.size ≤ k_) ∧ some k_ ≠ (.slice Ao200 t272.length co200 : Value).ownBlock ∧ k_ ≠ gb269 ∧ k_ ≠ gb270 ∧ k_ ≠ gb271 ∧ k_ ≠ gb275)) ?hr ?hp (fun _ hk => hk) ((show ∀ k_, w214.heap.size ≤ k_ → (fun k_ => (w.heap.size ≤ k_) ∧ some k_ ≠ (.slice Ao200 t272.length co200 : Value).ownBlock ∧ k_ ≠ gb269 ∧ k_ ≠ gb270 ∧ k_ ≠ gb271 ∧ k_ ≠ gb275) k_ from fun k_ hk => ⟨(Nat.le_trans (below_size (bb_ HB.out)) hk), Kd.fresh' (Kd.N_lt (Nx_ HO274.out)) k_ hk, Kd.freshB (g := gb269) (o := .cells #[.int .i64 a0_0, .slice A0_1 l0_1.length c0_1] 28 (0, 0)) (bk_ BK269.out) k_ hk, Kd.freshB (g := gb270) (o := .cells #[.int .i64 a1_0, .int .i64 a1_1, .int .i64 a1_2, .slice A1_3 l1_3.length c1_3] 44 (0, 0)) (bk_ BK270.out) k_ hk, Kd.freshB (g := gb271) (o := .cells #[.int .i64 0, .slice none 0 0] 28 (0, 0)) (bk_ BK271.out) k_ hk, Kd.freshB (g := gb275) (o := .cells #[.int .i64 a0_0, .slice Ao200 t272.length co200] 28 (0, 0)) (bk_ BK275.out) k_ hk⟩) _ (Nat.le_refl _)) (Below.refl _ _) (Nat.le_refl _) (by simp) ?_; (case hd => rfl); (case hg => rfl); (case hr => first | (go_simp; done) | (go_simp; rfl)); (case hp => exact (Reps.one (show Kd.FK (Kd.slice 2 (Kd.int .i64)) _ _ y325 [.slice Ao215 y325.length co215] from (Kd.FK_slice_mk (Kd.R_reads' (Kd.R_mono (ok' := (fun k_ => (w.heap.size ≤ k_) ∧ some k_ ≠ (.slice Ao200 t272.length co200 : Value).ownBlock ∧ k_ ≠ gb269 ∧ k_ ≠ gb270 ∧ k_ ≠ gb271 ∧ k_ ≠ gb275)) (Kd.R_types (Kd.R_types (Kd.R_types (Kd.R_types (Kd.R_apart' (HO327.out) (Kd.N_typed HO274.out) (by decide)) BK269.out (by decide)) BK270.out (by decide)) BK271.out (by decide)) BK275.out (by decide)) (fun k_ hk => ⟨hk.1.1.1.1.1, ⟨hk.1.1.1.1.2, ⟨hk.1.1.1.2, ⟨hk.1.1.2, ⟨hk.1.2, hk.2⟩⟩⟩⟩⟩))).2.1 (Kd.R_F (Kd.R_mono (ok' := (fun k_ => (w.heap.size ≤ k_) ∧ some k_ ≠ (.slice Ao200 t272.length co200 : Value).ownBlock ∧ k_ ≠ gb269 ∧ k_ ≠ gb270 ∧ k_ ≠ gb271 ∧ k_ ≠ gb275)) (Kd.R_types (Kd.R_types (Kd.R_types (Kd.R_types (Kd.R_apart' (HO327.out) (Kd.N_typed HO274.out) (by decide)) BK269.out (by decide)) BK270.out (by decide)) BK271.out (by decide)) BK275.out (by decide)) (fun k_ hk => ⟨hk.1.1.1.1.1, ⟨hk.1.1.1.1.2, ⟨hk.1.1.1.2, ⟨hk.1.1.2, ⟨hk.1.2, hk.2⟩⟩⟩⟩⟩))))) (Reps.none _ _)))
        intro v329 w216 ho217 hb hg_ hnew_
        clear hg_ hnew_
        (first | rw [← Ny328.out] at ho217 | (simp only [Int.reduceToNat] at ho217; rw [← Ny328.out] at ho217))
        have n0_ := am_ (Kd.N_elder' (Nx_ HO274.out) (Kd.N_base ho217) hb)
        have n1_ := am_ (Kd.N_lower ho217 (below_size (bb_ HB.out)))
        have n2_ := am_ (bw_ BK269 hb)
        have n3_ := am_ (bw_ BK270 hb)
        have n4_ := am_ (bw_ BK271 hb)
        have n5_ := am_ (bw_ BK275 hb)
        have n6_ := am_ (below_step (bb_ HB.out) hb)
        clear HO274 BK269 BK270 BK271 BK275 HB HO327; revert n0_ n1_ n2_ n3_ n4_ n5_ n6_; intro HO274 HO330 BK269 BK270 BK271 BK275 HB
        clear hb ho217
        obtain ⟨Ao219, co219, eo219⟩ := Kd.N_slice HO330.out
        (first | subst eo219 | (injection eo219 with f1_ f2_ f3_; have f4_ := f1_.symm; have f5_ := f3_.symm; clear f1_ f2_ f3_; subst f4_; subst f5_))
        refine hK.out _ _ ⟨bc_ BK275 0, bc_ BK275 1, bc_ BK270 0, bc_ BK270 1, bc_ BK270 2, bc_ BK270 3⟩ (fun hHeld => ?_)
        clear hK K
        refine nm_ 28 ?_
        refine oz_ 10 29 (bA_ 13 2047) HT_ (fun K hK => ?_)
        refine Kd.N_append_rows_step (Kd.slice 2 (Kd.int .i64)) (w0 := w) w.heap.size (by rfl) (.tmp 21) (.tmp 28) 22 39 (.slice none 0 0) 24 rfl Try.underlying22 info39 rfl (by decide) (by omega) (.slice Ao200 t272.length co200) t272 y328 _ _ _ (fun k_ => (w.heap.size ≤ k_) ∧ k_ ≠ gb269 ∧ k_ ≠ gb270 ∧ k_ ≠ gb271 ∧ k_ ≠ gb275) (fun k_ => ((fun k_ => (w.heap.size ≤ k_) ∧ k_ ≠ gb269 ∧ k_ ≠ gb270 ∧ k_ ≠ gb271 ∧ k_ ≠ gb275)) k_ ∧ some k_ ≠ (.slice Ao200 t272.length co200 : Value).ownBlock) rfl rfl ?aO ?aR (fun _ hk => hk) ?aF ?aB ?aS ?aL ?_
        (case aR => exact (by skip; exact Kd.N_F (Kd.N_mono (ok' := (fun k_ => ((fun k_ => (w.heap.size ≤ k_) ∧ k_ ≠ gb269 ∧ k_ ≠ gb270 ∧ k_ ≠ gb271 ∧ k_ ≠ gb275)) k_ ∧ some k_ ≠ (.slice Ao200 t272.length co200 : Value).ownBlock)) (HO330.out) (fun k_ hk => ⟨⟨hk.1, ⟨hk.2.2.1, ⟨hk.2.2.2.1, ⟨hk.2.2.2.2.1, hk.2.2.2.2.2⟩⟩⟩⟩, hk.2.1⟩))))
        (case aB => exact (bb_ HB.out))
        (case aF => exact (fun k_ hk => ⟨(Nat.le_trans (below_size (bb_ HB.out)) hk), Kd.freshB (g := gb269) (o := .cells #[.int .i64 a0_0, .slice A0_1 l0_1.length c0_1] 28 (0, 0)) (bk_ BK269.out) k_ hk, Kd.freshB (g := gb270) (o := .cells #[.int .i64 a1_0, .int .i64 a1_1, .int .i64 a1_2, .slice A1_3 l1_3.length c1_3] 44 (0, 0)) (bk_ BK270.out) k_ hk, Kd.freshB (g := gb271) (o := .cells #[.int .i64 0, .slice none 0 0] 28 (0, 0)) (bk_ BK271.out) k_ hk, Kd.freshB (g := gb275) (o := .cells #[.int .i64 a0_0, .slice Ao200 t272.length co200] 28 (0, 0)) (bk_ BK275.out) k_ hk⟩))
        (case aO => exact (Nx_ (Kd.N_mono HO274.out (fun _ hk => ⟨hk.1.1.1, ⟨hk.1.1.2.1, ⟨hk.1.1.2.2.1, ⟨hk.1.1.2.2.2.1, hk.1.1.2.2.2.2⟩⟩⟩⟩))))
        (case aS => exact (below_size (bb_ HB.out)))
        (case aL => have := LMc191.out; omega)
        intro v332 w218 ho hb hg hat
        rw [← Ny331.out] at ho
        have n0_ := am_ (blk_grown (g := gb269) (o := .cells #[.int .i64 a0_0, .slice A0_1 l0_1.length c0_1] 28 (0, 0)) (bk_ BK269.out) hg (Kd.N_ne HO274.out BK269.out (by decide)))
        have n1_ := am_ (blk_grown (g := gb270) (o := .cells #[.int .i64 a1_0, .int .i64 a1_1, .int .i64 a1_2, .slice A1_3 l1_3.length c1_3] 44 (0, 0)) (bk_ BK270.out) hg (Kd.N_ne HO274.out BK270.out (by decide)))
        have n2_ := am_ (blk_grown (g := gb271) (o := .cells #[.int .i64 0, .slice none 0 0] 28 (0, 0)) (bk_ BK271.out) hg (Kd.N_ne HO274.out BK271.out (by decide)))
        have n3_ := am_ (blk_grown (g := gb275) (o := .cells #[.int .i64 a0_0, .slice Ao200 t272.length co200] 28 (0, 0)) (bk_ BK275.out) hg (Kd.N_ne HO274.out BK275.out (by decide)))
        have n4_ := am_ (Kd.N_afterv (ok := (fun k_ => (w.heap.size ≤ k_) ∧ k_ ≠ gb269 ∧ k_ ≠ gb270 ∧ k_ ≠ gb271 ∧ k_ ≠ gb275)) (Nx_ (Kd.N_mono HO330.out (fun _ hk => ⟨⟨hk.1, ⟨hk.2.2.1, ⟨hk.2.2.2.1, ⟨hk.2.2.2.2.1, hk.2.2.2.2.2⟩⟩⟩⟩, hk.2.1⟩))) hg hat)
        have n5_ := am_ (hb)
        have n6_ := am_ (ho)
        clear BK269 BK270 BK271 BK275 HO330 HB HO274; revert n0_ n1_ n2_ n3_ n4_ n5_ n6_; intro BK269 BK270 BK271 BK275 HO330 HB HO333
        clear ho hb hg hat
        obtain ⟨Ao220, co220, eo220⟩ := Kd.N_slice HO333.out
        (first | subst eo220 | (injection eo220 with f1_ f2_ f3_; have f4_ := f1_.symm; have f5_ := f3_.symm; clear f1_ f2_ f3_; subst f4_; subst f5_))
        refine hK.out _ _ ⟨bc_ BK275 0, bc_ BK275 1, bc_ BK270 0, bc_ BK270 1, bc_ BK270 2, bc_ BK270 3⟩ (fun hHeld => ?_)
        clear hK K
        refine nm_ 29 ?_
        refine pz_ 11 30 (bA_ 13 4095) HT_ ?_
        refine one_ (i := 12) (N := none) (bA_ 13 8191) rfl rfl (one_of HT_.out (by kernel_rfl)) (by decide) (fun K hK => ?_)
        have hs221 : w218.cell? ⟨gb271, 0, none⟩ = some (.int .i64 0) := bc_ BK271 0
        have hfs221 := blk_frozen BK271.out 0
        have hns221_0 := NB269_271.out
        have hns221_1 := NB270_271.out
        have hns221_3 := NB275_271.out
        have hms221_0 := NB271_269.out
        have hms221_1 := NB271_270.out
        have hms221_3 := NB271_275.out
        have hs222 : w218.cell? ⟨gb271, 1, none⟩ = some (.slice none 0 0) := bc_ BK271 1
        have hfs222 := blk_frozen BK271.out 1
        have hns222_0 := NB269_271.out
        have hns222_1 := NB270_271.out
        have hns222_3 := NB275_271.out
        have hms222_0 := NB271_269.out
        have hms222_1 := NB271_270.out
        have hms222_3 := NB271_275.out
        refine skip_ (w1 := ?_) (by rfl) rfl ?_ ?_
        rotate_left
        ·go_simp
         rfl
        refine hK.out _ _ ⟨((cell_far (p := ⟨gb271, _, none⟩) NB275_271.out _).trans (((cell_far (p := ⟨gb271, _, none⟩) NB275_271.out _).trans (hHeld.1)))), ((cell_far (p := ⟨gb271, _, none⟩) NB275_271.out _).trans (((cell_far (p := ⟨gb271, _, none⟩) NB275_271.out _).trans (hHeld.2.1)))), ((cell_far (p := ⟨gb271, _, none⟩) NB270_271.out _).trans (((cell_far (p := ⟨gb271, _, none⟩) NB270_271.out _).trans (hHeld.2.2.1)))), ((cell_far (p := ⟨gb271, _, none⟩) NB270_271.out _).trans (((cell_far (p := ⟨gb271, _, none⟩) NB270_271.out _).trans (hHeld.2.2.2.1)))), ((cell_far (p := ⟨gb271, _, none⟩) NB270_271.out _).trans (((cell_far (p := ⟨gb271, _, none⟩) NB270_271.out _).trans (hHeld.2.2.2.2.1)))), ((cell_far (p := ⟨gb271, _, none⟩) NB270_271.out _).trans (((cell_far (p := ⟨gb271, _, none⟩) NB270_271.out _).trans (hHeld.2.2.2.2.2))))⟩ (fun hHeld => ?_)
        clear hK K
        refine done_ (done_of HT_.out (by kernel_rfl)) ?_
        try go_wp2
        refine bodyPost_ret (results_cell_row rfl _ _ gb271 28 #[.int .i64 (wrap64 (a0_0 + 1)), .slice Ao220 y331.length co220] (0, 0) _ rfl (pu2_ BK271) Try.underlying28 rfl (by kernel_rfl)) rfl ?_
        exact ⟨_, er_, Nx_ (Kd.N_mono (Kd.N_far (p := ⟨gb271, 1, none⟩) (Kd.N_far (p := ⟨gb271, 0, none⟩) (Kd.N_mono HO333.out (fun k_ hk => (⟨hk, hk.2.2.2.1⟩ : _ ∧ k_ ≠ gb271))) (fun _ hk => hk.2) (.int .i64 (wrap64 (a0_0 + 1)))) (fun _ hk => hk.2) (.slice Ao220 y331.length co220)) (fun _ hk => hk.1.1)), bb_ HB.out⟩
       ·rw [if_neg c191] at H
        exact absurd H (by simp)
      ·rw [if_neg c190] at H
       exact absurd H (by simp)
/-! ### spec_l04Move: the parts -/
theorem spec_l04Move.calls (k : Nat) (a0_0 : Int) (A0_1 : Option Addr) (c0_1 : Nat) (l0_1 : List (List Int)) (a1_0 : Int) (a1_1 : Int) (a1_2 : Int) (A1_3 : Option Addr) (c1_3 : Nat) (l1_3 : List Int) (r1 : Int) (r2 : List (List Int)) (w : World) (hr0_1 : Kd.C (Kd.slice 2 (Kd.int .i64)) w A0_1 l0_1.length l0_1) (hc0_1 : l0_1.length ≤ c0_1) (hr1_3 : Kd.C (Kd.int .i64) w A1_3 l1_3.length l1_3) (hc1_3 : l1_3.length ≤ c1_3) (h : spec_l04Move.f k a0_0 l0_1 a1_0 a1_1 a1_2 l1_3 = some (r1, r2)) :
  Calls Try.prog 63 #[.agg #[.int .i64 a0_0, .slice A0_1 l0_1.length c0_1], .agg #[.int .i64 a1_0, .int .i64 a1_1, .int .i64 a1_2, .slice A1_3 l1_3.length c1_3]] w fun e w' => ∃ v1_ : Value, e = .returned (.agg #[.int .i64 r1, v1_]) ∧ Kd.N (Kd.slice 2 (Kd.int .i64)) 39 w' w.heap.size (fun k_ => (w.heap.size ≤ k_)) v1_ r2 ∧ Below w.heap.size w w' := by
 by_cases g0 : a1_0 = 2
 ·exact spec_l04Move.calls_0 k a0_0 A0_1 c0_1 l0_1 a1_0 a1_1 a1_2 A1_3 c1_3 l1_3 r1 r2 w hr0_1 hc0_1 hr1_3 hc1_3 h ⟨g0⟩
 by_cases g1 : a1_0 = 1 ∨ a1_0 = 3
 ·exact spec_l04Move.calls_1 k a0_0 A0_1 c0_1 l0_1 a1_0 a1_1 a1_2 A1_3 c1_3 l1_3 r1 r2 w hr0_1 hc0_1 hr1_3 hc1_3 h ⟨g1⟩
 exact spec_l04Move.calls_2 k a0_0 A0_1 c0_1 l0_1 a1_0 a1_1 a1_2 A1_3 c1_3 l1_3 r1 r2 w hr0_1 hc0_1 hr1_3 hc1_3 h ⟨by omega⟩

end Go.Proofs.Ytbcdngjajjgmkaa.PFnExactSimplifyPresentation
