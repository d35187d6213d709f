/- Written by this session's program out of the kit's print and this session's contracts. -/
import Derived.Test.YtbcdngjajjgmkaaVFnExactSimplifyPresentationPx0
import Derived.Test.YtbcdngjajjgmkaaVFnExactSimplifyPresentationPx4
import Derived.Test.YtbcdngjajjgmkaaVFnExactSimplifyPresentationPx5
import Derived.Test.YtbcdngjajjgmkaaVFnExactSimplifyPresentationPx6
namespace Go.Proofs.Ytbcdngjajjgmkaa.PFnExactSimplifyPresentation
open Go.RowKit Go.Proofs.YtbcdngjajjgmkaaW.PrintWords Go.Proofs.YtbcdngjajjgmkaaW.PrintLast Go.Proofs.YtbcdngjajjgmkaaW.PrintMore
set_option linter.unusedVariables false
set_option linter.unusedSimpArgs false

/-! ### spec_l04Move: part 1 -/
set_option maxHeartbeats 8000000 in
set_option maxRecDepth 100000 in
theorem spec_l04Move.calls_1 (k : Nat) (a0_0 : Int) (A0_1 : Option Addr) (c0_1 : Nat) (l0_1 : List (List Int)) (a1_0 : Int) (a1_1 : Int) (a1_2 : Int) (A1_3 : Option Addr) (c1_3 : Nat) (l1_3 : List Int) (r1 : Int) (r2 : List (List Int)) (w : World) (hr0_1 : Kd.C (Kd.slice 2 (Kd.int .i64)) w A0_1 l0_1.length l0_1) (hc0_1 : l0_1.length ≤ c0_1) (hr1_3 : Kd.C (Kd.int .i64) w A1_3 l1_3.length l1_3) (hc1_3 : l1_3.length ≤ c1_3) (h : spec_l04Move.f k a0_0 l0_1 a1_0 a1_1 a1_2 l1_3 = some (r1, r2)) (G_ : Aside0 (a1_0 = 1 ∨ a1_0 = 3)) :
  Calls Try.prog 63 #[.agg #[.int .i64 a0_0, .slice A0_1 l0_1.length c0_1], .agg #[.int .i64 a1_0, .int .i64 a1_1, .int .i64 a1_2, .slice A1_3 l1_3.length c1_3]] w fun e w' => ∃ v1_ : Value, e = .returned (.agg #[.int .i64 r1, v1_]) ∧ Kd.N (Kd.slice 2 (Kd.int .i64)) 39 w' w.heap.size (fun k_ => (w.heap.size ≤ k_)) v1_ r2 ∧ Below w.heap.size w w' := by
 have hu28 := Try.underlying28
 have hu44 := Try.underlying44
 have HR0_1 := am_ hr0_1
 have HC0_1 := am_ hc0_1
 clear hr0_1 hc0_1
 have HR1_3 := am_ hr1_3
 have HC1_3 := am_ hc1_3
 clear hr1_3 hc1_3
 have HB := am_ (Below.refl w.heap.size w)
 have H := h
 unfold spec_l04Move.f at H
 clear h
 replace H := Option.bind_eq_some_iff.mp H
 obtain ⟨t272, A30, H⟩ := H
 replace H : (if a1_0 = 1 then (if 0 ≤ a1_1 then (if a1_1 < (l0_1.length : Int) then ((spec_l04Inverse.f k (rd_L1 l0_1 a1_1)).bind fun t277 => (if a1_1 < (t272.length : Int) then (some (a0_0, (t272.set (a1_1 : Int).toNat t277))) else (none))) else (none)) else (none)) else (if a1_0 = 2 then (if 0 ≤ a1_1 then (if a1_1 < (l0_1.length : Int) then (if ((rd_L1 l0_1 a1_1).length : Int) > 0 then ((some (([] : List Int) : List Int)).bind fun y282 => (if 1 ≤ ((rd_L1 l0_1 a1_1).length : Int) then (if y282.length + ((rd_L1 l0_1 a1_1).drop 1).length < 17592186044416 then ((some (y282 ++ ((rd_L1 l0_1 a1_1).drop 1) : List Int)).bind fun y286 => (if 0 < ((rd_L1 l0_1 a1_1).length : Int) then ((some (([rd (rd_L1 l0_1 a1_1) 0] : List Int) : List Int)).bind fun y290 => (if y286.length + y290.length < 17592186044416 then ((spec_l04Reduce.f k (y286 ++ y290)).bind fun t296 => (if a1_1 < (t272.length : Int) then (some (a0_0, (t272.set (a1_1 : Int).toNat t296))) else (none))) else (none))) else (none))) else (none)) else (none))) else (some (a0_0, t272))) else (none)) else (none)) else (if a1_0 = 3 then ((some (([] : List Int) : List Int)).bind fun y300 => (if 0 ≤ a1_1 then (if a1_1 < (l0_1.length : Int) then (if y300.length + (rd_L1 l0_1 a1_1).length < 17592186044416 then ((some (y300 ++ (rd_L1 l0_1 a1_1) : List Int)).bind fun y304 => (if 0 ≤ a1_2 then (if a1_2 < (l0_1.length : Int) then (if y304.length + (rd_L1 l0_1 a1_2).length < 17592186044416 then ((spec_l04Reduce.f k (y304 ++ (rd_L1 l0_1 a1_2))).bind fun t311 => (if a1_1 < (t272.length : Int) then (some (a0_0, (t272.set (a1_1 : Int).toNat t311))) else (none))) else (none)) else (none)) else (none))) else (none)) else (none)) else (none))) else (if a1_0 = 4 then ((spec_l04Copy.f k l0_1 a1_1).bind fun t315 => (some (a0_0, t315))) else (if a1_0 = 5 then ((spec_l04Remove.f k a0_0 l0_1 a1_1 a1_2).bind fun bt318 => (some (bt318.1, bt318.2))) else ((some (([wrap64 (-(wrap64 (a0_0 + 1)))] : List Int) : List Int)).bind fun y322 => (if y322.length + l1_3.length < 17592186044416 then ((some (([(y322 ++ l1_3)] : List (List Int)) : List (List Int))).bind fun y328 => (if t272.length + y328.length < 5864062014805 then (some (wrap64 (a0_0 + 1), (t272 ++ y328))) else (none))) else (none)))))))) = some (r1, r2) := H
 have A3 := am_ A30
 clear A30
 by_cases c4 : a1_0 = 1
 ·rw [if_pos c4] at H
  have c4b0 : (a1_0 == 1) = true := beq_iff_eq.mpr c4
  have c4b1 : (a1_0 != 1) = false := bne_eq_false_iff_eq.mpr c4
  clear c4
  by_cases c5 : 0 ≤ a1_1
  ·rw [if_pos c5] at H
   have c5b0 : decide (0 ≤ a1_1) = true := decide_eq_true c5
   clear c5
   by_cases c6 : a1_1 < (l0_1.length : Int)
   ·rw [if_pos c6] at H
    have c6b0 : decide (a1_1 < (l0_1.length : Int)) = true := decide_eq_true c6
    clear c6
    replace H := Option.bind_eq_some_iff.mp H
    obtain ⟨t277, A70, H⟩ := H
    replace H : (if a1_1 < (t272.length : Int) then (some (a0_0, (t272.set (a1_1 : Int).toNat t277))) else (none)) = some (r1, r2) := H
    have A7 := am_ A70
    clear A70
    by_cases c8 : a1_1 < (t272.length : Int)
    ·rw [if_pos c8] at H
     have c8b0 : decide (a1_1 < (t272.length : Int)) = true := decide_eq_true c8
     clear c8
     obtain ⟨y280, hy280⟩ : ∃ y_ : List (List Int), y_ = (t272.set (a1_1 : Int).toNat t277) := ⟨_, rfl⟩
     replace H : (some (a0_0, y280)) = some (r1, r2) := hq_ hy280 H
     have Ny280 := am_ hy280
     clear hy280
     simp only [Option.some.injEq, Prod.mk.injEq] at H
     obtain ⟨rfl, rfl⟩ := H
     go_enter Try.func63, Try.ntmps63
     try go_wp2_with (first | (refine be_ 2 28 #[.int .i64 a0_0, .slice A0_1 l0_1.length c0_1] ?_; intro gb269 hg w10 hbox hb; have n_ := ba0_ HB hbox hb hg; clear  HB hb hbox hg; obtain ⟨HB, BK269, GW269, GE269⟩ := n_) | (refine be_ 3 44 #[.int .i64 a1_0, .int .i64 a1_1, .int .i64 a1_2, .slice A1_3 l1_3.length c1_3] ?_; intro gb270 hg w11 hbox hb; have n_ := ba1_ BK269 HB hbox hb hg; clear BK269 HB hb hbox hg; obtain ⟨BK269, HB, BK270, GW270, GE270, NB269_270, NB270_269⟩ := n_) | (refine be_ 4 28 #[.int .i64 0, .slice none 0 0] ?_; intro gb271 hg w12 hbox hb; have n_ := ba2_ BK269 BK270 HB hbox hb hg; clear BK269 BK270 HB hb hbox hg; obtain ⟨BK269, BK270, HB, BK271, GW271, GE271, NB269_271, NB271_269, NB270_271, NB271_270⟩ := n_))
     have n0_ := am_ (blk_drew BK269.out)
     have n1_ := am_ (blk_drew BK270.out)
     have n2_ := am_ (blk_drew BK271.out)
     have n3_ := am_ (below_drew1 HB.out)
     clear BK269 BK270 BK271 HB; revert n0_ n1_ n2_ n3_; intro BK269 BK270 BK271 HB
     refine start_ (n := 8) (S := fun w' => w'.cell? ⟨gb269, 0, none⟩ = some (.int .i64 a0_0) ∧ w'.cell? ⟨gb269, 1, none⟩ = some (.slice A0_1 l0_1.length c0_1)) (ds := []) (bA_ 8 0) (by kernel_rfl) rfl (by kernel_rfl) ⟨bc_ BK269 0, bc_ BK269 1⟩ (fun hHeld => ?_); refine with_tabW spec_l04Move.tab1 spec_l04Move.bits1 (fun HT_ HW_ => ?_)
     generalize w12.drew = w13 at BK269 BK270 BK271 HB hHeld ⊢
     refine pz_ 0 8 (bA_ 8 1) HT_ ?_
     refine pz_ 2 10 (bA_ 8 5) HT_ ?_
     refine tz_ 1 9 (bA_ 8 7) HT_ HW_ hHeld ?_
     refine tz_ 3 11 (bA_ 8 15) HT_ HW_ hHeld ?_
     refine join_ (σ := Value × Nat) 1 (bA_ 8 127) (fun s_ => [(12, s_.1), (5, .pointer (some ⟨s_.2, 0, none⟩)), (13, .agg #[.int .i64 a0_0, s_.1])]) (fun s_ w' => (w'.cell? ⟨gb269, 0, none⟩ = some (.int .i64 a0_0) ∧ w'.cell? ⟨gb269, 1, none⟩ = some (.slice A0_1 l0_1.length c0_1)) ∧ (Kd.N (Kd.slice 2 (Kd.int .i64)) 39 w' w.heap.size (fun k_ => (w.heap.size ≤ k_) ∧ k_ ≠ gb269 ∧ k_ ≠ gb270 ∧ k_ ≠ gb271 ∧ k_ ≠ s_.2) s_.1 t272) ∧ (w'.heap[gb269]? = some (.cells #[.int .i64 a0_0, .slice A0_1 l0_1.length c0_1] 28 (0, 0))) ∧ (w'.heap[gb270]? = some (.cells #[.int .i64 a1_0, .int .i64 a1_1, .int .i64 a1_2, .slice A1_3 l1_3.length c1_3] 44 (0, 0))) ∧ (w'.heap[gb271]? = some (.cells #[.int .i64 0, .slice none 0 0] 28 (0, 0))) ∧ (w'.heap[s_.2]? = some (.cells #[.int .i64 0, .slice none 0 0] 28 (0, 0))) ∧ (w.heap.size ≤ s_.2) ∧ (w.heap.size ≤ s_.2) ∧ (gb269 ≠ s_.2) ∧ (s_.2 ≠ gb269) ∧ (gb270 ≠ s_.2) ∧ (s_.2 ≠ gb270) ∧ (gb271 ≠ s_.2) ∧ (s_.2 ≠ gb271) ∧ (Below w.heap.size w w')) ?_ ?_
     rotate_left
     ·intro hCont
      refine two_ (i := 4) (j := 6) (Ni := some 12) (Nj := some 5) (bA_ 8 31) (bA_ 8 79) rfl rfl rfl rfl (two_of HT_.out (by kernel_rfl)) (by decide) (by decide) (fun K hK => ?_) (fun K hK => ?_)
      ·skip
       refine goes_ Try.func40 (by kernel_rfl) rfl #[.slice A0_1 l0_1.length c0_1, .int .i64 (-1)] (by rfl) rfl rfl lm_ ?_
       with_reducible refine (spec_l04Copy.calls k _ _ l0_1 (-1) t272 _ ?side1 ?side2 A3.out).mono ?_
       (case side1 => exact cb_ HR0_1 HB)
       (case side2 => exact HC0_1.out)
       rintro e w14 ⟨v273, rfl, ho0, hb⟩
       refine ⟨_, rfl, ?_⟩
       have n0_ := am_ (Kd.N_lower (Kd.N_mono (ok' := fun k_ => (w.heap.size ≤ k_) ∧ k_ ≠ gb269 ∧ k_ ≠ gb270 ∧ k_ ≠ gb271) (Kd.S_N (Kd.S_bound ho0)) (fun k_ hk_ => ⟨(Nat.le_trans (below_size (bb_ HB.out)) hk_.2.1), (Kd.freshB (g := gb269) (o := .cells #[.int .i64 a0_0, .slice A0_1 l0_1.length c0_1] 28 (0, 0)) (bk_ BK269.out) k_ hk_.2.1), (Kd.freshB (g := gb270) (o := .cells #[.int .i64 a1_0, .int .i64 a1_1, .int .i64 a1_2, .slice A1_3 l1_3.length c1_3] 44 (0, 0)) (bk_ BK270.out) k_ hk_.2.1), (Kd.freshB (g := gb271) (o := .cells #[.int .i64 0, .slice none 0 0] 28 (0, 0)) (bk_ BK271.out) k_ hk_.2.1)⟩)) (below_size (bb_ HB.out)))
       have n1_ := am_ (bw_ BK269 hb)
       have n2_ := am_ (bw_ BK270 hb)
       have n3_ := am_ (bw_ BK271 hb)
       have n4_ := am_ (below_step (bb_ HB.out) hb)
       clear BK269 BK270 BK271 HB; revert n0_ n1_ n2_ n3_ n4_; intro HO274 BK269 BK270 BK271 HB
       (try clear hb)
       (try clear hb2)
       (try clear hk)
       (try clear hi)
       (try clear ho0)
       obtain ⟨Ao15, co15, eo15⟩ := Kd.N_slice HO274.out
       (first | subst eo15 | (injection eo15 with f1_ f2_ f3_; have f4_ := f1_.symm; have f5_ := f3_.symm; clear f1_ f2_ f3_; subst f4_; subst f5_))
       refine hK.out _ _ ⟨bc_ BK269 0, bc_ BK269 1⟩ (fun hHeld => ?_)
       clear hK K
       refine nm_ 12 ?_
       refine pz_ 5 13 (bA_ 8 63) HT_ ?_
       refine oz_ 6 5 (bA_ 8 127) HT_ (fun K hK => ?_)
       refine box_step ?hg (N := 5) ?hd (cs := #[.int .i64 0, .slice none 0 0]) (t := 28) ?hr ?_; (case hd => rfl); (case hg => rfl); (case hr => first | (go_simp; done) | (go_simp; rfl))
       intro gb275 hg w16 hbox hb
       have n0_ := am_ (Kd.N_below (Kd.N_elderB (Nx_ HO274.out) gb275 (Nat.le_of_eq hg.symm)) hb)
       have n1_ := am_ (bw_ BK269 hb)
       have n2_ := am_ (bw_ BK270 hb)
       have n3_ := am_ (bw_ BK271 hb)
       have n4_ := am_ (below_step (bb_ HB.out) hb)
       have n5_ := am_ (hbox)
       have n6_ := gs_ HB hg
       have n7_ := gs_ HB hg
       have n8_ := am_ (nl_ BK269 hg)
       have n9_ := am_ (ng_ BK269 hg)
       have n10_ := am_ (nl_ BK270 hg)
       have n11_ := am_ (ng_ BK270 hg)
       have n12_ := am_ (nl_ BK271 hg)
       have n13_ := am_ (ng_ BK271 hg)
       clear HO274 BK269 BK270 BK271 HB; revert n0_ n1_ n2_ n3_ n4_ n5_ n6_ n7_ n8_ n9_ n10_ n11_ n12_ n13_; intro HO274 BK269 BK270 BK271 HB BK275 GW275 GE275 NB269_275 NB275_269 NB270_275 NB275_270 NB271_275 NB275_271
       clear hb hbox hg
       refine hK.out _ _ ⟨bc_ BK269 0, bc_ BK269 1⟩ (fun hHeld => ?_)
       clear hK K
       refine nm_ 5 ?_
       exact norm_ (by simp only [putAll, Act.put, List.setIfInBounds_toArray, List.set_cons_zero, List.set_cons_succ]) (hCont (.slice Ao15 t272.length co15, gb275) _ ⟨hHeld, (Nx_ (Kd.N_mono HO274.out (fun _ hk => ⟨hk.1.1, ⟨hk.1.2.1, ⟨hk.1.2.2.1, ⟨hk.1.2.2.2, hk.2⟩⟩⟩⟩))), (bk_ BK269.out), (bk_ BK270.out), (bk_ BK271.out), (bk_ BK275.out), GW275.out, GE275.out, NB269_275.out, NB275_269.out, NB270_275.out, NB275_270.out, NB271_275.out, NB275_271.out, (bb_ HB.out)⟩)
      ·skip
       refine box_step ?hg (N := 5) ?hd (cs := #[.int .i64 0, .slice none 0 0]) (t := 28) ?hr ?_; (case hd => rfl); (case hg => rfl); (case hr => first | (go_simp; done) | (go_simp; rfl))
       intro gb275 hg w14 hbox hb
       have n0_ := am_ (bw_ BK269 hb)
       have n1_ := am_ (bw_ BK270 hb)
       have n2_ := am_ (bw_ BK271 hb)
       have n3_ := am_ (below_step (bb_ HB.out) hb)
       have n4_ := am_ (hbox)
       have n5_ := gs_ HB hg
       have n6_ := gs_ HB hg
       have n7_ := am_ (nl_ BK269 hg)
       have n8_ := am_ (ng_ BK269 hg)
       have n9_ := am_ (nl_ BK270 hg)
       have n10_ := am_ (ng_ BK270 hg)
       have n11_ := am_ (nl_ BK271 hg)
       have n12_ := am_ (ng_ BK271 hg)
       clear BK269 BK270 BK271 HB; revert n0_ n1_ n2_ n3_ n4_ n5_ n6_ n7_ n8_ n9_ n10_ n11_ n12_; intro BK269 BK270 BK271 HB BK275 GW275 GE275 NB269_275 NB275_269 NB270_275 NB275_270 NB271_275 NB275_271
       clear hb hbox hg
       refine hK.out _ _ ⟨bc_ BK269 0, bc_ BK269 1⟩ (fun hHeld => ?_)
       clear hK K
       refine nm_ 5 ?_
       refine oz_ 4 12 (bA_ 8 95) HT_ (fun K hK => ?_)
       refine goes_ Try.func40 (by kernel_rfl) rfl #[.slice A0_1 l0_1.length c0_1, .int .i64 (-1)] (by rfl) rfl rfl lm_ ?_
       with_reducible refine (spec_l04Copy.calls k _ _ l0_1 (-1) t272 _ ?side1 ?side2 A3.out).mono ?_
       (case side1 => exact cb_ HR0_1 HB)
       (case side2 => exact HC0_1.out)
       rintro e w15 ⟨v273, rfl, ho0, hb⟩
       refine ⟨_, rfl, ?_⟩
       have n0_ := am_ (Kd.N_lower (Kd.N_mono (ok' := fun k_ => (w.heap.size ≤ k_) ∧ k_ ≠ gb269 ∧ k_ ≠ gb270 ∧ k_ ≠ gb271 ∧ k_ ≠ gb275) (Kd.S_N (Kd.S_bound ho0)) (fun k_ hk_ => ⟨(Nat.le_trans (below_size (bb_ HB.out)) hk_.2.1), (Kd.freshB (g := gb269) (o := .cells #[.int .i64 a0_0, .slice A0_1 l0_1.length c0_1] 28 (0, 0)) (bk_ BK269.out) k_ hk_.2.1), (Kd.freshB (g := gb270) (o := .cells #[.int .i64 a1_0, .int .i64 a1_1, .int .i64 a1_2, .slice A1_3 l1_3.length c1_3] 44 (0, 0)) (bk_ BK270.out) k_ hk_.2.1), (Kd.freshB (g := gb271) (o := .cells #[.int .i64 0, .slice none 0 0] 28 (0, 0)) (bk_ BK271.out) k_ hk_.2.1), (Kd.freshB (g := gb275) (o := .cells #[.int .i64 0, .slice none 0 0] 28 (0, 0)) (bk_ BK275.out) k_ hk_.2.1)⟩)) (below_size (bb_ HB.out)))
       have n1_ := am_ (bw_ BK269 hb)
       have n2_ := am_ (bw_ BK270 hb)
       have n3_ := am_ (bw_ BK271 hb)
       have n4_ := am_ (bw_ BK275 hb)
       have n5_ := am_ (below_step (bb_ HB.out) hb)
       clear BK269 BK270 BK271 BK275 HB; revert n0_ n1_ n2_ n3_ n4_ n5_; intro HO274 BK269 BK270 BK271 BK275 HB
       (try clear hb)
       (try clear hb2)
       (try clear hk)
       (try clear hi)
       (try clear ho0)
       obtain ⟨Ao16, co16, eo16⟩ := Kd.N_slice HO274.out
       (first | subst eo16 | (injection eo16 with f1_ f2_ f3_; have f4_ := f1_.symm; have f5_ := f3_.symm; clear f1_ f2_ f3_; subst f4_; subst f5_))
       refine hK.out _ _ ⟨bc_ BK269 0, bc_ BK269 1⟩ (fun hHeld => ?_)
       clear hK K
       refine nm_ 12 ?_
       refine pz_ 5 13 (bA_ 8 127) HT_ ?_
       exact norm_ (by simp only [putAll, Act.put, List.setIfInBounds_toArray, List.set_cons_zero, List.set_cons_succ]) (hCont (.slice Ao16 t272.length co16, gb275) _ ⟨hHeld, (Nx_ HO274.out), (bk_ BK269.out), (bk_ BK270.out), (bk_ BK271.out), (bk_ BK275.out), GW275.out, GE275.out, NB269_275.out, NB275_269.out, NB270_275.out, NB275_270.out, NB271_275.out, NB275_271.out, (bb_ HB.out)⟩)
     rintro ⟨v273, gb275⟩ w17 ⟨hS_, h0_, h1_, h2_, h3_, h4_, h5_, h6_, h7_, h8_, h9_, h10_, h11_, h12_, h13_⟩
     have n0_ : Aside0 (Kd.N (Kd.slice 2 (Kd.int .i64)) 39 w17 w.heap.size (fun k_ => (w.heap.size ≤ k_) ∧ k_ ≠ gb269 ∧ k_ ≠ gb270 ∧ k_ ≠ gb271 ∧ k_ ≠ gb275) v273 t272) := ⟨h0_⟩
     have n1_ : Aside0 (w17.heap[gb269]? = some (.cells #[.int .i64 a0_0, .slice A0_1 l0_1.length c0_1] 28 (0, 0))) := ⟨h1_⟩
     have n2_ : Aside0 (w17.heap[gb270]? = some (.cells #[.int .i64 a1_0, .int .i64 a1_1, .int .i64 a1_2, .slice A1_3 l1_3.length c1_3] 44 (0, 0))) := ⟨h2_⟩
     have n3_ : Aside0 (w17.heap[gb271]? = some (.cells #[.int .i64 0, .slice none 0 0] 28 (0, 0))) := ⟨h3_⟩
     have n4_ : Aside0 (w17.heap[gb275]? = some (.cells #[.int .i64 0, .slice none 0 0] 28 (0, 0))) := ⟨h4_⟩
     have n5_ : Aside0 (w.heap.size ≤ gb275) := ⟨h5_⟩
     have n6_ : Aside0 (w.heap.size ≤ gb275) := ⟨h6_⟩
     have n7_ : Aside0 (gb269 ≠ gb275) := ⟨h7_⟩
     have n8_ : Aside0 (gb275 ≠ gb269) := ⟨h8_⟩
     have n9_ : Aside0 (gb270 ≠ gb275) := ⟨h9_⟩
     have n10_ : Aside0 (gb275 ≠ gb270) := ⟨h10_⟩
     have n11_ : Aside0 (gb271 ≠ gb275) := ⟨h11_⟩
     have n12_ : Aside0 (gb275 ≠ gb271) := ⟨h12_⟩
     have n13_ : Aside0 (Below w.heap.size w w17) := ⟨h13_⟩
     clear BK269
     clear BK270
     clear BK271
     clear HB
     clear h0_ h1_ h2_ h3_ h4_ h5_ h6_ h7_ h8_ h9_ h10_ h11_ h12_ h13_
     have HO274 := n0_
     have BK269 := n1_
     have BK270 := n2_
     have BK271 := n3_
     have BK275 := n4_
     have GW275 := n5_
     have GE275 := n6_
     have NB269_275 := n7_
     have NB275_269 := n8_
     have NB270_275 := n9_
     have NB275_270 := n10_
     have NB271_275 := n11_
     have NB275_271 := n12_
     have HB := n13_
     clear n0_ n1_ n2_ n3_ n4_ n5_ n6_ n7_ n8_ n9_ n10_ n11_ n12_ n13_
     have hHeld : w17.cell? ⟨gb269, 0, none⟩ = some (.int .i64 a0_0) ∧ w17.cell? ⟨gb269, 1, none⟩ = some (.slice A0_1 l0_1.length c0_1) := hS_
     obtain ⟨Ao18, co18, eo18⟩ := Kd.N_slice HO274.out
     (first | subst eo18 | (injection eo18 with f1_ f2_ f3_; have f4_ := f1_.symm; have f5_ := f3_.symm; clear f1_ f2_ f3_; subst f4_; subst f5_))
     refine norm_ (a' := ?_) ?_ ?_
     rotate_left
     ·simp only [putAll, Act.put, List.setIfInBounds_toArray, List.set_cons_zero, List.set_cons_succ]
      rfl
     refine one_ (i := 7) (N := none) (bA_ 8 255) rfl rfl (one_of HT_.out (by kernel_rfl)) (by decide) (fun K hK => ?_)
     have hs19 : w17.cell? ⟨gb275, 0, none⟩ = some (.int .i64 0) := bc_ BK275 0
     have hfs19 := blk_frozen BK275.out 0
     have hns19_0 := NB269_275.out
     have hns19_1 := NB270_275.out
     have hns19_2 := NB271_275.out
     have hms19_0 := NB275_269.out
     have hms19_1 := NB275_270.out
     have hms19_2 := NB275_271.out
     have hs20 : w17.cell? ⟨gb275, 1, none⟩ = some (.slice none 0 0) := bc_ BK275 1
     have hfs20 := blk_frozen BK275.out 1
     have hns20_0 := NB269_275.out
     have hns20_1 := NB270_275.out
     have hns20_2 := NB271_275.out
     have hms20_0 := NB275_269.out
     have hms20_1 := NB275_270.out
     have hms20_2 := NB275_271.out
     refine skip_ (w1 := ?_) (by rfl) rfl ?_ ?_
     rotate_left
     ·go_simp
      rfl
     refine hK.out _ _ ⟨((cell_far (p := ⟨gb275, _, none⟩) NB269_275.out _).trans (((cell_far (p := ⟨gb275, _, none⟩) NB269_275.out _).trans (hHeld.1)))), ((cell_far (p := ⟨gb275, _, none⟩) NB269_275.out _).trans (((cell_far (p := ⟨gb275, _, none⟩) NB269_275.out _).trans (hHeld.2))))⟩ (fun hHeld => ?_)
     clear hK K
     refine done_ (done_of HT_.out (by kernel_rfl)) ?_
     have hnb21 := NB270_269.out
     have hnc21 := NB269_270.out
     have hnb22 := NB270_271.out
     have hnc22 := NB271_270.out
     have hnb23 := NB270_275.out
     have hnc23 := NB275_270.out
     obtain ⟨hcz24_0, hcz24_1, hcz24_2, hcz24_3, hfz24_0, hfz24_1, hfz24_2, hfz24_3⟩ := bx4_ BK270
     try go_wp2
     have n0_ : Aside0 (Kd.N (Kd.slice 2 (Kd.int .i64)) 39 ((w17.setCell ⟨gb275, 0, none⟩ (.int .i64 a0_0)).setCell ⟨gb275, 1, none⟩ (.slice Ao18 t272.length co18)) w.heap.size (fun k_ => (w.heap.size ≤ k_) ∧ k_ ≠ gb269 ∧ k_ ≠ gb270 ∧ k_ ≠ gb271 ∧ k_ ≠ gb275) (.slice Ao18 t272.length co18) t272) := ⟨Nx_ (Kd.N_mono (Kd.N_far (p := ⟨gb275, 1, none⟩) (Kd.N_far (p := ⟨gb275, 0, none⟩) (Kd.N_mono HO274.out (fun k_ hk => (⟨hk, hk.2.2.2.2⟩ : _ ∧ k_ ≠ gb275))) (fun _ hk => hk.2) (.int .i64 a0_0)) (fun _ hk => hk.2) (.slice Ao18 t272.length co18)) (fun _ hk => ⟨hk.1.1, ⟨hk.1.2.1, ⟨hk.1.2.2.1, ⟨hk.1.2.2.2.1, hk.1.2.2.2.2⟩⟩⟩⟩))⟩
     have n1_ : Aside0 (((w17.setCell ⟨gb275, 0, none⟩ (.int .i64 a0_0)).setCell ⟨gb275, 1, none⟩ (.slice Ao18 t272.length co18)).heap[gb269]? = some (.cells #[.int .i64 a0_0, .slice A0_1 l0_1.length c0_1] 28 (0, 0))) := ⟨bk_ BK269.out⟩
     have n2_ : Aside0 (((w17.setCell ⟨gb275, 0, none⟩ (.int .i64 a0_0)).setCell ⟨gb275, 1, none⟩ (.slice Ao18 t272.length co18)).heap[gb270]? = some (.cells #[.int .i64 a1_0, .int .i64 a1_1, .int .i64 a1_2, .slice A1_3 l1_3.length c1_3] 44 (0, 0))) := ⟨bk_ BK270.out⟩
     have n3_ : Aside0 (((w17.setCell ⟨gb275, 0, none⟩ (.int .i64 a0_0)).setCell ⟨gb275, 1, none⟩ (.slice Ao18 t272.length co18)).heap[gb271]? = some (.cells #[.int .i64 0, .slice none 0 0] 28 (0, 0))) := ⟨bk_ BK271.out⟩
     have n4_ : Aside0 (((w17.setCell ⟨gb275, 0, none⟩ (.int .i64 a0_0)).setCell ⟨gb275, 1, none⟩ (.slice Ao18 t272.length co18)).heap[gb275]? = some (.cells #[.int .i64 a0_0, .slice Ao18 t272.length co18] 28 (0, 0))) := ⟨pu2_ BK275⟩
     have n5_ : Aside0 (Below w.heap.size w ((w17.setCell ⟨gb275, 0, none⟩ (.int .i64 a0_0)).setCell ⟨gb275, 1, none⟩ (.slice Ao18 t272.length co18))) := ⟨bb_ HB.out⟩
     (try clear HO274)
     (try clear BK269)
     (try clear BK270)
     (try clear BK271)
     (try clear BK275)
     (try clear HB)
     generalize ((w17.setCell ⟨gb275, 0, none⟩ (.int .i64 a0_0)).setCell ⟨gb275, 1, none⟩ (.slice Ao18 t272.length co18)) = w25 at n0_ n1_ n2_ n3_ n4_ n5_ ⊢
     have HO274 := n0_
     have BK269 := n1_
     have BK270 := n2_
     have BK271 := n3_
     have BK275 := n4_
     have HB := n5_
     clear n0_ n1_ n2_ n3_ n4_ n5_
     have n0_ := am_ (Kd.N_drew HO274.out)
     have n1_ := am_ (blk_drew BK269.out)
     have n2_ := am_ (blk_drew BK270.out)
     have n3_ := am_ (blk_drew BK271.out)
     have n4_ := am_ (blk_drew BK275.out)
     have n5_ := am_ (below_drew1 HB.out)
     clear HO274 BK269 BK270 BK271 BK275 HB; revert n0_ n1_ n2_ n3_ n4_ n5_; intro HO274 BK269 BK270 BK271 BK275 HB
     have p276 : 0 ≤ (a1_1 : Int) := da_
     have q276 : a1_1 < (l0_1.length : Int) := da_
     obtain ⟨ad276, A276_0, c276_0, e276, hx276_0, hl276_0, hi276_0⟩ := at_L1 HR0_1.out a1_1 p276 q276
     have hw276_0 := hx276_0
     cases e276
     replace hx276_0 := ce_ HB hx276_0
     have HR276_0 := am_ hi276_0
     have HC276_0 := am_ hl276_0
     clear hi276_0 hl276_0
     replace p276 := eq_true p276
     replace q276 := eq_true q276
     refine start_ (n := 13) (S := fun w' => w'.cell? ⟨gb275, 0, none⟩ = some (.int .i64 a0_0) ∧ w'.cell? ⟨gb275, 1, none⟩ = some (.slice Ao18 t272.length co18) ∧ w'.cell? ⟨gb270, 0, none⟩ = some (.int .i64 a1_0) ∧ w'.cell? ⟨gb270, 1, none⟩ = some (.int .i64 a1_1) ∧ w'.cell? ⟨gb270, 2, none⟩ = some (.int .i64 a1_2) ∧ w'.cell? ⟨gb270, 3, none⟩ = some (.slice A1_3 l1_3.length c1_3) ∧ w'.cell? ⟨gb269, 0, none⟩ = some (.int .i64 a0_0) ∧ w'.cell? ⟨gb269, 1, none⟩ = some (.slice (some ad276) l0_1.length c0_1) ∧ w'.cell? (ad276.add (a1_1).toNat) = some (.slice A276_0 (rd_L1 l0_1 a1_1).length c276_0)) (ds := [12]) (bA_ 13 0) (by kernel_rfl) rfl (by kernel_rfl) ⟨bc_ BK275 0, bc_ BK275 1, bc_ BK270 0, bc_ BK270 1, bc_ BK270 2, bc_ BK270 3, bc_ BK269 0, bc_ BK269 1, (cf_ HB hw276_0)⟩ (fun hHeld => ?_); refine with_tabW spec_l04Move.tab6 spec_l04Move.bits6 (fun HT_ HW_ => ?_)
     generalize w25.drew = w26 at HO274 BK269 BK270 BK271 BK275 HB HR276_0 hx276_0 hHeld ⊢
     refine pz_ 0 33 (bA_ 13 1) HT_ ?_
     refine pz_ 2 35 (bA_ 13 5) HT_ ?_
     refine pz_ 4 37 (bA_ 13 21) HT_ ?_
     refine pz_ 6 39 (bA_ 13 85) HT_ ?_
     refine tz_ 1 34 (bA_ 13 87) HT_ HW_ hHeld ?_
     refine tz_ 3 36 (bA_ 13 95) HT_ HW_ hHeld ?_
     refine tz_ 5 38 (bA_ 13 127) HT_ HW_ hHeld ?_
     refine tz_ 7 40 (bA_ 13 255) HT_ HW_ hHeld ?_
     refine pz_ 8 41 (bA_ 13 511) HT_ ?_
     refine tz_ 9 42 (bA_ 13 1023) HT_ HW_ hHeld ?_
     refine oz_ 10 43 (bA_ 13 2047) HT_ (fun K hK => ?_)
     refine goes_ Try.func96 (by kernel_rfl) rfl #[.slice A276_0 (rd_L1 l0_1 a1_1).length c276_0] (by rfl) rfl rfl lm_ ?_
     with_reducible refine (spec_l04Inverse.calls k _ _ (rd_L1 l0_1 a1_1) t277 _ ?side1 ?side2 A7.out).mono ?_
     (case side1 => exact cb_ HR276_0 HB)
     (case side2 => exact HC276_0.out)
     rintro e w27 ⟨v278, rfl, ho0, hb⟩
     refine ⟨_, rfl, ?_⟩
     have n0_ := am_ (Kd.N_elder' (Nx_ HO274.out) (Kd.R_base ho0) hb)
     have n1_ := am_ (Kd.R_lower (Kd.R_newM (M := fun k_ => (w.heap.size ≤ k_)) ho0 (below_size (bb_ HB.out)) (fun k_ h_ => h_)) (below_size (bb_ HB.out)))
     have n2_ := am_ (bw_ BK269 hb)
     have n3_ := am_ (bw_ BK270 hb)
     have n4_ := am_ (bw_ BK271 hb)
     have n5_ := am_ (bw_ BK275 hb)
     have n6_ := am_ (below_step (bb_ HB.out) hb)
     clear HO274 BK269 BK270 BK271 BK275 HB; revert n0_ n1_ n2_ n3_ n4_ n5_ n6_; intro HO274 HO279 BK269 BK270 BK271 BK275 HB
     (try clear hb)
     (try clear hb2)
     (try clear hk)
     (try clear hi)
     (try clear ho0)
     have p9 : 0 ≤ (a1_1 : Int) := da_
     have q9 : (a1_1 : Int) < ((t272.length : Int) : Int) := da_
     obtain ⟨go9, co9, eo9, gb9, gl9, cl9, HG9⟩ := Kd.N_form HO274.out (by omega)
     (first | cases eo9 | (injection eo9 with ea_ en_ ec_; (first | subst ea_ | (injection ea_ with ea_; subst ea_)); subst ec_; clear en_))
     have GB9 := am_ gb9
     have GG9 := am_ HG9
     clear gb9 gl9 HG9
     obtain ⟨ce9, hcl9, hM9, hcc9, hfr9⟩ := Kd.N_elem HO274.out [] (a1_1 : Int) p9 q9
     obtain ⟨ua9_0, uc9_0, rfl, ul9_0, ge9_0⟩ := Kd.FK_slice_open hM9
     have hx9_0 := hcc9 0 _ rfl
     have hf9_0 := hfr9 0
     (try simp only [show ((Kd.slice 2 (Kd.int .i64))).sz = 1 from rfl, Nat.mul_one, Nat.add_zero] at hx9_0)
     (try simp only [show ((Kd.slice 2 (Kd.int .i64))).sz = 1 from rfl, Nat.mul_one, Nat.add_zero] at hf9_0)
     (try clear hcl9); (try clear hcc9); (try clear hfr9); (try clear hM9)
     replace p9 := eq_true p9
     replace q9 := eq_true q9
     obtain ⟨Az278_, cz278_, ez278_⟩ := Kd.R_slice HO279.out
     subst ez278_
     have HX28 := am_ (show Kd.N (Kd.slice 2 (Kd.int .i64)) 39 _ w.heap.size (fun k_ => (w.heap.size ≤ k_) ∧ some k_ ≠ ((.slice Az278_ t277.length cz278_) : Value).ownBlock ∧ k_ ≠ gb269 ∧ k_ ≠ gb270 ∧ k_ ≠ gb271 ∧ k_ ≠ gb275) (.slice (some ⟨go9, 0, none⟩) t272.length co18) t272 from (Kd.N_mono (HO274.out) (fun k_ hk => ⟨hk.1.1, ⟨hk.2, ⟨hk.1.2.1, ⟨hk.1.2.2.1, ⟨hk.1.2.2.2.1, hk.1.2.2.2.2⟩⟩⟩⟩⟩)))
     replace HX28 := am_ (show Kd.N (Kd.slice 2 (Kd.int .i64)) 39 _ w.heap.size (fun k_ => (w.heap.size ≤ k_) ∧ k_ ≠ gb269 ∧ k_ ≠ gb270 ∧ k_ ≠ gb271 ∧ k_ ≠ gb275) (.slice (some ⟨go9, 0, none⟩) t272.length co18) t272 from Kd.N_mono HX28.out (fun k_ hk => ⟨hk.1, ⟨hk.2.2.1, ⟨hk.2.2.2.1, ⟨hk.2.2.2.2.1, hk.2.2.2.2.2⟩⟩⟩⟩))
     obtain ⟨ce28, hcl28, hM28, hcc28, hfr28⟩ := Kd.N_elem HX28.out [] (a1_1 : Int) da_ (by have h_ : (a1_1 : Int) < ((t272.length : Int) : Int) := da_; first | exact h_ | (have e_ := (Kd.N_reads' HO274.out).1; omega) | simpa using h_)
     obtain ⟨ua28_0, uc28_0, rfl, ul28_0, ge28_0⟩ := Kd.FK_slice_open hM28
     have HP28 := (Kd.N_seg HX28.out (a1_1 : Int) da_ (by have h_ : (a1_1 : Int) < ((t272.length : Int) : Int) := da_; first | exact h_ | (have e_ := (Kd.N_reads' HO274.out).1; omega) | simpa using h_) (seg := [(.slice Az278_ t277.length cz278_)]) (j := 0) hcl28 hcc28 (show 1 ≤ 1 from by decide) (x' := t277) (Kd.FK_slice_mk (Kd.R_reads' (Kd.R_mono (ok' := (fun k_ => ((fun k_ => (w.heap.size ≤ k_) ∧ k_ ≠ gb269 ∧ k_ ≠ gb270 ∧ k_ ≠ gb271 ∧ k_ ≠ gb275)) k_ ∧ k_ ≠ go9)) (Kd.R_types (Kd.R_types (Kd.R_types (Kd.R_types (Kd.R_apart' (HO279.out) (Kd.N_typed HO274.out) (by decide)) BK269.out (by decide)) BK270.out (by decide)) BK271.out (by decide)) BK275.out (by decide)) (fun k_ hk => ⟨⟨hk.1.1.1.1.1.1, ⟨hk.1.1.1.2, ⟨hk.1.1.2, ⟨hk.1.2, hk.2⟩⟩⟩⟩, fun e_ => (hk.1.1.1.1.2) (by rw [e_]; rfl)⟩))).2.1 (Kd.R_F (Kd.R_mono (ok' := (fun k_ => ((fun k_ => (w.heap.size ≤ k_) ∧ k_ ≠ gb269 ∧ k_ ≠ gb270 ∧ k_ ≠ gb271 ∧ k_ ≠ gb275)) k_ ∧ k_ ≠ go9)) (Kd.R_types (Kd.R_types (Kd.R_types (Kd.R_types (Kd.R_apart' (HO279.out) (Kd.N_typed HO274.out) (by decide)) BK269.out (by decide)) BK270.out (by decide)) BK271.out (by decide)) BK275.out (by decide)) (fun k_ hk => ⟨⟨hk.1.1.1.1.1.1, ⟨hk.1.1.1.2, ⟨hk.1.1.2, ⟨hk.1.2, hk.2⟩⟩⟩⟩, fun e_ => (hk.1.1.1.1.2) (by rw [e_]; rfl)⟩)))) (fun _ hk => hk)).1
     (try simp only [show ((Kd.slice 2 (Kd.int .i64))).sz = 1 from rfl, Nat.mul_one, Nat.add_zero] at HP28)
     rw [← Ny280.out] at HP28
     have HQ28 := am_ HP28
     (try clear hcl28); (try clear hcc28); (try clear hfr28); (try clear hM28); (try clear HP28)
     refine hK.out _ _ ⟨bc_ BK275 0, bc_ BK275 1, bc_ BK270 0, bc_ BK270 1, bc_ BK270 2, bc_ BK270 3, bc_ BK269 0, bc_ BK269 1, (cf_ HB hw276_0)⟩ (fun hHeld => ?_)
     clear hK K
     refine nm_ 43 ?_
     refine pz_ 11 44 (bA_ 13 4095) HT_ ?_
     refine last_ (i := 12) (N := none) (bA_ 13 8191) rfl rfl (one_of HT_.out (by kernel_rfl)) (by decide) (fun K hK => ?_)
     refine skip_ (w1 := ?_) (by rfl) rfl ?_ ?_
     rotate_left
     ·go_simp
      rfl
     refine hK.out _ _ ?_
     clear hK K
     refine done_ (done_of HT_.out (by kernel_rfl)) ?_
     have n0_ : Aside0 (Kd.N (Kd.slice 2 (Kd.int .i64)) 39 (w27.setCell ⟨go9, (a1_1 : Int).toNat, none⟩ ((.slice Az278_ t277.length cz278_))) w.heap.size (fun k_ => (w.heap.size ≤ k_) ∧ k_ ≠ gb269 ∧ k_ ≠ gb270 ∧ k_ ≠ gb271 ∧ k_ ≠ gb275) (.slice (some ⟨go9, 0, none⟩) t272.length co18) y280) := ⟨Nx_ HQ28.out⟩
     have n1_ : Aside0 ((w27.setCell ⟨go9, (a1_1 : Int).toNat, none⟩ ((.slice Az278_ t277.length cz278_))).heap[gb269]? = some (.cells #[.int .i64 a0_0, .slice (some ad276) l0_1.length c0_1] 28 (0, 0))) := ⟨by (with_reducible repeat (first | refine blk_drewN ?_ _ | refine blk_drew ?_ | refine blk_alloc ?_ _)); refine blk_far ?_ (by have h_ := Kd.N_away (g := gb269) HO274.out (fun _ hk => by first | exact hk.2.1 | exact hk.1.2.1 | exact hk.1.1.2.1 | exact hk.1.1.1.2.1 | (simp [hk]; done)); intro e_; exact h_ (by rw [e_]; rfl)) _; (with_reducible repeat (first | refine blk_drewN ?_ _ | refine blk_drew ?_ | refine blk_alloc ?_ _)); exact BK269.out⟩
     have n2_ : Aside0 ((w27.setCell ⟨go9, (a1_1 : Int).toNat, none⟩ ((.slice Az278_ t277.length cz278_))).heap[gb270]? = some (.cells #[.int .i64 a1_0, .int .i64 a1_1, .int .i64 a1_2, .slice A1_3 l1_3.length c1_3] 44 (0, 0))) := ⟨by (with_reducible repeat (first | refine blk_drewN ?_ _ | refine blk_drew ?_ | refine blk_alloc ?_ _)); refine blk_far ?_ (by have h_ := Kd.N_away (g := gb270) HO274.out (fun _ hk => by first | exact hk.2.2.1 | exact hk.1.2.2.1 | exact hk.1.1.2.2.1 | exact hk.1.1.1.2.2.1 | (simp [hk]; done)); intro e_; exact h_ (by rw [e_]; rfl)) _; (with_reducible repeat (first | refine blk_drewN ?_ _ | refine blk_drew ?_ | refine blk_alloc ?_ _)); exact BK270.out⟩
     have n3_ : Aside0 ((w27.setCell ⟨go9, (a1_1 : Int).toNat, none⟩ ((.slice Az278_ t277.length cz278_))).heap[gb271]? = some (.cells #[.int .i64 0, .slice none 0 0] 28 (0, 0))) := ⟨by (with_reducible repeat (first | refine blk_drewN ?_ _ | refine blk_drew ?_ | refine blk_alloc ?_ _)); refine blk_far ?_ (by have h_ := Kd.N_away (g := gb271) HO274.out (fun _ hk => by first | exact hk.2.2.2.1 | exact hk.1.2.2.2.1 | exact hk.1.1.2.2.2.1 | exact hk.1.1.1.2.2.2.1 | (simp [hk]; done)); intro e_; exact h_ (by rw [e_]; rfl)) _; (with_reducible repeat (first | refine blk_drewN ?_ _ | refine blk_drew ?_ | refine blk_alloc ?_ _)); exact BK271.out⟩
     have n4_ : Aside0 ((w27.setCell ⟨go9, (a1_1 : Int).toNat, none⟩ ((.slice Az278_ t277.length cz278_))).heap[gb275]? = some (.cells #[.int .i64 a0_0, .slice (some ⟨go9, 0, none⟩) t272.length co18] 28 (0, 0))) := ⟨by (with_reducible repeat (first | refine blk_drewN ?_ _ | refine blk_drew ?_ | refine blk_alloc ?_ _)); refine blk_far ?_ (by have h_ := Kd.N_away (g := gb275) HO274.out (fun _ hk => by first | exact hk.2.2.2.2 | exact hk.1.2.2.2.2 | exact hk.1.1.2.2.2.2 | exact hk.1.1.1.2.2.2.2 | (simp [hk]; done)); intro e_; exact h_ (by rw [e_]; rfl)) _; (with_reducible repeat (first | refine blk_drewN ?_ _ | refine blk_drew ?_ | refine blk_alloc ?_ _)); exact BK275.out⟩
     have n5_ : Aside0 (Below w.heap.size w (w27.setCell ⟨go9, (a1_1 : Int).toNat, none⟩ ((.slice Az278_ t277.length cz278_)))) := ⟨bb_ HB.out⟩
     (try clear HO274)
     (try clear BK269)
     (try clear BK270)
     (try clear BK271)
     (try clear BK275)
     (try clear HB)
     generalize (w27.setCell ⟨go9, (a1_1 : Int).toNat, none⟩ ((.slice Az278_ t277.length cz278_))) = w29 at n0_ n1_ n2_ n3_ n4_ n5_ ⊢
     have HO274 := n0_
     have BK269 := n1_
     have BK270 := n2_
     have BK271 := n3_
     have BK275 := n4_
     have HB := n5_
     clear n0_ n1_ n2_ n3_ n4_ n5_
     have hnb30 := NB275_269.out
     have hnc30 := NB269_275.out
     have hnb31 := NB275_271.out
     have hnc31 := NB271_275.out
     obtain ⟨hcz32_0, hcz32_1, hfz32_0, hfz32_1⟩ := bx2_ BK275
     have hnb33 := NB271_269.out
     have hnc33 := NB269_271.out
     obtain ⟨hcz34_0, hcz34_1, hfz34_0, hfz34_1⟩ := bx2_ BK271
     try go_wp2
     refine bodyPost_ret (results_cell_row rfl _ _ gb271 28 #[.int .i64 a0_0, .slice (some ⟨go9, 0, none⟩) t272.length co18] (0, 0) _ rfl (pu2_ BK271) Try.underlying28 rfl (by kernel_rfl)) rfl ?_
     exact ⟨_, er_, Nx_ (Kd.N_mono (Kd.N_far (p := ⟨gb271, 1, none⟩) (Kd.N_far (p := ⟨gb271, 0, none⟩) (Kd.N_mono HO274.out (fun k_ hk => (⟨hk, hk.2.2.2.1⟩ : _ ∧ k_ ≠ gb271))) (fun _ hk => hk.2) (.int .i64 a0_0)) (fun _ hk => hk.2) (.slice (some ⟨go9, 0, none⟩) t272.length co18)) (fun _ hk => hk.1.1)), bb_ HB.out⟩
    ·rw [if_neg c8] at H
     exact absurd H (by simp)
   ·rw [if_neg c6] at H
    exact absurd H (by simp)
  ·rw [if_neg c5] at H
   exact absurd H (by simp)
 ·rw [if_neg c4] at H
  have c4b0 : (a1_0 == 1) = false := beq_eq_false_iff_ne.mpr c4
  have c4b1 : (a1_0 != 1) = true := bne_iff_ne.mpr c4
  by_cases c35 : a1_0 = 2
  · exact absurd c35 (by have g_ := G_.out; clear H; omega)
  ·rw [if_neg c35] at H
   have c35b0 : (a1_0 == 2) = false := beq_eq_false_iff_ne.mpr c35
   have c35b1 : (a1_0 != 2) = true := bne_iff_ne.mpr c35
   by_cases c103 : a1_0 = 3
   ·rw [if_pos c103] at H
    have c103b0 : (a1_0 == 3) = true := beq_iff_eq.mpr c103
    have c103b1 : (a1_0 != 3) = false := bne_eq_false_iff_eq.mpr c103
    clear c103
    obtain ⟨y300, hy300⟩ : ∃ y_ : List Int, y_ = (([] : List Int)) := ⟨_, rfl⟩
    replace H : (if 0 ≤ a1_1 then (if a1_1 < (l0_1.length : Int) then (if y300.length + (rd_L1 l0_1 a1_1).length < 17592186044416 then ((some (y300 ++ (rd_L1 l0_1 a1_1) : List Int)).bind fun y304 => (if 0 ≤ a1_2 then (if a1_2 < (l0_1.length : Int) then (if y304.length + (rd_L1 l0_1 a1_2).length < 17592186044416 then ((spec_l04Reduce.f k (y304 ++ (rd_L1 l0_1 a1_2))).bind fun t311 => (if a1_1 < (t272.length : Int) then (some (a0_0, (t272.set (a1_1 : Int).toNat t311))) else (none))) else (none)) else (none)) else (none))) else (none)) else (none)) else (none)) = some (r1, r2) := hq_ hy300 H
    have Ny300 := am_ hy300
    clear hy300
    by_cases c104 : 0 ≤ a1_1
    ·rw [if_pos c104] at H
     have c104b0 : decide (0 ≤ a1_1) = true := decide_eq_true c104
     clear c104
     by_cases c105 : a1_1 < (l0_1.length : Int)
     ·rw [if_pos c105] at H
      have c105b0 : decide (a1_1 < (l0_1.length : Int)) = true := decide_eq_true c105
      clear c105
      by_cases c106 : y300.length + (rd_L1 l0_1 a1_1).length < 17592186044416
      ·rw [if_pos c106] at H
       have LMc106 := am_ c106
       clear c106
       obtain ⟨y304, hy304⟩ : ∃ y_ : List Int, y_ = (y300 ++ (rd_L1 l0_1 a1_1)) := ⟨_, rfl⟩
       replace H : (if 0 ≤ a1_2 then (if a1_2 < (l0_1.length : Int) then (if y304.length + (rd_L1 l0_1 a1_2).length < 17592186044416 then ((spec_l04Reduce.f k (y304 ++ (rd_L1 l0_1 a1_2))).bind fun t311 => (if a1_1 < (t272.length : Int) then (some (a0_0, (t272.set (a1_1 : Int).toNat t311))) else (none))) else (none)) else (none)) else (none)) = some (r1, r2) := hq_ hy304 H
       have Ny304 := am_ hy304
       clear hy304
       by_cases c107 : 0 ≤ a1_2
       ·rw [if_pos c107] at H
        have c107b0 : decide (0 ≤ a1_2) = true := decide_eq_true c107
        clear c107
        by_cases c108 : a1_2 < (l0_1.length : Int)
        ·rw [if_pos c108] at H
         have c108b0 : decide (a1_2 < (l0_1.length : Int)) = true := decide_eq_true c108
         clear c108
         by_cases c109 : y304.length + (rd_L1 l0_1 a1_2).length < 17592186044416
         ·rw [if_pos c109] at H
          have LMc109 := am_ c109
          clear c109
          obtain ⟨y308, hy308⟩ : ∃ y_ : List Int, y_ = (y304 ++ (rd_L1 l0_1 a1_2)) := ⟨_, rfl⟩
          replace H : ((spec_l04Reduce.f k y308).bind fun t311 => (if a1_1 < (t272.length : Int) then (some (a0_0, (t272.set (a1_1 : Int).toNat t311))) else (none))) = some (r1, r2) := hq_ hy308 H
          have Ny308 := am_ hy308
          clear hy308
          replace H := Option.bind_eq_some_iff.mp H
          obtain ⟨t311, A1100, H⟩ := H
          replace H : (if a1_1 < (t272.length : Int) then (some (a0_0, (t272.set (a1_1 : Int).toNat t311))) else (none)) = some (r1, r2) := H
          have A110 := am_ A1100
          clear A1100
          by_cases c111 : a1_1 < (t272.length : Int)
          ·rw [if_pos c111] at H
           have c111b0 : decide (a1_1 < (t272.length : Int)) = true := decide_eq_true c111
           clear c111
           obtain ⟨y314, hy314⟩ : ∃ y_ : List (List Int), y_ = (t272.set (a1_1 : Int).toNat t311) := ⟨_, rfl⟩
           replace H : (some (a0_0, y314)) = some (r1, r2) := hq_ hy314 H
           have Ny314 := am_ hy314
           clear hy314
           simp only [Option.some.injEq, Prod.mk.injEq] at H
           obtain ⟨rfl, rfl⟩ := H
           go_enter Try.func63, Try.ntmps63
           try go_wp2_with (first | (refine be_ 2 28 #[.int .i64 a0_0, .slice A0_1 l0_1.length c0_1] ?_; intro gb269 hg w113 hbox hb; have n_ := ba0_ HB hbox hb hg; clear  HB hb hbox hg; obtain ⟨HB, BK269, GW269, GE269⟩ := n_) | (refine be_ 3 44 #[.int .i64 a1_0, .int .i64 a1_1, .int .i64 a1_2, .slice A1_3 l1_3.length c1_3] ?_; intro gb270 hg w114 hbox hb; have n_ := ba1_ BK269 HB hbox hb hg; clear BK269 HB hb hbox hg; obtain ⟨BK269, HB, BK270, GW270, GE270, NB269_270, NB270_269⟩ := n_) | (refine be_ 4 28 #[.int .i64 0, .slice none 0 0] ?_; intro gb271 hg w115 hbox hb; have n_ := ba2_ BK269 BK270 HB hbox hb hg; clear BK269 BK270 HB hb hbox hg; obtain ⟨BK269, BK270, HB, BK271, GW271, GE271, NB269_271, NB271_269, NB270_271, NB271_270⟩ := n_))
           have n0_ := am_ (blk_drew BK269.out)
           have n1_ := am_ (blk_drew BK270.out)
           have n2_ := am_ (blk_drew BK271.out)
           have n3_ := am_ (below_drew1 HB.out)
           clear BK269 BK270 BK271 HB; revert n0_ n1_ n2_ n3_; intro BK269 BK270 BK271 HB
           refine start_ (n := 8) (S := fun w' => w'.cell? ⟨gb269, 0, none⟩ = some (.int .i64 a0_0) ∧ w'.cell? ⟨gb269, 1, none⟩ = some (.slice A0_1 l0_1.length c0_1)) (ds := []) (bA_ 8 0) (by kernel_rfl) rfl (by kernel_rfl) ⟨bc_ BK269 0, bc_ BK269 1⟩ (fun hHeld => ?_); refine with_tabW spec_l04Move.tab1 spec_l04Move.bits1 (fun HT_ HW_ => ?_)
           generalize w115.drew = w116 at BK269 BK270 BK271 HB hHeld ⊢
           refine pz_ 0 8 (bA_ 8 1) HT_ ?_
           refine pz_ 2 10 (bA_ 8 5) HT_ ?_
           refine tz_ 1 9 (bA_ 8 7) HT_ HW_ hHeld ?_
           refine tz_ 3 11 (bA_ 8 15) HT_ HW_ hHeld ?_
           refine join_ (σ := Value × Nat) 1 (bA_ 8 127) (fun s_ => [(12, s_.1), (5, .pointer (some ⟨s_.2, 0, none⟩)), (13, .agg #[.int .i64 a0_0, s_.1])]) (fun s_ w' => (w'.cell? ⟨gb269, 0, none⟩ = some (.int .i64 a0_0) ∧ w'.cell? ⟨gb269, 1, none⟩ = some (.slice A0_1 l0_1.length c0_1)) ∧ (Kd.N (Kd.slice 2 (Kd.int .i64)) 39 w' w.heap.size (fun k_ => (w.heap.size ≤ k_) ∧ k_ ≠ gb269 ∧ k_ ≠ gb270 ∧ k_ ≠ gb271 ∧ k_ ≠ s_.2) s_.1 t272) ∧ (w'.heap[gb269]? = some (.cells #[.int .i64 a0_0, .slice A0_1 l0_1.length c0_1] 28 (0, 0))) ∧ (w'.heap[gb270]? = some (.cells #[.int .i64 a1_0, .int .i64 a1_1, .int .i64 a1_2, .slice A1_3 l1_3.length c1_3] 44 (0, 0))) ∧ (w'.heap[gb271]? = some (.cells #[.int .i64 0, .slice none 0 0] 28 (0, 0))) ∧ (w'.heap[s_.2]? = some (.cells #[.int .i64 0, .slice none 0 0] 28 (0, 0))) ∧ (w.heap.size ≤ s_.2) ∧ (w.heap.size ≤ s_.2) ∧ (gb269 ≠ s_.2) ∧ (s_.2 ≠ gb269) ∧ (gb270 ≠ s_.2) ∧ (s_.2 ≠ gb270) ∧ (gb271 ≠ s_.2) ∧ (s_.2 ≠ gb271) ∧ (Below w.heap.size w w')) ?_ ?_
           rotate_left
           ·intro hCont
            refine two_ (i := 4) (j := 6) (Ni := some 12) (Nj := some 5) (bA_ 8 31) (bA_ 8 79) rfl rfl rfl rfl (two_of HT_.out (by kernel_rfl)) (by decide) (by decide) (fun K hK => ?_) (fun K hK => ?_)
            ·skip
             refine goes_ Try.func40 (by kernel_rfl) rfl #[.slice A0_1 l0_1.length c0_1, .int .i64 (-1)] (by rfl) rfl rfl lm_ ?_
             with_reducible refine (spec_l04Copy.calls k _ _ l0_1 (-1) t272 _ ?side1 ?side2 A3.out).mono ?_
             (case side1 => exact cb_ HR0_1 HB)
             (case side2 => exact HC0_1.out)
             rintro e w117 ⟨v273, rfl, ho0, hb⟩
             refine ⟨_, rfl, ?_⟩
             have n0_ := am_ (Kd.N_lower (Kd.N_mono (ok' := fun k_ => (w.heap.size ≤ k_) ∧ k_ ≠ gb269 ∧ k_ ≠ gb270 ∧ k_ ≠ gb271) (Kd.S_N (Kd.S_bound ho0)) (fun k_ hk_ => ⟨(Nat.le_trans (below_size (bb_ HB.out)) hk_.2.1), (Kd.freshB (g := gb269) (o := .cells #[.int .i64 a0_0, .slice A0_1 l0_1.length c0_1] 28 (0, 0)) (bk_ BK269.out) k_ hk_.2.1), (Kd.freshB (g := gb270) (o := .cells #[.int .i64 a1_0, .int .i64 a1_1, .int .i64 a1_2, .slice A1_3 l1_3.length c1_3] 44 (0, 0)) (bk_ BK270.out) k_ hk_.2.1), (Kd.freshB (g := gb271) (o := .cells #[.int .i64 0, .slice none 0 0] 28 (0, 0)) (bk_ BK271.out) k_ hk_.2.1)⟩)) (below_size (bb_ HB.out)))
             have n1_ := am_ (bw_ BK269 hb)
             have n2_ := am_ (bw_ BK270 hb)
             have n3_ := am_ (bw_ BK271 hb)
             have n4_ := am_ (below_step (bb_ HB.out) hb)
             clear BK269 BK270 BK271 HB; revert n0_ n1_ n2_ n3_ n4_; intro HO274 BK269 BK270 BK271 HB
             (try clear hb)
             (try clear hb2)
             (try clear hk)
             (try clear hi)
             (try clear ho0)
             obtain ⟨Ao118, co118, eo118⟩ := Kd.N_slice HO274.out
             (first | subst eo118 | (injection eo118 with f1_ f2_ f3_; have f4_ := f1_.symm; have f5_ := f3_.symm; clear f1_ f2_ f3_; subst f4_; subst f5_))
             refine hK.out _ _ ⟨bc_ BK269 0, bc_ BK269 1⟩ (fun hHeld => ?_)
             clear hK K
             refine nm_ 12 ?_
             refine pz_ 5 13 (bA_ 8 63) HT_ ?_
             refine oz_ 6 5 (bA_ 8 127) HT_ (fun K hK => ?_)
             refine box_step ?hg (N := 5) ?hd (cs := #[.int .i64 0, .slice none 0 0]) (t := 28) ?hr ?_; (case hd => rfl); (case hg => rfl); (case hr => first | (go_simp; done) | (go_simp; rfl))
             intro gb275 hg w119 hbox hb
             have n0_ := am_ (Kd.N_below (Kd.N_elderB (Nx_ HO274.out) gb275 (Nat.le_of_eq hg.symm)) hb)
             have n1_ := am_ (bw_ BK269 hb)
             have n2_ := am_ (bw_ BK270 hb)
             have n3_ := am_ (bw_ BK271 hb)
             have n4_ := am_ (below_step (bb_ HB.out) hb)
             have n5_ := am_ (hbox)
             have n6_ := gs_ HB hg
             have n7_ := gs_ HB hg
             have n8_ := am_ (nl_ BK269 hg)
             have n9_ := am_ (ng_ BK269 hg)
             have n10_ := am_ (nl_ BK270 hg)
             have n11_ := am_ (ng_ BK270 hg)
             have n12_ := am_ (nl_ BK271 hg)
             have n13_ := am_ (ng_ BK271 hg)
             clear HO274 BK269 BK270 BK271 HB; revert n0_ n1_ n2_ n3_ n4_ n5_ n6_ n7_ n8_ n9_ n10_ n11_ n12_ n13_; intro HO274 BK269 BK270 BK271 HB BK275 GW275 GE275 NB269_275 NB275_269 NB270_275 NB275_270 NB271_275 NB275_271
             clear hb hbox hg
             refine hK.out _ _ ⟨bc_ BK269 0, bc_ BK269 1⟩ (fun hHeld => ?_)
             clear hK K
             refine nm_ 5 ?_
             exact norm_ (by simp only [putAll, Act.put, List.setIfInBounds_toArray, List.set_cons_zero, List.set_cons_succ]) (hCont (.slice Ao118 t272.length co118, gb275) _ ⟨hHeld, (Nx_ (Kd.N_mono HO274.out (fun _ hk => ⟨hk.1.1, ⟨hk.1.2.1, ⟨hk.1.2.2.1, ⟨hk.1.2.2.2, hk.2⟩⟩⟩⟩))), (bk_ BK269.out), (bk_ BK270.out), (bk_ BK271.out), (bk_ BK275.out), GW275.out, GE275.out, NB269_275.out, NB275_269.out, NB270_275.out, NB275_270.out, NB271_275.out, NB275_271.out, (bb_ HB.out)⟩)
            ·skip
             refine box_step ?hg (N := 5) ?hd (cs := #[.int .i64 0, .slice none 0 0]) (t := 28) ?hr ?_; (case hd => rfl); (case hg => rfl); (case hr => first | (go_simp; done) | (go_simp; rfl))
             intro gb275 hg w117 hbox hb
             have n0_ := am_ (bw_ BK269 hb)
             have n1_ := am_ (bw_ BK270 hb)
             have n2_ := am_ (bw_ BK271 hb)
             have n3_ := am_ (below_step (bb_ HB.out) hb)
             have n4_ := am_ (hbox)
             have n5_ := gs_ HB hg
             have n6_ := gs_ HB hg
             have n7_ := am_ (nl_ BK269 hg)
             have n8_ := am_ (ng_ BK269 hg)
             have n9_ := am_ (nl_ BK270 hg)
             have n10_ := am_ (ng_ BK270 hg)
             have n11_ := am_ (nl_ BK271 hg)
             have n12_ := am_ (ng_ BK271 hg)
             clear BK269 BK270 BK271 HB; revert n0_ n1_ n2_ n3_ n4_ n5_ n6_ n7_ n8_ n9_ n10_ n11_ n12_; intro BK269 BK270 BK271 HB BK275 GW275 GE275 NB269_275 NB275_269 NB270_275 NB275_270 NB271_275 NB275_271
             clear hb hbox hg
             refine hK.out _ _ ⟨bc_ BK269 0, bc_ BK269 1⟩ (fun hHeld => ?_)
             clear hK K
             refine nm_ 5 ?_
             refine oz_ 4 12 (bA_ 8 95) HT_ (fun K hK => ?_)
             refine goes_ Try.func40 (by kernel_rfl) rfl #[.slice A0_1 l0_1.length c0_1, .int .i64 (-1)] (by rfl) rfl rfl lm_ ?_
             with_reducible refine (spec_l04Copy.calls k _ _ l0_1 (-1) t272 _ ?side1 ?side2 A3.out).mono ?_
             (case side1 => exact cb_ HR0_1 HB)
             (case side2 => exact HC0_1.out)
             rintro e w118 ⟨v273, rfl, ho0, hb⟩
             refine ⟨_, rfl, ?_⟩
             have n0_ := am_ (Kd.N_lower (Kd.N_mono (ok' := fun k_ => (w.heap.size ≤ k_) ∧ k_ ≠ gb269 ∧ k_ ≠ gb270 ∧ k_ ≠ gb271 ∧ k_ ≠ gb275) (Kd.S_N (Kd.S_bound ho0)) (fun k_ hk_ => ⟨(Nat.le_trans (below_size (bb_ HB.out)) hk_.2.1), (Kd.freshB (g := gb269) (o := .cells #[.int .i64 a0_0, .slice A0_1 l0_1.length c0_1] 28 (0, 0)) (bk_ BK269.out) k_ hk_.2.1), (Kd.freshB (g := gb270) (o := .cells #[.int .i64 a1_0, .int .i64 a1_1, .int .i64 a1_2, .slice A1_3 l1_3.length c1_3] 44 (0, 0)) (bk_ BK270.out) k_ hk_.2.1), (Kd.freshB (g := gb271) (o := .cells #[.int .i64 0, .slice none 0 0] 28 (0, 0)) (bk_ BK271.out) k_ hk_.2.1), (Kd.freshB (g := gb275) (o := .cells #[.int .i64 0, .slice none 0 0] 28 (0, 0)) (bk_ BK275.out) k_ hk_.2.1)⟩)) (below_size (bb_ HB.out)))
             have n1_ := am_ (bw_ BK269 hb)
             have n2_ := am_ (bw_ BK270 hb)
             have n3_ := am_ (bw_ BK271 hb)
             have n4_ := am_ (bw_ BK275 hb)
             have n5_ := am_ (below_step (bb_ HB.out) hb)
             clear BK269 BK270 BK271 BK275 HB; revert n0_ n1_ n2_ n3_ n4_ n5_; intro HO274 BK269 BK270 BK271 BK275 HB
             (try clear hb)
             (try clear hb2)
             (try clear hk)
             (try clear hi)
             (try clear ho0)
             obtain ⟨Ao119, co119, eo119⟩ := Kd.N_slice HO274.out
             (first | subst eo119 | (injection eo119 with f1_ f2_ f3_; have f4_ := f1_.symm; have f5_ := f3_.symm; clear f1_ f2_ f3_; subst f4_; subst f5_))
             refine hK.out _ _ ⟨bc_ BK269 0, bc_ BK269 1⟩ (fun hHeld => ?_)
             clear hK K
             refine nm_ 12 ?_
             refine pz_ 5 13 (bA_ 8 127) HT_ ?_
             exact norm_ (by simp only [putAll, Act.put, List.setIfInBounds_toArray, List.set_cons_zero, List.set_cons_succ]) (hCont (.slice Ao119 t272.length co119, gb275) _ ⟨hHeld, (Nx_ HO274.out), (bk_ BK269.out), (bk_ BK270.out), (bk_ BK271.out), (bk_ BK275.out), GW275.out, GE275.out, NB269_275.out, NB275_269.out, NB270_275.out, NB275_270.out, NB271_275.out, NB275_271.out, (bb_ HB.out)⟩)
           rintro ⟨v273, gb275⟩ w120 ⟨hS_, h0_, h1_, h2_, h3_, h4_, h5_, h6_, h7_, h8_, h9_, h10_, h11_, h12_, h13_⟩
           have n0_ : Aside0 (Kd.N (Kd.slice 2 (Kd.int .i64)) 39 w120 w.heap.size (fun k_ => (w.heap.size ≤ k_) ∧ k_ ≠ gb269 ∧ k_ ≠ gb270 ∧ k_ ≠ gb271 ∧ k_ ≠ gb275) v273 t272) := ⟨h0_⟩
           have n1_ : Aside0 (w120.heap[gb269]? = some (.cells #[.int .i64 a0_0, .slice A0_1 l0_1.length c0_1] 28 (0, 0))) := ⟨h1_⟩
           have n2_ : Aside0 (w120.heap[gb270]? = some (.cells #[.int .i64 a1_0, .int .i64 a1_1, .int .i64 a1_2, .slice A1_3 l1_3.length c1_3] 44 (0, 0))) := ⟨h2_⟩
           have n3_ : Aside0 (w120.heap[gb271]? = some (.cells #[.int .i64 0, .slice none 0 0] 28 (0, 0))) := ⟨h3_⟩
           have n4_ : Aside0 (w120.heap[gb275]? = some (.cells #[.int .i64 0, .slice none 0 0] 28 (0, 0))) := ⟨h4_⟩
           have n5_ : Aside0 (w.heap.size ≤ gb275) := ⟨h5_⟩
           have n6_ : Aside0 (w.heap.size ≤ gb275) := ⟨h6_⟩
           have n7_ : Aside0 (gb269 ≠ gb275) := ⟨h7_⟩
           have n8_ : Aside0 (gb275 ≠ gb269) := ⟨h8_⟩
           have n9_ : Aside0 (gb270 ≠ gb275) := ⟨h9_⟩
           have n10_ : Aside0 (gb275 ≠ gb270) := ⟨h10_⟩
           have n11_ : Aside0 (gb271 ≠ gb275) := ⟨h11_⟩
           have n12_ : Aside0 (gb275 ≠ gb271) := ⟨h12_⟩
           have n13_ : Aside0 (Below w.heap.size w w120) := ⟨h13_⟩
           clear BK269
           clear BK270
           clear BK271
           clear HB
           clear h0_ h1_ h2_ h3_ h4_ h5_ h6_ h7_ h8_ h9_ h10_ h11_ h12_ h13_
           have HO274 := n0_
           have BK269 := n1_
           have BK270 := n2_
           have BK271 := n3_
           have BK275 := n4_
           have GW275 := n5_
           have GE275 := n6_
           have NB269_275 := n7_
           have NB275_269 := n8_
           have NB270_275 := n9_
           have NB275_270 := n10_
           have NB271_275 := n11_
           have NB275_271 := n12_
           have HB := n13_
           clear n0_ n1_ n2_ n3_ n4_ n5_ n6_ n7_ n8_ n9_ n10_ n11_ n12_ n13_
           have hHeld : w120.cell? ⟨gb269, 0, none⟩ = some (.int .i64 a0_0) ∧ w120.cell? ⟨gb269, 1, none⟩ = some (.slice A0_1 l0_1.length c0_1) := hS_
           obtain ⟨Ao121, co121, eo121⟩ := Kd.N_slice HO274.out
           (first | subst eo121 | (injection eo121 with f1_ f2_ f3_; have f4_ := f1_.symm; have f5_ := f3_.symm; clear f1_ f2_ f3_; subst f4_; subst f5_))
           refine norm_ (a' := ?_) ?_ ?_
           rotate_left
           ·simp only [putAll, Act.put, List.setIfInBounds_toArray, List.set_cons_zero, List.set_cons_succ]
            rfl
           refine one_ (i := 7) (N := none) (bA_ 8 255) rfl rfl (one_of HT_.out (by kernel_rfl)) (by decide) (fun K hK => ?_)
           have hs122 : w120.cell? ⟨gb275, 0, none⟩ = some (.int .i64 0) := bc_ BK275 0
           have hfs122 := blk_frozen BK275.out 0
           have hns122_0 := NB269_275.out
           have hns122_1 := NB270_275.out
           have hns122_2 := NB271_275.out
           have hms122_0 := NB275_269.out
           have hms122_1 := NB275_270.out
           have hms122_2 := NB275_271.out
           have hs123 : w120.cell? ⟨gb275, 1, none⟩ = some (.slice none 0 0) := bc_ BK275 1
           have hfs123 := blk_frozen BK275.out 1
           have hns123_0 := NB269_275.out
           have hns123_1 := NB270_275.out
           have hns123_2 := NB271_275.out
           have hms123_0 := NB275_269.out
           have hms123_1 := NB275_270.out
           have hms123_2 := NB275_271.out
           refine skip_ (w1 := ?_) (by rfl) rfl ?_ ?_
           rotate_left
           ·go_simp
            rfl
           refine hK.out _ _ ⟨((cell_far (p := ⟨gb275, _, none⟩) NB269_275.out _).trans (((cell_far (p := ⟨gb275, _, none⟩) NB269_275.out _).trans (hHeld.1)))), ((cell_far (p := ⟨gb275, _, none⟩) NB269_275.out _).trans (((cell_far (p := ⟨gb275, _, none⟩) NB269_275.out _).trans (hHeld.2))))⟩ (fun hHeld => ?_)
           clear hK K
           refine done_ (done_of HT_.out (by kernel_rfl)) ?_
           have hnb124 := NB270_269.out
           have hnc124 := NB269_270.out
           have hnb125 := NB270_271.out
           have hnc125 := NB271_270.out
           have hnb126 := NB270_275.out
           have hnc126 := NB275_270.out
           obtain ⟨hcz127_0, hcz127_1, hcz127_2, hcz127_3, hfz127_0, hfz127_1, hfz127_2, hfz127_3⟩ := bx4_ BK270
           try go_wp2
           have n0_ : Aside0 (Kd.N (Kd.slice 2 (Kd.int .i64)) 39 ((w120.setCell ⟨gb275, 0, none⟩ (.int .i64 a0_0)).setCell ⟨gb275, 1, none⟩ (.slice Ao121 t272.length co121)) w.heap.size (fun k_ => (w.heap.size ≤ k_) ∧ k_ ≠ gb269 ∧ k_ ≠ gb270 ∧ k_ ≠ gb271 ∧ k_ ≠ gb275) (.slice Ao121 t272.length co121) t272) := ⟨Nx_ (Kd.N_mono (Kd.N_far (p := ⟨gb275, 1, none⟩) (Kd.N_far (p := ⟨gb275, 0, none⟩) (Kd.N_mono HO274.out (fun k_ hk => (⟨hk, hk.2.2.2.2⟩ : _ ∧ k_ ≠ gb275))) (fun _ hk => hk.2) (.int .i64 a0_0)) (fun _ hk => hk.2) (.slice Ao121 t272.length co121)) (fun _ hk => ⟨hk.1.1, ⟨hk.1.2.1, ⟨hk.1.2.2.1, ⟨hk.1.2.2.2.1, hk.1.2.2.2.2⟩⟩⟩⟩))⟩
           have n1_ : Aside0 (((w120.setCell ⟨gb275, 0, none⟩ (.int .i64 a0_0)).setCell ⟨gb275, 1, none⟩ (.slice Ao121 t272.length co121)).heap[gb269]? = some (.cells #[.int .i64 a0_0, .slice A0_1 l0_1.length c0_1] 28 (0, 0))) := ⟨bk_ BK269.out⟩
           have n2_ : Aside0 (((w120.setCell ⟨gb275, 0, none⟩ (.int .i64 a0_0)).setCell ⟨gb275, 1, none⟩ (.slice Ao121 t272.length co121)).heap[gb270]? = some (.cells #[.int .i64 a1_0, .int .i64 a1_1, .int .i64 a1_2, .slice A1_3 l1_3.length c1_3] 44 (0, 0))) := ⟨bk_ BK270.out⟩
           have n3_ : Aside0 (((w120.setCell ⟨gb275, 0, none⟩ (.int .i64 a0_0)).setCell ⟨gb275, 1, none⟩ (.slice Ao121 t272.length co121)).heap[gb271]? = some (.cells #[.int .i64 0, .slice none 0 0] 28 (0, 0))) := ⟨bk_ BK271.out⟩
           have n4_ : Aside0 (((w120.setCell ⟨gb275, 0, none⟩ (.int .i64 a0_0)).setCell ⟨gb275, 1, none⟩ (.slice Ao121 t272.length co121)).heap[gb275]? = some (.cells #[.int .i64 a0_0, .slice Ao121 t272.length co121] 28 (0, 0))) := ⟨pu2_ BK275⟩
           have n5_ : Aside0 (Below w.heap.size w ((w120.setCell ⟨gb275, 0, none⟩ (.int .i64 a0_0)).setCell ⟨gb275, 1, none⟩ (.slice Ao121 t272.length co121))) := ⟨bb_ HB.out⟩
           (try clear HO274)
           (try clear BK269)
           (try clear BK270)
           (try clear BK271)
           (try clear BK275)
           (try clear HB)
           generalize ((w120.setCell ⟨gb275, 0, none⟩ (.int .i64 a0_0)).setCell ⟨gb275, 1, none⟩ (.slice Ao121 t272.length co121)) = w128 at n0_ n1_ n2_ n3_ n4_ n5_ ⊢
           have HO274 := n0_
           have BK269 := n1_
           have BK270 := n2_
           have BK271 := n3_
           have BK275 := n4_
           have HB := n5_
           clear n0_ n1_ n2_ n3_ n4_ n5_
           have n0_ := am_ (Kd.N_drew HO274.out)
           have n1_ := am_ (blk_drew BK269.out)
           have n2_ := am_ (blk_drew BK270.out)
           have n3_ := am_ (blk_drew BK271.out)
           have n4_ := am_ (blk_drew BK275.out)
           have n5_ := am_ (below_drew1 HB.out)
           clear HO274 BK269 BK270 BK271 BK275 HB; revert n0_ n1_ n2_ n3_ n4_ n5_; intro HO274 BK269 BK270 BK271 BK275 HB
           have p303 : 0 ≤ (a1_1 : Int) := da_
           have q303 : a1_1 < (l0_1.length : Int) := da_
           obtain ⟨ad303, A303_0, c303_0, e303, hx303_0, hl303_0, hi303_0⟩ := at_L1 HR0_1.out a1_1 p303 q303
           have hw303_0 := hx303_0
           cases e303
           replace hx303_0 := ce_ HB hx303_0
           have HR303_0 := am_ hi303_0
           have HC303_0 := am_ hl303_0
           clear hi303_0 hl303_0
           replace p303 := eq_true p303
           replace q303 := eq_true q303
           have p307 : 0 ≤ (a1_2 : Int) := da_
           have q307 : a1_2 < (l0_1.length : Int) := da_
           obtain ⟨ad307, A307_0, c307_0, e307, hx307_0, hl307_0, hi307_0⟩ := at_L1 HR0_1.out a1_2 p307 q307
           have hw307_0 := hx307_0
           obtain rfl : ad303 = ad307 := (by injection e307)
           replace hx307_0 := ce_ HB hx307_0
           have HR307_0 := am_ hi307_0
           have HC307_0 := am_ hl307_0
           clear hi307_0 hl307_0
           replace p307 := eq_true p307
           replace q307 := eq_true q307
           refine start_ (n := 22) (S := fun w' => w'.cell? ⟨gb275, 0, none⟩ = some (.int .i64 a0_0) ∧ w'.cell? ⟨gb275, 1, none⟩ = some (.slice Ao121 t272.length co121) ∧ w'.cell? ⟨gb270, 0, none⟩ = some (.int .i64 a1_0) ∧ w'.cell? ⟨gb270, 1, none⟩ = some (.int .i64 a1_1) ∧ w'.cell? ⟨gb270, 2, none⟩ = some (.int .i64 a1_2) ∧ w'.cell? ⟨gb270, 3, none⟩ = some (.slice A1_3 l1_3.length c1_3) ∧ w'.cell? ⟨gb269, 0, none⟩ = some (.int .i64 a0_0) ∧ w'.cell? ⟨gb269, 1, none⟩ = some (.slice (some ad303) l0_1.length c0_1) ∧ w'.cell? (ad303.add (a1_1).toNat) = some (.slice A303_0 (rd_L1 l0_1 a1_1).length c303_0) ∧ w'.cell? (ad303.add (a1_2).toNat) = some (.slice A307_0 (rd_L1 l0_1 a1_2).length c307_0)) (ds := [21]) (bA_ 22 0) (by kernel_rfl) rfl (by kernel_rfl) ⟨bc_ BK275 0, bc_ BK275 1, bc_ BK270 0, bc_ BK270 1, bc_ BK270 2, bc_ BK270 3, bc_ BK269 0, bc_ BK269 1, (cf_ HB hw303_0), (cf_ HB hw307_0)⟩ (fun hHeld => ?_); refine with_tabW spec_l04Move.tab12 spec_l04Move.bits12 (fun HT_ HW_ => ?_)
           generalize w128.drew = w129 at HO274 BK269 BK270 BK271 BK275 HB HR303_0 HR307_0 hx303_0 hx307_0 hHeld ⊢
           refine pz_ 0 73 (bA_ 22 1) HT_ ?_
           refine pz_ 2 75 (bA_ 22 5) HT_ ?_
           refine pz_ 5 78 (bA_ 22 37) HT_ ?_
           refine pz_ 7 80 (bA_ 22 165) HT_ ?_
           refine pz_ 12 85 (bA_ 22 4261) HT_ ?_
           refine pz_ 14 87 (bA_ 22 20645) HT_ ?_
           refine tz_ 1 74 (bA_ 22 20647) HT_ HW_ hHeld ?_
           refine tz_ 3 76 (bA_ 22 20655) HT_ HW_ hHeld ?_
           refine tz_ 6 79 (bA_ 22 20719) HT_ HW_ hHeld ?_
           refine tz_ 8 81 (bA_ 22 20975) HT_ HW_ hHeld ?_
           refine pz_ 9 82 (bA_ 22 21487) HT_ ?_
           refine tz_ 10 83 (bA_ 22 22511) HT_ HW_ hHeld ?_
           refine tz_ 13 86 (bA_ 22 30703) HT_ HW_ hHeld ?_
           refine tz_ 15 88 (bA_ 22 63471) HT_ HW_ hHeld ?_
           refine pz_ 16 89 (bA_ 22 129007) HT_ ?_
           refine tz_ 17 90 (bA_ 22 260079) HT_ HW_ hHeld ?_
           refine oz_ 4 77 (bA_ 22 260095) HT_ (fun K hK => ?_)
           refine Kd.R_lit_step (Kd.int .i64) _ 2 ?hg (N := 77) ?hd (xs := ([] : List Int)) (inner := []) (ok := fun _ => True) (okp := fun _ => True) ?hr ?hp (fun _ hk => hk) trivial (Below.refl _ _) (Nat.le_refl _) (by simp) ?_; (case hd => rfl); (case hg => rfl); (case hr => first | (go_simp; done) | (go_simp; rfl)); (case hp => exact (Reps.none _ _))
           intro v301 w130 ho131 hb hg_ hnew_
           clear hg_ hnew_
           (first | rw [← Ny300.out] at ho131 | (simp only [Int.reduceToNat] at ho131; rw [← Ny300.out] at ho131))
           have n0_ := am_ (Kd.N_elder' (Nx_ HO274.out) (Kd.R_base ho131) hb)
           have n1_ := am_ (Kd.R_lower (Kd.R_newM (M := fun k_ => (w.heap.size ≤ k_)) ho131 (below_size (bb_ HB.out)) (fun k_ h_ => h_)) (below_size (bb_ HB.out)))
           have n2_ := am_ (bw_ BK269 hb)
           have n3_ := am_ (bw_ BK270 hb)
           have n4_ := am_ (bw_ BK271 hb)
           have n5_ := am_ (bw_ BK275 hb)
           have n6_ := am_ (below_step (bb_ HB.out) hb)
           clear HO274 BK269 BK270 BK271 BK275 HB; revert n0_ n1_ n2_ n3_ n4_ n5_ n6_; intro HO274 HO302 BK269 BK270 BK271 BK275 HB
           clear hb ho131
           refine hK.out _ _ ⟨bc_ BK275 0, bc_ BK275 1, bc_ BK270 0, bc_ BK270 1, bc_ BK270 2, bc_ BK270 3, bc_ BK269 0, bc_ BK269 1, (cf_ HB hw303_0), (cf_ HB hw307_0)⟩ (fun hHeld => ?_)
           clear hK K
           refine nm_ 77 ?_
           refine oz_ 11 84 (bA_ 22 262143) HT_ (fun K hK => ?_)
           refine Kd.R_append_rows_step (Kd.int .i64) (w0 := w) w.heap.size (by rfl) (.tmp 77) (.tmp 83) 39 2 (.int .i64 0) 8 rfl Try.underlying39 info2 rfl (by decide) (by omega) v301 y300 (rd_L1 l0_1 a1_1) _ _ _ (fun k_ => (w.heap.size ≤ k_)) (fun _ => False) rfl rfl ?aO ?aR (fun _ _ h => h) (fun _ h => h.elim) ?aF ?aB ?aS ?aL ?_
           (case aR => exact cb_ HR303_0 HB)
           (case aB => exact (bb_ HB.out))
           (case aF => exact (fun k_ hk => (Nat.le_trans (below_size (bb_ HB.out)) hk)))
           (case aO => exact (rm_ HO302.out (fun _ hk => hk.1)))
           (case aS => exact (below_size (bb_ HB.out)))
           (case aL => have := LMc106.out; omega)
           intro v305 w132 ho hb hg hat
           rw [← Ny304.out] at ho
           have n0_ := am_ (blk_grown (g := gb269) (o := .cells #[.int .i64 a0_0, .slice (some ad303) l0_1.length c0_1] 28 (0, 0)) (bk_ BK269.out) hg (Kd.R_ne HO302.out BK269.out (by decide)))
           have n1_ := am_ (blk_grown (g := gb270) (o := .cells #[.int .i64 a1_0, .int .i64 a1_1, .int .i64 a1_2, .slice A1_3 l1_3.length c1_3] 44 (0, 0)) (bk_ BK270.out) hg (Kd.R_ne HO302.out BK270.out (by decide)))
           have n2_ := am_ (blk_grown (g := gb271) (o := .cells #[.int .i64 0, .slice none 0 0] 28 (0, 0)) (bk_ BK271.out) hg (Kd.R_ne HO302.out BK271.out (by decide)))
           have n3_ := am_ (Kd.N_afterv (ok := (fun k_ => (w.heap.size ≤ k_) ∧ k_ ≠ gb269 ∧ k_ ≠ gb270 ∧ k_ ≠ gb271 ∧ k_ ≠ gb275)) (Nx_ HO274.out) hg hat)
           have n4_ := am_ (blk_grown (g := gb275) (o := .cells #[.int .i64 a0_0, .slice Ao121 t272.length co121] 28 (0, 0)) (bk_ BK275.out) hg (Kd.R_ne HO302.out BK275.out (by decide)))
           have n5_ := am_ (hb)
           have n6_ := am_ (ho)
           clear BK269 BK270 BK271 HO274 BK275 HB HO302; revert n0_ n1_ n2_ n3_ n4_ n5_ n6_; intro BK269 BK270 BK271 HO274 BK275 HB HO306
           clear ho hb hg hat
           refine hK.out _ _ ⟨bc_ BK275 0, bc_ BK275 1, bc_ BK270 0, bc_ BK270 1, bc_ BK270 2, bc_ BK270 3, bc_ BK269 0, bc_ BK269 1, (cf_ HB hw303_0), (cf_ HB hw307_0)⟩ (fun hHeld => ?_)
           clear hK K
           refine nm_ 84 ?_
           refine oz_ 18 91 (bA_ 22 524287) HT_ (fun K hK => ?_)
           refine Kd.R_append_rows_step (Kd.int .i64) (w0 := w) w.heap.size (by rfl) (.tmp 84) (.tmp 90) 39 2 (.int .i64 0) 8 rfl Try.underlying39 info2 rfl (by decide) (by omega) v305 y304 (rd_L1 l0_1 a1_2) _ _ _ (fun k_ => (w.heap.size ≤ k_)) (fun _ => False) rfl rfl ?aO ?aR (fun _ _ h => h) (fun _ h => h.elim) ?aF ?aB ?aS ?aL ?_
           (case aR => exact cb_ HR307_0 HB)
           (case aB => exact (bb_ HB.out))
           (case aF => exact (fun k_ hk => (Nat.le_trans (below_size (bb_ HB.out)) hk)))
           (case aO => exact (rk_ HO306.out))
           (case aS => exact (below_size (bb_ HB.out)))
           (case aL => have := LMc109.out; omega)
           intro v309 w133 ho hb hg hat
           rw [← Ny308.out] at ho
           have n0_ := am_ (blk_grown (g := gb269) (o := .cells #[.int .i64 a0_0, .slice (some ad303) l0_1.length c0_1] 28 (0, 0)) (bk_ BK269.out) hg (Kd.R_ne HO306.out BK269.out (by decide)))
           have n1_ := am_ (blk_grown (g := gb270) (o := .cells #[.int .i64 a1_0, .int .i64 a1_1, .int .i64 a1_2, .slice A1_3 l1_3.length c1_3] 44 (0, 0)) (bk_ BK270.out) hg (Kd.R_ne HO306.out BK270.out (by decide)))
           have n2_ := am_ (blk_grown (g := gb271) (o := .cells #[.int .i64 0, .slice none 0 0] 28 (0, 0)) (bk_ BK271.out) hg (Kd.R_ne HO306.out BK271.out (by decide)))
           have n3_ := am_ (Kd.N_afterv (ok := (fun k_ => (w.heap.size ≤ k_) ∧ k_ ≠ gb269 ∧ k_ ≠ gb270 ∧ k_ ≠ gb271 ∧ k_ ≠ gb275)) (Nx_ HO274.out) hg hat)
           have n4_ := am_ (blk_grown (g := gb275) (o := .cells #[.int .i64 a0_0, .slice Ao121 t272.length co121] 28 (0, 0)) (bk_ BK275.out) hg (Kd.R_ne HO306.out BK275.out (by decide)))
           have n5_ := am_ (hb)
           have n6_ := am_ (ho)
           clear BK269 BK270 BK271 HO274 BK275 HB HO306; revert n0_ n1_ n2_ n3_ n4_ n5_ n6_; intro BK269 BK270 BK271 HO274 BK275 HB HO310
           clear ho hb hg hat
           obtain ⟨Ao134, co134, eo134⟩ := Kd.R_slice HO310.out
           (first | subst eo134 | (injection eo134 with f1_ f2_ f3_; have f4_ := f1_.symm; have f5_ := f3_.symm; clear f1_ f2_ f3_; subst f4_; subst f5_))
           refine hK.out _ _ ⟨bc_ BK275 0, bc_ BK275 1, bc_ BK270 0, bc_ BK270 1, bc_ BK270 2, bc_ BK270 3, bc_ BK269 0, bc_ BK269 1, (cf_ HB hw303_0), (cf_ HB hw307_0)⟩ (fun hHeld => ?_)
           clear hK K
           refine nm_ 91 ?_
           refine oz_ 19 92 (bA_ 22 1048575) HT_ (fun K hK => ?_)
           refine goes_ Try.func87 (by kernel_rfl) rfl #[.slice Ao134 y308.length co134] (by rfl) rfl rfl lm_ ?_
           with_reducible refine (spec_l04Reduce.calls k _ _ y308 t311 _ ?side1 ?side2 A110.out).mono ?_
           (case side1 => exact cz_ (Kd.R_reads' HO310.out).2.2)
           (case side2 => exact (Kd.R_reads' HO310.out).2.1)
           rintro e w135 ⟨v312, rfl, ho0, hb⟩
           refine ⟨_, rfl, ?_⟩
           have n0_ := am_ (Kd.N_elder' (Nx_ HO274.out) (Kd.R_base ho0) hb)
           have n1_ := am_ (Kd.R_elder' (rk_ HO310.out) (Kd.R_base ho0) hb)
           have n2_ := am_ (Kd.R_lower (Kd.R_new' (Kd.R_newM (M := fun k_ => (w.heap.size ≤ k_)) ho0 (below_size (bb_ HB.out)) (fun k_ h_ => h_)) (Kd.R_lt (rk_ HO310.out))) (below_size (bb_ HB.out)))
           have n3_ := am_ (bw_ BK269 hb)
           have n4_ := am_ (bw_ BK270 hb)
           have n5_ := am_ (bw_ BK271 hb)
           have n6_ := am_ (bw_ BK275 hb)
           have n7_ := am_ (below_step (bb_ HB.out) hb)
           clear HO274 HO310 BK269 BK270 BK271 BK275 HB; revert n0_ n1_ n2_ n3_ n4_ n5_ n6_ n7_; intro HO274 HO310 HO313 BK269 BK270 BK271 BK275 HB
           (try clear hb)
           (try clear hb2)
           (try clear hk)
           (try clear hi)
           (try clear ho0)
           have p112 : 0 ≤ (a1_1 : Int) := da_
           have q112 : (a1_1 : Int) < ((t272.length : Int) : Int) := da_
           obtain ⟨go112, co112, eo112, gb112, gl112, cl112, HG112⟩ := Kd.N_form HO274.out (by omega)
           (first | cases eo112 | (injection eo112 with ea_ en_ ec_; (first | subst ea_ | (injection ea_ with ea_; subst ea_)); subst ec_; clear en_))
           have GB112 := am_ gb112
           have GG112 := am_ HG112
           clear gb112 gl112 HG112
           obtain ⟨ce112, hcl112, hM112, hcc112, hfr112⟩ := Kd.N_elem HO274.out [] (a1_1 : Int) p112 q112
           obtain ⟨ua112_0, uc112_0, rfl, ul112_0, ge112_0⟩ := Kd.FK_slice_open hM112
           have hx112_0 := hcc112 0 _ rfl
           have hf112_0 := hfr112 0
           (try simp only [show ((Kd.slice 2 (Kd.int .i64))).sz = 1 from rfl, Nat.mul_one, Nat.add_zero] at hx112_0)
           (try simp only [show ((Kd.slice 2 (Kd.int .i64))).sz = 1 from rfl, Nat.mul_one, Nat.add_zero] at hf112_0)
           (try clear hcl112); (try clear hcc112); (try clear hfr112); (try clear hM112)
           replace p112 := eq_true p112
           replace q112 := eq_true q112
           obtain ⟨Az312_, cz312_, ez312_⟩ := Kd.R_slice HO313.out
           subst ez312_
           have HX136 := am_ (show Kd.N (Kd.slice 2 (Kd.int .i64)) 39 _ w.heap.size (fun k_ => (w.heap.size ≤ k_) ∧ some k_ ≠ (.slice Ao134 y308.length co134 : Value).ownBlock ∧ some k_ ≠ ((.slice Az312_ t311.length cz312_) : Value).ownBlock ∧ k_ ≠ gb269 ∧ k_ ≠ gb270 ∧ k_ ≠ gb271 ∧ k_ ≠ gb275) (.slice (some ⟨go112, 0, none⟩) t272.length co121) t272 from (Kd.N_mono (HO274.out) (fun k_ hk => ⟨hk.1.1.1, ⟨hk.1.2, ⟨hk.2, ⟨hk.1.1.2.1, ⟨hk.1.1.2.2.1, ⟨hk.1.1.2.2.2.1, hk.1.1.2.2.2.2⟩⟩⟩⟩⟩⟩)))
           replace HX136 := am_ (show Kd.N (Kd.slice 2 (Kd.int .i64)) 39 _ w.heap.size (fun k_ => (w.heap.size ≤ k_) ∧ some k_ ≠ (.slice Ao134 y308.length co134 : Value).ownBlock ∧ k_ ≠ gb269 ∧ k_ ≠ gb270 ∧ k_ ≠ gb271 ∧ k_ ≠ gb275) (.slice (some ⟨go112, 0, none⟩) t272.length co121) t272 from Kd.N_mono HX136.out (fun k_ hk => ⟨hk.1, ⟨hk.2.1, ⟨hk.2.2.2.1, ⟨hk.2.2.2.2.1, ⟨hk.2.2.2.2.2.1, hk.2.2.2.2.2.2⟩⟩⟩⟩⟩))
           obtain ⟨ce136, hcl136, hM136, hcc136, hfr136⟩ := Kd.N_elem HX136.out [] (a1_1 : Int) da_ (by have h_ : (a1_1 : Int) < ((t272.length : Int) : Int) := da_; first | exact h_ | (have e_ := (Kd.N_reads' HO274.out).1; omega) | simpa using h_)
           obtain ⟨ua136_0, uc136_0, rfl, ul136_0, ge136_0⟩ := Kd.FK_slice_open hM136
           have HP136 := (Kd.N_seg HX136.out (a1_1 : Int) da_ (by have h_ : (a1_1 : Int) < ((t272.length : Int) : Int) := da_; first | exact h_ | (have e_ := (Kd.N_reads' HO274.out).1; omega) | simpa using h_) (seg := [(.slice Az312_ t311.length cz312_)]) (j := 0) hcl136 hcc136 (show 1 ≤ 1 from by decide) (x' := t311) (Kd.FK_slice_mk (Kd.R_reads' (Kd.R_mono (ok' := (fun k_ => ((fun k_ => (w.heap.size ≤ k_) ∧ some k_ ≠ (.slice Ao134 y308.length co134 : Value).ownBlock ∧ k_ ≠ gb269 ∧ k_ ≠ gb270 ∧ k_ ≠ gb271 ∧ k_ ≠ gb275)) k_ ∧ k_ ≠ go112)) (Kd.R_types (Kd.R_types (Kd.R_types (Kd.R_types (Kd.R_apart' (HO313.out) (Kd.N_typed HO274.out) (by decide)) BK269.out (by decide)) BK270.out (by decide)) BK271.out (by decide)) BK275.out (by decide)) (fun k_ hk => ⟨⟨hk.1.1.1.1.1.1.1, ⟨hk.1.1.1.1.1.2, ⟨hk.1.1.1.2, ⟨hk.1.1.2, ⟨hk.1.2, hk.2⟩⟩⟩⟩⟩, fun e_ => (hk.1.1.1.1.2) (by rw [e_]; rfl)⟩))).2.1 (Kd.R_F (Kd.R_mono (ok' := (fun k_ => ((fun k_ => (w.heap.size ≤ k_) ∧ some k_ ≠ (.slice Ao134 y308.length co134 : Value).ownBlock ∧ k_ ≠ gb269 ∧ k_ ≠ gb270 ∧ k_ ≠ gb271 ∧ k_ ≠ gb275)) k_ ∧ k_ ≠ go112)) (Kd.R_types (Kd.R_types (Kd.R_types (Kd.R_types (Kd.R_apart' (HO313.out) (Kd.N_typed HO274.out) (by decide)) BK269.out (by decide)) BK270.out (by decide)) BK271.out (by decide)) BK275.out (by decide)) (fun k_ hk => ⟨⟨hk.1.1.1.1.1.1.1, ⟨hk.1.1.1.1.1.2, ⟨hk.1.1.1.2, ⟨hk.1.1.2, ⟨hk.1.2, hk.2⟩⟩⟩⟩⟩, fun e_ => (hk.1.1.1.1.2) (by rw [e_]; rfl)⟩)))) (fun _ hk => hk)).1
           (try simp only [show ((Kd.slice 2 (Kd.int .i64))).sz = 1 from rfl, Nat.mul_one, Nat.add_zero] at HP136)
           rw [← Ny314.out] at HP136
           have HQ136 := am_ HP136
           (try clear hcl136); (try clear hcc136); (try clear hfr136); (try clear hM136); (try clear HP136)
           refine hK.out _ _ ⟨bc_ BK275 0, bc_ BK275 1, bc_ BK270 0, bc_ BK270 1, bc_ BK270 2, bc_ BK270 3, bc_ BK269 0, bc_ BK269 1, (cf_ HB hw303_0), (cf_ HB hw307_0)⟩ (fun hHeld => ?_)
           clear hK K
           refine nm_ 92 ?_
           refine pz_ 20 93 (bA_ 22 2097151) HT_ ?_
           refine last_ (i := 21) (N := none) (bA_ 22 4194303) rfl rfl (one_of HT_.out (by kernel_rfl)) (by decide) (fun K hK => ?_)
           refine skip_ (w1 := ?_) (by rfl) rfl ?_ ?_
           rotate_left
           ·go_simp
            rfl
           refine hK.out _ _ ?_
           clear hK K
           refine done_ (done_of HT_.out (by kernel_rfl)) ?_
           have n0_ : Aside0 (Kd.N (Kd.slice 2 (Kd.int .i64)) 39 (w135.setCell ⟨go112, (a1_1 : Int).toNat, none⟩ ((.slice Az312_ t311.length cz312_))) w.heap.size (fun k_ => (w.heap.size ≤ k_) ∧ some k_ ≠ (.slice Ao134 y308.length co134 : Value).ownBlock ∧ k_ ≠ gb269 ∧ k_ ≠ gb270 ∧ k_ ≠ gb271 ∧ k_ ≠ gb275) (.slice (some ⟨go112, 0, none⟩) t272.length co121) y314) := ⟨Nx_ HQ136.out⟩
           have n1_ : Aside0 (Kd.R (Kd.int .i64) 2 (w135.setCell ⟨go112, (a1_1 : Int).toNat, none⟩ ((.slice Az312_ t311.length cz312_))) w.heap.size (fun k_ => (w.heap.size ≤ k_)) (.slice Ao134 y308.length co134) y308) := ⟨rm_ (Kd.R_far (p := ⟨go112, (a1_1 : Int).toNat, none⟩) (Kd.R_types HO310.out GG112.out (by decide)) (fun _ hk => hk.2) ((.slice Az312_ t311.length cz312_))) (fun _ hk => hk.1.1)⟩
           have n2_ : Aside0 ((w135.setCell ⟨go112, (a1_1 : Int).toNat, none⟩ ((.slice Az312_ t311.length cz312_))).heap[gb269]? = some (.cells #[.int .i64 a0_0, .slice (some ad303) l0_1.length c0_1] 28 (0, 0))) := ⟨by (with_reducible repeat (first | refine blk_drewN ?_ _ | refine blk_drew ?_ | refine blk_alloc ?_ _)); refine blk_far ?_ (by have h_ := Kd.N_away (g := gb269) HO274.out (fun _ hk => by first | exact hk.2.2.1 | exact hk.1.2.2.1 | exact hk.1.1.2.2.1 | exact hk.1.1.1.2.2.1 | (simp [hk]; done)); intro e_; exact h_ (by rw [e_]; rfl)) _; (with_reducible repeat (first | refine blk_drewN ?_ _ | refine blk_drew ?_ | refine blk_alloc ?_ _)); exact BK269.out⟩
           have n3_ : Aside0 ((w135.setCell ⟨go112, (a1_1 : Int).toNat, none⟩ ((.slice Az312_ t311.length cz312_))).heap[gb270]? = some (.cells #[.int .i64 a1_0, .int .i64 a1_1, .int .i64 a1_2, .slice A1_3 l1_3.length c1_3] 44 (0, 0))) := ⟨by (with_reducible repeat (first | refine blk_drewN ?_ _ | refine blk_drew ?_ | refine blk_alloc ?_ _)); refine blk_far ?_ (by have h_ := Kd.N_away (g := gb270) HO274.out (fun _ hk => by first | exact hk.2.2.2.1 | exact hk.1.2.2.2.1 | exact hk.1.1.2.2.2.1 | exact hk.1.1.1.2.2.2.1 | (simp [hk]; done)); intro e_; exact h_ (by rw [e_]; rfl)) _; (with_reducible repeat (first | refine blk_drewN ?_ _ | refine blk_drew ?_ | refine blk_alloc ?_ _)); exact BK270.out⟩
           have n4_ : Aside0 ((w135.setCell ⟨go112, (a1_1 : Int).toNat, none⟩ ((.slice Az312_ t311.length cz312_))).heap[gb271]? = some (.cells #[.int .i64 0, .slice none 0 0] 28 (0, 0))) := ⟨by (with_reducible repeat (first | refine blk_drewN ?_ _ | refine blk_drew ?_ | refine blk_alloc ?_ _)); refine blk_far ?_ (by have h_ := Kd.N_away (g := gb271) HO274.out (fun _ hk => by first | exact hk.2.2.2.2.1 | exact hk.1.2.2.2.2.1 | exact hk.1.1.2.2.2.2.1 | exact hk.1.1.1.2.2.2.2.1 | (simp [hk]; done)); intro e_; exact h_ (by rw [e_]; rfl)) _; (with_reducible repeat (first | refine blk_drewN ?_ _ | refine blk_drew ?_ | refine blk_alloc ?_ _)); exact BK271.out⟩
           have n5_ : Aside0 ((w135.setCell ⟨go112, (a1_1 : Int).toNat, none⟩ ((.slice Az312_ t311.length cz312_))).heap[gb275]? = some (.cells #[.int .i64 a0_0, .slice (some ⟨go112, 0, none⟩) t272.length co121] 28 (0, 0))) := ⟨by (with_reducible repeat (first | refine blk_drewN ?_ _ | refine blk_drew ?_ | refine blk_alloc ?_ _)); refine blk_far ?_ (by have h_ := Kd.N_away (g := gb275) HO274.out (fun _ hk => by first | exact hk.2.2.2.2.2 | exact hk.1.2.2.2.2.2 | exact hk.1.1.2.2.2.2.2 | exact hk.1.1.1.2.2.2.2.2 | (simp [hk]; done)); intro e_; exact h_ (by rw [e_]; rfl)) _; (with_reducible repeat (first | refine blk_drewN ?_ _ | refine blk_drew ?_ | refine blk_alloc ?_ _)); exact BK275.out⟩
           have n6_ : Aside0 (Below w.heap.size w (w135.setCell ⟨go112, (a1_1 : Int).toNat, none⟩ ((.slice Az312_ t311.length cz312_)))) := ⟨bb_ HB.out⟩
           (try clear HO274)
           (try clear HO310)
           (try clear BK269)
           (try clear BK270)
           (try clear BK271)
           (try clear BK275)
           (try clear HB)
           generalize (w135.setCell ⟨go112, (a1_1 : Int).toNat, none⟩ ((.slice Az312_ t311.length cz312_))) = w137 at n0_ n1_ n2_ n3_ n4_ n5_ n6_ ⊢
           have HO274 := n0_
           have HO310 := n1_
           have BK269 := n2_
           have BK270 := n3_
           have BK271 := n4_
           have BK275 := n5_
           have HB := n6_
           clear n0_ n1_ n2_ n3_ n4_ n5_ n6_
           have hnb138 := NB275_269.out
           have hnc138 := NB269_275.out
           have hnb139 := NB275_271.out
           have hnc139 := NB271_275.out
           obtain ⟨hcz140_0, hcz140_1, hfz140_0, hfz140_1⟩ := bx2_ BK275
           have hnb141 := NB271_269.out
           have hnc141 := NB269_271.out
           obtain ⟨hcz142_0, hcz142_1, hfz142_0, hfz142_1⟩ := bx2_ BK271
           try go_wp2
           refine bodyPost_ret (results_cell_row rfl _ _ gb271 28 #[.int .i64 a0_0, .slice (some ⟨go112, 0, none⟩) t272.length co121] (0, 0) _ rfl (pu2_ BK271) Try.underlying28 rfl (by kernel_rfl)) rfl ?_
           exact ⟨_, er_, Nx_ (Kd.N_mono (Kd.N_far (p := ⟨gb271, 1, none⟩) (Kd.N_far (p := ⟨gb271, 0, none⟩) (Kd.N_mono HO274.out (fun k_ hk => (⟨hk, hk.2.2.2.2.1⟩ : _ ∧ k_ ≠ gb271))) (fun _ hk => hk.2) (.int .i64 a0_0)) (fun _ hk => hk.2) (.slice (some ⟨go112, 0, none⟩) t272.length co121)) (fun _ hk => hk.1.1)), bb_ HB.out⟩
          ·rw [if_neg c111] at H
           exact absurd H (by simp)
         ·rw [if_neg c109] at H
          exact absurd H (by simp)
        ·rw [if_neg c108] at H
         exact absurd H (by simp)
       ·rw [if_neg c107] at H
        exact absurd H (by simp)
      ·rw [if_neg c106] at H
       exact absurd H (by simp)
     ·rw [if_neg c105] at H
      exact absurd H (by simp)
    ·rw [if_neg c104] at H
     exact absurd H (by simp)
   · exact absurd G_.out (by clear H; omega)

end Go.Proofs.Ytbcdngjajjgmkaa.PFnExactSimplifyPresentation
