/- Written by this session's program out of the kit's print and this session's contracts. -/
import Derived.Test.YtbcdngjajjgmkaaVFnExactApplyTietzePx0
import Derived.Test.YtbcdngjajjgmkaaVFnExactApplyTietzePx4
import Derived.Test.YtbcdngjajjgmkaaVFnExactApplyTietzePx5
import Derived.Test.YtbcdngjajjgmkaaVFnExactApplyTietzePx6
import Derived.Test.YtbcdngjajjgmkaaVFnExactApplyTietzePx7
import Derived.Test.YtbcdngjajjgmkaaVFnExactApplyTietzePx8
namespace Go.Proofs.Ytbcdngjajjgmkaa.PFnExactApplyTietze
open Go.RowKit Go.Proofs.YtbcdngjajjgmkaaW.PrintWords Go.Proofs.YtbcdngjajjgmkaaW.PrintLast Go.Proofs.YtbcdngjajjgmkaaW.PrintMore
set_option linter.unusedVariables false
set_option linter.unusedSimpArgs false

/-! ### spec_l04Move: part 2 -/
set_option maxHeartbeats 8000000 in
set_option maxRecDepth 100000 in
theorem spec_l04Move.calls_2 (k : Nat) (a0_0 : Int) (A0_1 : Option Addr) (c0_1 : Nat) (l0_1 : List (List Int)) (a1_0 : Int) (a1_1 : Int) (a1_2 : Int) (A1_3 : Option Addr) (c1_3 : Nat) (l1_3 : List Int) (r1 : Int) (r2 : List (List Int)) (w : World) (hr0_1 : Kd.C (Kd.slice 2 (Kd.int .i64)) w A0_1 l0_1.length l0_1) (hc0_1 : l0_1.length ≤ c0_1) (hr1_3 : Kd.C (Kd.int .i64) w A1_3 l1_3.length l1_3) (hc1_3 : l1_3.length ≤ c1_3) (h : spec_l04Move.f k a0_0 l0_1 a1_0 a1_1 a1_2 l1_3 = some (r1, r2)) (G_ : Aside0 (¬ a1_0 = 2 ∧ ¬ a1_0 = 1 ∧ ¬ a1_0 = 3)) :
  Calls Try.prog 63 #[.agg #[.int .i64 a0_0, .slice A0_1 l0_1.length c0_1], .agg #[.int .i64 a1_0, .int .i64 a1_1, .int .i64 a1_2, .slice A1_3 l1_3.length c1_3]] w fun e w' => ∃ v1_ : Value, e = .returned (.agg #[.int .i64 r1, v1_]) ∧ Kd.N (Kd.slice 2 (Kd.int .i64)) 39 w' w.heap.size (fun k_ => (w.heap.size ≤ k_)) v1_ r2 ∧ Below w.heap.size w w' := by
 have hu28 := Try.underlying28
 have hu44 := Try.underlying44
 have HR0_1 := am_ hr0_1
 have HC0_1 := am_ hc0_1
 clear hr0_1 hc0_1
 have HR1_3 := am_ hr1_3
 have HC1_3 := am_ hc1_3
 clear hr1_3 hc1_3
 have HB := am_ (Below.refl w.heap.size w)
 have H := h
 unfold spec_l04Move.f at H
 clear h
 replace H := Option.bind_eq_some_iff.mp H
 obtain ⟨t274, A30, H⟩ := H
 replace H : (if a1_0 = 1 then (if 0 ≤ a1_1 then (if a1_1 < (l0_1.length : Int) then ((spec_l04Inverse.f k (rd_L1 l0_1 a1_1)).bind fun t279 => (if a1_1 < (t274.length : Int) then (some (a0_0, (t274.set (a1_1 : Int).toNat t279))) else (none))) else (none)) else (none)) else (if a1_0 = 2 then (if 0 ≤ a1_1 then (if a1_1 < (l0_1.length : Int) then (if ((rd_L1 l0_1 a1_1).length : Int) > 0 then ((some (([] : List Int) : List Int)).bind fun y284 => (if 1 ≤ ((rd_L1 l0_1 a1_1).length : Int) then (if y284.length + ((rd_L1 l0_1 a1_1).drop 1).length < 17592186044416 then ((some (y284 ++ ((rd_L1 l0_1 a1_1).drop 1) : List Int)).bind fun y288 => (if 0 < ((rd_L1 l0_1 a1_1).length : Int) then ((some (([rd (rd_L1 l0_1 a1_1) 0] : List Int) : List Int)).bind fun y292 => (if y288.length + y292.length < 17592186044416 then ((spec_l04Reduce.f k (y288 ++ y292)).bind fun t298 => (if a1_1 < (t274.length : Int) then (some (a0_0, (t274.set (a1_1 : Int).toNat t298))) else (none))) else (none))) else (none))) else (none)) else (none))) else (some (a0_0, t274))) else (none)) else (none)) else (if a1_0 = 3 then ((some (([] : List Int) : List Int)).bind fun y302 => (if 0 ≤ a1_1 then (if a1_1 < (l0_1.length : Int) then (if y302.length + (rd_L1 l0_1 a1_1).length < 17592186044416 then ((some (y302 ++ (rd_L1 l0_1 a1_1) : List Int)).bind fun y306 => (if 0 ≤ a1_2 then (if a1_2 < (l0_1.length : Int) then (if y306.length + (rd_L1 l0_1 a1_2).length < 17592186044416 then ((spec_l04Reduce.f k (y306 ++ (rd_L1 l0_1 a1_2))).bind fun t313 => (if a1_1 < (t274.length : Int) then (some (a0_0, (t274.set (a1_1 : Int).toNat t313))) else (none))) else (none)) else (none)) else (none))) else (none)) else (none)) else (none))) else (if a1_0 = 4 then ((spec_l04Copy.f k l0_1 a1_1).bind fun t317 => (some (a0_0, t317))) else (if a1_0 = 5 then ((spec_l04Remove.f k a0_0 l0_1 a1_1 a1_2).bind fun bt320 => (some (bt320.1, bt320.2))) else ((some (([wrap64 (-(wrap64 (a0_0 + 1)))] : List Int) : List Int)).bind fun y324 => (if y324.length + l1_3.length < 17592186044416 then ((some (([(y324 ++ l1_3)] : List (List Int)) : List (List Int))).bind fun y330 => (if t274.length + y330.length < 5864062014805 then (some (wrap64 (a0_0 + 1), (t274 ++ y330))) else (none))) else (none)))))))) = some (r1, r2) := H
 have A3 := am_ A30
 clear A30
 by_cases c4 : a1_0 = 1
 · exact absurd c4 (by have g_ := G_.out; clear H; omega)
 ·rw [if_neg c4] at H
  have c4b0 : (a1_0 == 1) = false := beq_eq_false_iff_ne.mpr c4
  have c4b1 : (a1_0 != 1) = true := bne_iff_ne.mpr c4
  by_cases c35 : a1_0 = 2
  · exact absurd c35 (by have g_ := G_.out; clear H; omega)
  ·rw [if_neg c35] at H
   have c35b0 : (a1_0 == 2) = false := beq_eq_false_iff_ne.mpr c35
   have c35b1 : (a1_0 != 2) = true := bne_iff_ne.mpr c35
   by_cases c103 : a1_0 = 3
   · exact absurd c103 (by have g_ := G_.out; clear H; omega)
   ·rw [if_neg c103] at H
    have c103b0 : (a1_0 == 3) = false := beq_eq_false_iff_ne.mpr c103
    have c103b1 : (a1_0 != 3) = true := bne_iff_ne.mpr c103
    by_cases c143 : a1_0 = 4
    ·rw [if_pos c143] at H
     have c143b0 : (a1_0 == 4) = true := beq_iff_eq.mpr c143
     have c143b1 : (a1_0 != 4) = false := bne_eq_false_iff_eq.mpr c143
     clear c143
     replace H := Option.bind_eq_some_iff.mp H
     obtain ⟨t317, A1440, H⟩ := H
     replace H : (some (a0_0, t317)) = some (r1, r2) := H
     have A144 := am_ A1440
     clear A1440
     simp only [Option.some.injEq, Prod.mk.injEq] at H
     obtain ⟨rfl, rfl⟩ := H
     go_enter Try.func63, Try.ntmps63
     try go_wp2_with (first | (refine be_ 2 28 #[.int .i64 a0_0, .slice A0_1 l0_1.length c0_1] ?_; intro gb271 hg w145 hbox hb; have n_ := ba0_ HB hbox hb hg; clear  HB hb hbox hg; obtain ⟨HB, BK271, GW271, GE271⟩ := n_) | (refine be_ 3 44 #[.int .i64 a1_0, .int .i64 a1_1, .int .i64 a1_2, .slice A1_3 l1_3.length c1_3] ?_; intro gb272 hg w146 hbox hb; have n_ := ba1_ BK271 HB hbox hb hg; clear BK271 HB hb hbox hg; obtain ⟨BK271, HB, BK272, GW272, GE272, NB271_272, NB272_271⟩ := n_) | (refine be_ 4 28 #[.int .i64 0, .slice none 0 0] ?_; intro gb273 hg w147 hbox hb; have n_ := ba2_ BK271 BK272 HB hbox hb hg; clear BK271 BK272 HB hb hbox hg; obtain ⟨BK271, BK272, HB, BK273, GW273, GE273, NB271_273, NB273_271, NB272_273, NB273_272⟩ := n_))
     have n0_ := am_ (blk_drew BK271.out)
     have n1_ := am_ (blk_drew BK272.out)
     have n2_ := am_ (blk_drew BK273.out)
     have n3_ := am_ (below_drew1 HB.out)
     clear BK271 BK272 BK273 HB; revert n0_ n1_ n2_ n3_; intro BK271 BK272 BK273 HB
     refine start_ (n := 8) (S := fun w' => w'.cell? ⟨gb271, 0, none⟩ = some (.int .i64 a0_0) ∧ w'.cell? ⟨gb271, 1, none⟩ = some (.slice A0_1 l0_1.length c0_1)) (ds := []) (bA_ 8 0) (by kernel_rfl) rfl (by kernel_rfl) ⟨bc_ BK271 0, bc_ BK271 1⟩ (fun hHeld => ?_); refine with_tabW spec_l04Move.tab1 spec_l04Move.bits1 (fun HT_ HW_ => ?_)
     generalize w147.drew = w148 at BK271 BK272 BK273 HB hHeld ⊢
     refine pz_ 0 8 (bA_ 8 1) HT_ ?_
     refine pz_ 2 10 (bA_ 8 5) HT_ ?_
     refine tz_ 1 9 (bA_ 8 7) HT_ HW_ hHeld ?_
     refine tz_ 3 11 (bA_ 8 15) HT_ HW_ hHeld ?_
     refine join_ (σ := Value × Nat) 1 (bA_ 8 127) (fun s_ => [(12, s_.1), (5, .pointer (some ⟨s_.2, 0, none⟩)), (13, .agg #[.int .i64 a0_0, s_.1])]) (fun s_ w' => (w'.cell? ⟨gb271, 0, none⟩ = some (.int .i64 a0_0) ∧ w'.cell? ⟨gb271, 1, none⟩ = some (.slice A0_1 l0_1.length c0_1)) ∧ (Kd.N (Kd.slice 2 (Kd.int .i64)) 39 w' w.heap.size (fun k_ => (w.heap.size ≤ k_) ∧ k_ ≠ gb271 ∧ k_ ≠ gb272 ∧ k_ ≠ gb273 ∧ k_ ≠ s_.2) s_.1 t274) ∧ (w'.heap[gb271]? = some (.cells #[.int .i64 a0_0, .slice A0_1 l0_1.length c0_1] 28 (0, 0))) ∧ (w'.heap[gb272]? = some (.cells #[.int .i64 a1_0, .int .i64 a1_1, .int .i64 a1_2, .slice A1_3 l1_3.length c1_3] 44 (0, 0))) ∧ (w'.heap[gb273]? = some (.cells #[.int .i64 0, .slice none 0 0] 28 (0, 0))) ∧ (w'.heap[s_.2]? = some (.cells #[.int .i64 0, .slice none 0 0] 28 (0, 0))) ∧ (w.heap.size ≤ s_.2) ∧ (w.heap.size ≤ s_.2) ∧ (gb271 ≠ s_.2) ∧ (s_.2 ≠ gb271) ∧ (gb272 ≠ s_.2) ∧ (s_.2 ≠ gb272) ∧ (gb273 ≠ s_.2) ∧ (s_.2 ≠ gb273) ∧ (Below w.heap.size w w')) ?_ ?_
     rotate_left
     ·intro hCont
      refine two_ (i := 4) (j := 6) (Ni := some 12) (Nj := some 5) (bA_ 8 31) (bA_ 8 79) rfl rfl rfl rfl (two_of HT_.out (by kernel_rfl)) (by decide) (by decide) (fun K hK => ?_) (fun K hK => ?_)
      ·skip
       refine goes_ Try.func40 (by kernel_rfl) rfl #[.slice A0_1 l0_1.length c0_1, .int .i64 (-1)] (by rfl) rfl rfl lm_ ?_
       with_reducible refine (spec_l04Copy.calls k _ _ l0_1 (-1) t274 _ ?side1 ?side2 A3.out).mono ?_
       (case side1 => exact cb_ HR0_1 HB)
       (case side2 => exact HC0_1.out)
       rintro e w149 ⟨v275, rfl, ho0, hb⟩
       refine ⟨_, rfl, ?_⟩
       have n0_ := am_ (Kd.N_lower (Kd.N_mono (ok' := fun k_ => (w.heap.size ≤ k_) ∧ k_ ≠ gb271 ∧ k_ ≠ gb272 ∧ k_ ≠ gb273) (Kd.S_N (Kd.S_bound ho0)) (fun k_ hk_ => ⟨(Nat.le_trans (below_size (bb_ HB.out)) hk_.2.1), (Kd.freshB (g := gb271) (o := .cells #[.int .i64 a0_0, .slice A0_1 l0_1.length c0_1] 28 (0, 0)) (bk_ BK271.out) k_ hk_.2.1), (Kd.freshB (g := gb272) (o := .cells #[.int .i64 a1_0, .int .i64 a1_1, .int .i64 a1_2, .slice A1_3 l1_3.length c1_3] 44 (0, 0)) (bk_ BK272.out) k_ hk_.2.1), (Kd.freshB (g := gb273) (o := .cells #[.int .i64 0, .slice none 0 0] 28 (0, 0)) (bk_ BK273.out) k_ hk_.2.1)⟩)) (below_size (bb_ HB.out)))
       have n1_ := am_ (bw_ BK271 hb)
       have n2_ := am_ (bw_ BK272 hb)
       have n3_ := am_ (bw_ BK273 hb)
       have n4_ := am_ (below_step (bb_ HB.out) hb)
       clear BK271 BK272 BK273 HB; revert n0_ n1_ n2_ n3_ n4_; intro HO276 BK271 BK272 BK273 HB
       (try clear hb)
       (try clear hb2)
       (try clear hk)
       (try clear hi)
       (try clear ho0)
       obtain ⟨Ao150, co150, eo150⟩ := Kd.N_slice HO276.out
       (first | subst eo150 | (injection eo150 with f1_ f2_ f3_; have f4_ := f1_.symm; have f5_ := f3_.symm; clear f1_ f2_ f3_; subst f4_; subst f5_))
       refine hK.out _ _ ⟨bc_ BK271 0, bc_ BK271 1⟩ (fun hHeld => ?_)
       clear hK K
       refine nm_ 12 ?_
       refine pz_ 5 13 (bA_ 8 63) HT_ ?_
       refine oz_ 6 5 (bA_ 8 127) HT_ (fun K hK => ?_)
       refine box_step ?hg (N := 5) ?hd (cs := #[.int .i64 0, .slice none 0 0]) (t := 28) ?hr ?_; (case hd => rfl); (case hg => rfl); (case hr => first | (go_simp; done) | (go_simp; rfl))
       intro gb277 hg w151 hbox hb
       have n0_ := am_ (Kd.N_below (Kd.N_elderB (by (with_reducible repeat (first | apply Kd.N_alloc | apply Kd.N_drewN | apply Kd.N_drew)); exact HO276.out) gb277 (Nat.le_of_eq hg.symm)) hb)
       have n1_ := am_ (bw_ BK271 hb)
       have n2_ := am_ (bw_ BK272 hb)
       have n3_ := am_ (bw_ BK273 hb)
       have n4_ := am_ (below_step (bb_ HB.out) hb)
       have n5_ := am_ (hbox)
       have n6_ := gs_ HB hg
       have n7_ := gs_ HB hg
       have n8_ := am_ (nl_ BK271 hg)
       have n9_ := am_ (ng_ BK271 hg)
       have n10_ := am_ (nl_ BK272 hg)
       have n11_ := am_ (ng_ BK272 hg)
       have n12_ := am_ (nl_ BK273 hg)
       have n13_ := am_ (ng_ BK273 hg)
       clear HO276 BK271 BK272 BK273 HB; revert n0_ n1_ n2_ n3_ n4_ n5_ n6_ n7_ n8_ n9_ n10_ n11_ n12_ n13_; intro HO276 BK271 BK272 BK273 HB BK277 GW277 GE277 NB271_277 NB277_271 NB272_277 NB277_272 NB273_277 NB277_273
       clear hb hbox hg
       refine hK.out _ _ ⟨bc_ BK271 0, bc_ BK271 1⟩ (fun hHeld => ?_)
       clear hK K
       refine nm_ 5 ?_
       exact norm_ (by simp only [putAll, Act.put, List.setIfInBounds_toArray, List.set_cons_zero, List.set_cons_succ]) (hCont (.slice Ao150 t274.length co150, gb277) _ ⟨hHeld, (by (with_reducible repeat (first | apply Kd.N_alloc | apply Kd.N_drewN | apply Kd.N_drew)); exact Kd.N_mono HO276.out (fun _ hk => ⟨hk.1.1, ⟨hk.1.2.1, ⟨hk.1.2.2.1, ⟨hk.1.2.2.2, hk.2⟩⟩⟩⟩)), (bk_ BK271.out), (bk_ BK272.out), (bk_ BK273.out), (bk_ BK277.out), GW277.out, GE277.out, NB271_277.out, NB277_271.out, NB272_277.out, NB277_272.out, NB273_277.out, NB277_273.out, (bb_ HB.out)⟩)
      ·skip
       refine box_step ?hg (N := 5) ?hd (cs := #[.int .i64 0, .slice none 0 0]) (t := 28) ?hr ?_; (case hd => rfl); (case hg => rfl); (case hr => first | (go_simp; done) | (go_simp; rfl))
       intro gb277 hg w149 hbox hb
       have n0_ := am_ (bw_ BK271 hb)
       have n1_ := am_ (bw_ BK272 hb)
       have n2_ := am_ (bw_ BK273 hb)
       have n3_ := am_ (below_step (bb_ HB.out) hb)
       have n4_ := am_ (hbox)
       have n5_ := gs_ HB hg
       have n6_ := gs_ HB hg
       have n7_ := am_ (nl_ BK271 hg)
       have n8_ := am_ (ng_ BK271 hg)
       have n9_ := am_ (nl_ BK272 hg)
       have n10_ := am_ (ng_ BK272 hg)
       have n11_ := am_ (nl_ BK273 hg)
       have n12_ := am_ (ng_ BK273 hg)
       clear BK271 BK272 BK273 HB; revert n0_ n1_ n2_ n3_ n4_ n5_ n6_ n7_ n8_ n9_ n10_ n11_ n12_; intro BK271 BK272 BK273 HB BK277 GW277 GE277 NB271_277 NB277_271 NB272_277 NB277_272 NB273_277 NB277_273
       clear hb hbox hg
       refine hK.out _ _ ⟨bc_ BK271 0, bc_ BK271 1⟩ (fun hHeld => ?_)
       clear hK K
       refine nm_ 5 ?_
       refine oz_ 4 12 (bA_ 8 95) HT_ (fun K hK => ?_)
       refine goes_ Try.func40 (by kernel_rfl) rfl #[.slice A0_1 l0_1.length c0_1, .int .i64 (-1)] (by rfl) rfl rfl lm_ ?_
       with_reducible refine (spec_l04Copy.calls k _ _ l0_1 (-1) t274 _ ?side1 ?side2 A3.out).mono ?_
       (case side1 => exact cb_ HR0_1 HB)
       (case side2 => exact HC0_1.out)
       rintro e w150 ⟨v275, rfl, ho0, hb⟩
       refine ⟨_, rfl, ?_⟩
       have n0_ := am_ (Kd.N_lower (Kd.N_mono (ok' := fun k_ => (w.heap.size ≤ k_) ∧ k_ ≠ gb271 ∧ k_ ≠ gb272 ∧ k_ ≠ gb273 ∧ k_ ≠ gb277) (Kd.S_N (Kd.S_bound ho0)) (fun k_ hk_ => ⟨(Nat.le_trans (below_size (bb_ HB.out)) hk_.2.1), (Kd.freshB (g := gb271) (o := .cells #[.int .i64 a0_0, .slice A0_1 l0_1.length c0_1] 28 (0, 0)) (bk_ BK271.out) k_ hk_.2.1), (Kd.freshB (g := gb272) (o := .cells #[.int .i64 a1_0, .int .i64 a1_1, .int .i64 a1_2, .slice A1_3 l1_3.length c1_3] 44 (0, 0)) (bk_ BK272.out) k_ hk_.2.1), (Kd.freshB (g := gb273) (o := .cells #[.int .i64 0, .slice none 0 0] 28 (0, 0)) (bk_ BK273.out) k_ hk_.2.1), (Kd.freshB (g := gb277) (o := .cells #[.int .i64 0, .slice none 0 0] 28 (0, 0)) (bk_ BK277.out) k_ hk_.2.1)⟩)) (below_size (bb_ HB.out)))
       have n1_ := am_ (bw_ BK271 hb)
       have n2_ := am_ (bw_ BK272 hb)
       have n3_ := am_ (bw_ BK273 hb)
       have n4_ := am_ (bw_ BK277 hb)
       have n5_ := am_ (below_step (bb_ HB.out) hb)
       clear BK271 BK272 BK273 BK277 HB; revert n0_ n1_ n2_ n3_ n4_ n5_; intro HO276 BK271 BK272 BK273 BK277 HB
       (try clear hb)
       (try clear hb2)
       (try clear hk)
       (try clear hi)
       (try clear ho0)
       obtain ⟨Ao151, co151, eo151⟩ := Kd.N_slice HO276.out
       (first | subst eo151 | (injection eo151 with f1_ f2_ f3_; have f4_ := f1_.symm; have f5_ := f3_.symm; clear f1_ f2_ f3_; subst f4_; subst f5_))
       refine hK.out _ _ ⟨bc_ BK271 0, bc_ BK271 1⟩ (fun hHeld => ?_)
       clear hK K
       refine nm_ 12 ?_
       refine pz_ 5 13 (bA_ 8 127) HT_ ?_
       exact norm_ (by simp only [putAll, Act.put, List.setIfInBounds_toArray, List.set_cons_zero, List.set_cons_succ]) (hCont (.slice Ao151 t274.length co151, gb277) _ ⟨hHeld, (by (with_reducible repeat (first | apply Kd.N_alloc | apply Kd.N_drewN | apply Kd.N_drew)); exact HO276.out), (bk_ BK271.out), (bk_ BK272.out), (bk_ BK273.out), (bk_ BK277.out), GW277.out, GE277.out, NB271_277.out, NB277_271.out, NB272_277.out, NB277_272.out, NB273_277.out, NB277_273.out, (bb_ HB.out)⟩)
     rintro ⟨v275, gb277⟩ w152 ⟨hS_, h0_, h1_, h2_, h3_, h4_, h5_, h6_, h7_, h8_, h9_, h10_, h11_, h12_, h13_⟩
     have n0_ : Aside0 (Kd.N (Kd.slice 2 (Kd.int .i64)) 39 w152 w.heap.size (fun k_ => (w.heap.size ≤ k_) ∧ k_ ≠ gb271 ∧ k_ ≠ gb272 ∧ k_ ≠ gb273 ∧ k_ ≠ gb277) v275 t274) := ⟨h0_⟩
     have n1_ : Aside0 (w152.heap[gb271]? = some (.cells #[.int .i64 a0_0, .slice A0_1 l0_1.length c0_1] 28 (0, 0))) := ⟨h1_⟩
     have n2_ : Aside0 (w152.heap[gb272]? = some (.cells #[.int .i64 a1_0, .int .i64 a1_1, .int .i64 a1_2, .slice A1_3 l1_3.length c1_3] 44 (0, 0))) := ⟨h2_⟩
     have n3_ : Aside0 (w152.heap[gb273]? = some (.cells #[.int .i64 0, .slice none 0 0] 28 (0, 0))) := ⟨h3_⟩
     have n4_ : Aside0 (w152.heap[gb277]? = some (.cells #[.int .i64 0, .slice none 0 0] 28 (0, 0))) := ⟨h4_⟩
     have n5_ : Aside0 (w.heap.size ≤ gb277) := ⟨h5_⟩
     have n6_ : Aside0 (w.heap.size ≤ gb277) := ⟨h6_⟩
     have n7_ : Aside0 (gb271 ≠ gb277) := ⟨h7_⟩
     have n8_ : Aside0 (gb277 ≠ gb271) := ⟨h8_⟩
     have n9_ : Aside0 (gb272 ≠ gb277) := ⟨h9_⟩
     have n10_ : Aside0 (gb277 ≠ gb272) := ⟨h10_⟩
     have n11_ : Aside0 (gb273 ≠ gb277) := ⟨h11_⟩
     have n12_ : Aside0 (gb277 ≠ gb273) := ⟨h12_⟩
     have n13_ : Aside0 (Below w.heap.size w w152) := ⟨h13_⟩
     clear BK271
     clear BK272
     clear BK273
     clear HB
     clear h0_ h1_ h2_ h3_ h4_ h5_ h6_ h7_ h8_ h9_ h10_ h11_ h12_ h13_
     have HO276 := n0_
     have BK271 := n1_
     have BK272 := n2_
     have BK273 := n3_
     have BK277 := n4_
     have GW277 := n5_
     have GE277 := n6_
     have NB271_277 := n7_
     have NB277_271 := n8_
     have NB272_277 := n9_
     have NB277_272 := n10_
     have NB273_277 := n11_
     have NB277_273 := n12_
     have HB := n13_
     clear n0_ n1_ n2_ n3_ n4_ n5_ n6_ n7_ n8_ n9_ n10_ n11_ n12_ n13_
     have hHeld : w152.cell? ⟨gb271, 0, none⟩ = some (.int .i64 a0_0) ∧ w152.cell? ⟨gb271, 1, none⟩ = some (.slice A0_1 l0_1.length c0_1) := hS_
     obtain ⟨Ao153, co153, eo153⟩ := Kd.N_slice HO276.out
     (first | subst eo153 | (injection eo153 with f1_ f2_ f3_; have f4_ := f1_.symm; have f5_ := f3_.symm; clear f1_ f2_ f3_; subst f4_; subst f5_))
     refine norm_ (a' := ?_) ?_ ?_
     rotate_left
     ·simp only [putAll, Act.put, List.setIfInBounds_toArray, List.set_cons_zero, List.set_cons_succ]
      rfl
     refine one_ (i := 7) (N := none) (bA_ 8 255) rfl rfl (one_of HT_.out (by kernel_rfl)) (by decide) (fun K hK => ?_)
     have hs154 : w152.cell? ⟨gb277, 0, none⟩ = some (.int .i64 0) := bc_ BK277 0
     have hfs154 := blk_frozen BK277.out 0
     have hns154_0 := NB271_277.out
     have hns154_1 := NB272_277.out
     have hns154_2 := NB273_277.out
     have hms154_0 := NB277_271.out
     have hms154_1 := NB277_272.out
     have hms154_2 := NB277_273.out
     have hs155 : w152.cell? ⟨gb277, 1, none⟩ = some (.slice none 0 0) := bc_ BK277 1
     have hfs155 := blk_frozen BK277.out 1
     have hns155_0 := NB271_277.out
     have hns155_1 := NB272_277.out
     have hns155_2 := NB273_277.out
     have hms155_0 := NB277_271.out
     have hms155_1 := NB277_272.out
     have hms155_2 := NB277_273.out
     refine skip_ (w1 := ?_) (by rfl) rfl ?_ ?_
     rotate_left
     ·go_simp
      rfl
     refine hK.out _ _ ⟨((cell_far (p := ⟨gb277, _, none⟩) NB271_277.out _).trans (((cell_far (p := ⟨gb277, _, none⟩) NB271_277.out _).trans (hHeld.1)))), ((cell_far (p := ⟨gb277, _, none⟩) NB271_277.out _).trans (((cell_far (p := ⟨gb277, _, none⟩) NB271_277.out _).trans (hHeld.2))))⟩ (fun hHeld => ?_)
     clear hK K
     refine done_ (done_of HT_.out (by kernel_rfl)) ?_
     have hnb156 := NB272_271.out
     have hnc156 := NB271_272.out
     have hnb157 := NB272_273.out
     have hnc157 := NB273_272.out
     have hnb158 := NB272_277.out
     have hnc158 := NB277_272.out
     obtain ⟨hcz159_0, hcz159_1, hcz159_2, hcz159_3, hfz159_0, hfz159_1, hfz159_2, hfz159_3⟩ := bx4_ BK272
     try go_wp2
     have n0_ : Aside0 (Kd.N (Kd.slice 2 (Kd.int .i64)) 39 ((w152.setCell ⟨gb277, 0, none⟩ (.int .i64 a0_0)).setCell ⟨gb277, 1, none⟩ (.slice Ao153 t274.length co153)) w.heap.size (fun k_ => (w.heap.size ≤ k_) ∧ k_ ≠ gb271 ∧ k_ ≠ gb272 ∧ k_ ≠ gb273 ∧ k_ ≠ gb277) (.slice Ao153 t274.length co153) t274) := ⟨by (with_reducible repeat (first | apply Kd.N_alloc | apply Kd.N_drewN | apply Kd.N_drew)); exact Kd.N_mono (Kd.N_far (p := ⟨gb277, 1, none⟩) (Kd.N_far (p := ⟨gb277, 0, none⟩) (Kd.N_mono HO276.out (fun k_ hk => (⟨hk, hk.2.2.2.2⟩ : _ ∧ k_ ≠ gb277))) (fun _ hk => hk.2) (.int .i64 a0_0)) (fun _ hk => hk.2) (.slice Ao153 t274.length co153)) (fun _ hk => ⟨hk.1.1, ⟨hk.1.2.1, ⟨hk.1.2.2.1, ⟨hk.1.2.2.2.1, hk.1.2.2.2.2⟩⟩⟩⟩)⟩
     have n1_ : Aside0 (((w152.setCell ⟨gb277, 0, none⟩ (.int .i64 a0_0)).setCell ⟨gb277, 1, none⟩ (.slice Ao153 t274.length co153)).heap[gb271]? = some (.cells #[.int .i64 a0_0, .slice A0_1 l0_1.length c0_1] 28 (0, 0))) := ⟨bk_ BK271.out⟩
     have n2_ : Aside0 (((w152.setCell ⟨gb277, 0, none⟩ (.int .i64 a0_0)).setCell ⟨gb277, 1, none⟩ (.slice Ao153 t274.length co153)).heap[gb272]? = some (.cells #[.int .i64 a1_0, .int .i64 a1_1, .int .i64 a1_2, .slice A1_3 l1_3.length c1_3] 44 (0, 0))) := ⟨bk_ BK272.out⟩
     have n3_ : Aside0 (((w152.setCell ⟨gb277, 0, none⟩ (.int .i64 a0_0)).setCell ⟨gb277, 1, none⟩ (.slice Ao153 t274.length co153)).heap[gb273]? = some (.cells #[.int .i64 0, .slice none 0 0] 28 (0, 0))) := ⟨bk_ BK273.out⟩
     have n4_ : Aside0 (((w152.setCell ⟨gb277, 0, none⟩ (.int .i64 a0_0)).setCell ⟨gb277, 1, none⟩ (.slice Ao153 t274.length co153)).heap[gb277]? = some (.cells #[.int .i64 a0_0, .slice Ao153 t274.length co153] 28 (0, 0))) := ⟨by (with_reducible repeat (first | refine blk_drewN ?_ _ | refine blk_drew ?_ | refine blk_alloc ?_ _)); refine blk_put (cs := #[.int .i64 a0_0, .slice none 0 0]) ?_ 1 _ rfl; (with_reducible repeat (first | refine blk_drewN ?_ _ | refine blk_drew ?_ | refine blk_alloc ?_ _)); refine blk_put (cs := #[.int .i64 0, .slice none 0 0]) ?_ 0 _ rfl; (with_reducible repeat (first | refine blk_drewN ?_ _ | refine blk_drew ?_ | refine blk_alloc ?_ _)); exact BK277.out⟩
     have n5_ : Aside0 (Below w.heap.size w ((w152.setCell ⟨gb277, 0, none⟩ (.int .i64 a0_0)).setCell ⟨gb277, 1, none⟩ (.slice Ao153 t274.length co153))) := ⟨bb_ HB.out⟩
     (try clear HO276)
     (try clear BK271)
     (try clear BK272)
     (try clear BK273)
     (try clear BK277)
     (try clear HB)
     generalize ((w152.setCell ⟨gb277, 0, none⟩ (.int .i64 a0_0)).setCell ⟨gb277, 1, none⟩ (.slice Ao153 t274.length co153)) = w160 at n0_ n1_ n2_ n3_ n4_ n5_ ⊢
     have HO276 := n0_
     have BK271 := n1_
     have BK272 := n2_
     have BK273 := n3_
     have BK277 := n4_
     have HB := n5_
     clear n0_ n1_ n2_ n3_ n4_ n5_
     have n0_ := am_ (Kd.N_drew HO276.out)
     have n1_ := am_ (blk_drew BK271.out)
     have n2_ := am_ (blk_drew BK272.out)
     have n3_ := am_ (blk_drew BK273.out)
     have n4_ := am_ (blk_drew BK277.out)
     have n5_ := am_ (below_drew1 HB.out)
     clear HO276 BK271 BK272 BK273 BK277 HB; revert n0_ n1_ n2_ n3_ n4_ n5_; intro HO276 BK271 BK272 BK273 BK277 HB
     refine start_ (n := 9) (S := fun w' => w'.cell? ⟨gb271, 0, none⟩ = some (.int .i64 a0_0) ∧ w'.cell? ⟨gb271, 1, none⟩ = some (.slice A0_1 l0_1.length c0_1) ∧ w'.cell? ⟨gb272, 0, none⟩ = some (.int .i64 a1_0) ∧ w'.cell? ⟨gb272, 1, none⟩ = some (.int .i64 a1_1) ∧ w'.cell? ⟨gb272, 2, none⟩ = some (.int .i64 a1_2) ∧ w'.cell? ⟨gb272, 3, none⟩ = some (.slice A1_3 l1_3.length c1_3)) (ds := []) (bA_ 9 0) (by kernel_rfl) rfl (by kernel_rfl) ⟨bc_ BK271 0, bc_ BK271 1, bc_ BK272 0, bc_ BK272 1, bc_ BK272 2, bc_ BK272 3⟩ (fun hHeld => ?_); refine with_tabW spec_l04Move.tab14 spec_l04Move.bits14 (fun HT_ HW_ => ?_)
     generalize w160.drew = w161 at HO276 BK271 BK272 BK273 BK277 HB hHeld ⊢
     refine pz_ 0 96 (bA_ 9 1) HT_ ?_
     refine pz_ 2 98 (bA_ 9 5) HT_ ?_
     refine pz_ 4 100 (bA_ 9 21) HT_ ?_
     refine tz_ 1 97 (bA_ 9 23) HT_ HW_ hHeld ?_
     refine tz_ 3 99 (bA_ 9 31) HT_ HW_ hHeld ?_
     refine tz_ 5 101 (bA_ 9 63) HT_ HW_ hHeld ?_
     refine oz_ 6 102 (bA_ 9 127) HT_ (fun K hK => ?_)
     refine goes_ Try.func40 (by kernel_rfl) rfl #[.slice A0_1 l0_1.length c0_1, .int .i64 a1_1] (by rfl) rfl rfl lm_ ?_
     with_reducible refine (spec_l04Copy.calls k _ _ l0_1 a1_1 t317 _ ?side1 ?side2 A144.out).mono ?_
     (case side1 => exact cb_ HR0_1 HB)
     (case side2 => exact HC0_1.out)
     rintro e w162 ⟨v318, rfl, ho0, hb⟩
     refine ⟨_, rfl, ?_⟩
     have n0_ := am_ (Kd.N_elder' (by (with_reducible repeat (first | apply Kd.N_alloc | apply Kd.N_drewN | apply Kd.N_drew)); exact HO276.out) (by first | exact Kd.N_base ho0 | exact Kd.S_base ho0 | exact Kd.R_base ho0) hb)
     have n1_ := am_ (Kd.N_lower (Kd.N_mono (ok' := fun k_ => (w.heap.size ≤ k_) ∧ some k_ ≠ (.slice Ao153 t274.length co153 : Value).ownBlock ∧ k_ ≠ gb271 ∧ k_ ≠ gb272 ∧ k_ ≠ gb273 ∧ k_ ≠ gb277) (Kd.S_N (Kd.S_bound ho0)) (fun k_ hk_ => ⟨(Nat.le_trans (below_size (bb_ HB.out)) hk_.2.1), (Kd.fresh' (Kd.N_lt (by (with_reducible repeat (first | apply Kd.N_alloc | apply Kd.N_drewN | apply Kd.N_drew)); exact HO276.out)) k_ hk_.2.1), (Kd.freshB (g := gb271) (o := .cells #[.int .i64 a0_0, .slice A0_1 l0_1.length c0_1] 28 (0, 0)) (bk_ BK271.out) k_ hk_.2.1), (Kd.freshB (g := gb272) (o := .cells #[.int .i64 a1_0, .int .i64 a1_1, .int .i64 a1_2, .slice A1_3 l1_3.length c1_3] 44 (0, 0)) (bk_ BK272.out) k_ hk_.2.1), (Kd.freshB (g := gb273) (o := .cells #[.int .i64 0, .slice none 0 0] 28 (0, 0)) (bk_ BK273.out) k_ hk_.2.1), (Kd.freshB (g := gb277) (o := .cells #[.int .i64 a0_0, .slice Ao153 t274.length co153] 28 (0, 0)) (bk_ BK277.out) k_ hk_.2.1)⟩)) (below_size (bb_ HB.out)))
     have n2_ := am_ (bw_ BK271 hb)
     have n3_ := am_ (bw_ BK272 hb)
     have n4_ := am_ (bw_ BK273 hb)
     have n5_ := am_ (bw_ BK277 hb)
     have n6_ := am_ (below_step (bb_ HB.out) hb)
     clear HO276 BK271 BK272 BK273 BK277 HB; revert n0_ n1_ n2_ n3_ n4_ n5_ n6_; intro HO276 HO319 BK271 BK272 BK273 BK277 HB
     (try clear hb)
     (try clear hb2)
     (try clear hk)
     (try clear hi)
     (try clear ho0)
     obtain ⟨Ao163, co163, eo163⟩ := Kd.N_slice HO319.out
     (first | subst eo163 | (injection eo163 with f1_ f2_ f3_; have f4_ := f1_.symm; have f5_ := f3_.symm; clear f1_ f2_ f3_; subst f4_; subst f5_))
     refine hK.out _ _ ⟨bc_ BK271 0, bc_ BK271 1, bc_ BK272 0, bc_ BK272 1, bc_ BK272 2, bc_ BK272 3⟩ (fun hHeld => ?_)
     clear hK K
     refine nm_ 102 ?_
     refine pz_ 7 103 (bA_ 9 255) HT_ ?_
     refine one_ (i := 8) (N := none) (bA_ 9 511) rfl rfl (one_of HT_.out (by kernel_rfl)) (by decide) (fun K hK => ?_)
     have hs164 : w162.cell? ⟨gb273, 0, none⟩ = some (.int .i64 0) := bc_ BK273 0
     have hfs164 := blk_frozen BK273.out 0
     have hns164_0 := NB271_273.out
     have hns164_1 := NB272_273.out
     have hns164_3 := NB277_273.out
     have hms164_0 := NB273_271.out
     have hms164_1 := NB273_272.out
     have hms164_3 := NB273_277.out
     have hs165 : w162.cell? ⟨gb273, 1, none⟩ = some (.slice none 0 0) := bc_ BK273 1
     have hfs165 := blk_frozen BK273.out 1
     have hns165_0 := NB271_273.out
     have hns165_1 := NB272_273.out
     have hns165_3 := NB277_273.out
     have hms165_0 := NB273_271.out
     have hms165_1 := NB273_272.out
     have hms165_3 := NB273_277.out
     refine skip_ (w1 := ?_) (by rfl) rfl ?_ ?_
     rotate_left
     ·go_simp
      rfl
     refine hK.out _ _ ⟨((cell_far (p := ⟨gb273, _, none⟩) NB271_273.out _).trans (((cell_far (p := ⟨gb273, _, none⟩) NB271_273.out _).trans (hHeld.1)))), ((cell_far (p := ⟨gb273, _, none⟩) NB271_273.out _).trans (((cell_far (p := ⟨gb273, _, none⟩) NB271_273.out _).trans (hHeld.2.1)))), ((cell_far (p := ⟨gb273, _, none⟩) NB272_273.out _).trans (((cell_far (p := ⟨gb273, _, none⟩) NB272_273.out _).trans (hHeld.2.2.1)))), ((cell_far (p := ⟨gb273, _, none⟩) NB272_273.out _).trans (((cell_far (p := ⟨gb273, _, none⟩) NB272_273.out _).trans (hHeld.2.2.2.1)))), ((cell_far (p := ⟨gb273, _, none⟩) NB272_273.out _).trans (((cell_far (p := ⟨gb273, _, none⟩) NB272_273.out _).trans (hHeld.2.2.2.2.1)))), ((cell_far (p := ⟨gb273, _, none⟩) NB272_273.out _).trans (((cell_far (p := ⟨gb273, _, none⟩) NB272_273.out _).trans (hHeld.2.2.2.2.2))))⟩ (fun hHeld => ?_)
     clear hK K
     refine done_ (done_of HT_.out (by kernel_rfl)) ?_
     try go_wp2
     refine bodyPost_ret (results_cell_row rfl _ _ gb273 28 #[.int .i64 a0_0, .slice Ao163 t317.length co163] (0, 0) _ rfl (by (with_reducible repeat (first | refine blk_drewN ?_ _ | refine blk_drew ?_ | refine blk_alloc ?_ _)); refine blk_put (cs := #[.int .i64 a0_0, .slice none 0 0]) ?_ 1 _ rfl; (with_reducible repeat (first | refine blk_drewN ?_ _ | refine blk_drew ?_ | refine blk_alloc ?_ _)); refine blk_put (cs := #[.int .i64 0, .slice none 0 0]) ?_ 0 _ rfl; (with_reducible repeat (first | refine blk_drewN ?_ _ | refine blk_drew ?_ | refine blk_alloc ?_ _)); exact BK273.out) Try.underlying28 rfl (by kernel_rfl)) rfl ?_
     exact ⟨_, by first | rfl | (simp [errW_none, errW_some] <;> rfl) | (simp [*, errW_none, errW_some] <;> rfl), by (with_reducible repeat (first | apply Kd.N_alloc | apply Kd.N_drewN | apply Kd.N_drew)); exact Kd.N_mono (Kd.N_far (p := ⟨gb273, 1, none⟩) (Kd.N_far (p := ⟨gb273, 0, none⟩) (Kd.N_mono HO319.out (fun k_ hk => (⟨hk, hk.2.2.2.2.1⟩ : _ ∧ k_ ≠ gb273))) (fun _ hk => hk.2) (.int .i64 a0_0)) (fun _ hk => hk.2) (.slice Ao163 t317.length co163)) (fun _ hk => hk.1.1), bb_ HB.out⟩
    ·rw [if_neg c143] at H
     have c143b0 : (a1_0 == 4) = false := beq_eq_false_iff_ne.mpr c143
     have c143b1 : (a1_0 != 4) = true := bne_iff_ne.mpr c143
     by_cases c166 : a1_0 = 5
     ·rw [if_pos c166] at H
      have c166b0 : (a1_0 == 5) = true := beq_iff_eq.mpr c166
      have c166b1 : (a1_0 != 5) = false := bne_eq_false_iff_eq.mpr c166
      clear c166
      replace H := Option.bind_eq_some_iff.mp H
      obtain ⟨⟨t320, t321⟩, A1670, H⟩ := H
      replace H : (some (t320, t321)) = some (r1, r2) := H
      have A167 := am_ A1670
      clear A1670
      simp only [Option.some.injEq, Prod.mk.injEq] at H
      obtain ⟨rfl, rfl⟩ := H
      go_enter Try.func63, Try.ntmps63
      try go_wp2_with (first | (refine be_ 2 28 #[.int .i64 a0_0, .slice A0_1 l0_1.length c0_1] ?_; intro gb271 hg w168 hbox hb; have n_ := ba0_ HB hbox hb hg; clear  HB hb hbox hg; obtain ⟨HB, BK271, GW271, GE271⟩ := n_) | (refine be_ 3 44 #[.int .i64 a1_0, .int .i64 a1_1, .int .i64 a1_2, .slice A1_3 l1_3.length c1_3] ?_; intro gb272 hg w169 hbox hb; have n_ := ba1_ BK271 HB hbox hb hg; clear BK271 HB hb hbox hg; obtain ⟨BK271, HB, BK272, GW272, GE272, NB271_272, NB272_271⟩ := n_) | (refine be_ 4 28 #[.int .i64 0, .slice none 0 0] ?_; intro gb273 hg w170 hbox hb; have n_ := ba2_ BK271 BK272 HB hbox hb hg; clear BK271 BK272 HB hb hbox hg; obtain ⟨BK271, BK272, HB, BK273, GW273, GE273, NB271_273, NB273_271, NB272_273, NB273_272⟩ := n_))
      have n0_ := am_ (blk_drew BK271.out)
      have n1_ := am_ (blk_drew BK272.out)
      have n2_ := am_ (blk_drew BK273.out)
      have n3_ := am_ (below_drew1 HB.out)
      clear BK271 BK272 BK273 HB; revert n0_ n1_ n2_ n3_; intro BK271 BK272 BK273 HB
      refine start_ (n := 8) (S := fun w' => w'.cell? ⟨gb271, 0, none⟩ = some (.int .i64 a0_0) ∧ w'.cell? ⟨gb271, 1, none⟩ = some (.slice A0_1 l0_1.length c0_1)) (ds := []) (bA_ 8 0) (by kernel_rfl) rfl (by kernel_rfl) ⟨bc_ BK271 0, bc_ BK271 1⟩ (fun hHeld => ?_); refine with_tabW spec_l04Move.tab1 spec_l04Move.bits1 (fun HT_ HW_ => ?_)
      generalize w170.drew = w171 at BK271 BK272 BK273 HB hHeld ⊢
      refine pz_ 0 8 (bA_ 8 1) HT_ ?_
      refine pz_ 2 10 (bA_ 8 5) HT_ ?_
      refine tz_ 1 9 (bA_ 8 7) HT_ HW_ hHeld ?_
      refine tz_ 3 11 (bA_ 8 15) HT_ HW_ hHeld ?_
      refine join_ (σ := Value × Nat) 1 (bA_ 8 127) (fun s_ => [(12, s_.1), (5, .pointer (some ⟨s_.2, 0, none⟩)), (13, .agg #[.int .i64 a0_0, s_.1])]) (fun s_ w' => (w'.cell? ⟨gb271, 0, none⟩ = some (.int .i64 a0_0) ∧ w'.cell? ⟨gb271, 1, none⟩ = some (.slice A0_1 l0_1.length c0_1)) ∧ (Kd.N (Kd.slice 2 (Kd.int .i64)) 39 w' w.heap.size (fun k_ => (w.heap.size ≤ k_) ∧ k_ ≠ gb271 ∧ k_ ≠ gb272 ∧ k_ ≠ gb273 ∧ k_ ≠ s_.2) s_.1 t274) ∧ (w'.heap[gb271]? = some (.cells #[.int .i64 a0_0, .slice A0_1 l0_1.length c0_1] 28 (0, 0))) ∧ (w'.heap[gb272]? = some (.cells #[.int .i64 a1_0, .int .i64 a1_1, .int .i64 a1_2, .slice A1_3 l1_3.length c1_3] 44 (0, 0))) ∧ (w'.heap[gb273]? = some (.cells #[.int .i64 0, .slice none 0 0] 28 (0, 0))) ∧ (w'.heap[s_.2]? = some (.cells #[.int .i64 0, .slice none 0 0] 28 (0, 0))) ∧ (w.heap.size ≤ s_.2) ∧ (w.heap.size ≤ s_.2) ∧ (gb271 ≠ s_.2) ∧ (s_.2 ≠ gb271) ∧ (gb272 ≠ s_.2) ∧ (s_.2 ≠ gb272) ∧ (gb273 ≠ s_.2) ∧ (s_.2 ≠ gb273) ∧ (Below w.heap.size w w')) ?_ ?_
      rotate_left
      ·intro hCont
       refine two_ (i := 4) (j := 6) (Ni := some 12) (Nj := some 5) (bA_ 8 31) (bA_ 8 79) rfl rfl rfl rfl (two_of HT_.out (by kernel_rfl)) (by decide) (by decide) (fun K hK => ?_) (fun K hK => ?_)
       ·skip
        refine goes_ Try.func40 (by kernel_rfl) rfl #[.slice A0_1 l0_1.length c0_1, .int .i64 (-1)] (by rfl) rfl rfl lm_ ?_
        with_reducible refine (spec_l04Copy.calls k _ _ l0_1 (-1) t274 _ ?side1 ?side2 A3.out).mono ?_
        (case side1 => exact cb_ HR0_1 HB)
        (case side2 => exact HC0_1.out)
        rintro e w172 ⟨v275, rfl, ho0, hb⟩
        refine ⟨_, rfl, ?_⟩
        have n0_ := am_ (Kd.N_lower (Kd.N_mono (ok' := fun k_ => (w.heap.size ≤ k_) ∧ k_ ≠ gb271 ∧ k_ ≠ gb272 ∧ k_ ≠ gb273) (Kd.S_N (Kd.S_bound ho0)) (fun k_ hk_ => ⟨(Nat.le_trans (below_size (bb_ HB.out)) hk_.2.1), (Kd.freshB (g := gb271) (o := .cells #[.int .i64 a0_0, .slice A0_1 l0_1.length c0_1] 28 (0, 0)) (bk_ BK271.out) k_ hk_.2.1), (Kd.freshB (g := gb272) (o := .cells #[.int .i64 a1_0, .int .i64 a1_1, .int .i64 a1_2, .slice A1_3 l1_3.length c1_3] 44 (0, 0)) (bk_ BK272.out) k_ hk_.2.1), (Kd.freshB (g := gb273) (o := .cells #[.int .i64 0, .slice none 0 0] 28 (0, 0)) (bk_ BK273.out) k_ hk_.2.1)⟩)) (below_size (bb_ HB.out)))
        have n1_ := am_ (bw_ BK271 hb)
        have n2_ := am_ (bw_ BK272 hb)
        have n3_ := am_ (bw_ BK273 hb)
        have n4_ := am_ (below_step (bb_ HB.out) hb)
        clear BK271 BK272 BK273 HB; revert n0_ n1_ n2_ n3_ n4_; intro HO276 BK271 BK272 BK273 HB
        (try clear hb)
        (try clear hb2)
        (try clear hk)
        (try clear hi)
        (try clear ho0)
        obtain ⟨Ao173, co173, eo173⟩ := Kd.N_slice HO276.out
        (first | subst eo173 | (injection eo173 with f1_ f2_ f3_; have f4_ := f1_.symm; have f5_ := f3_.symm; clear f1_ f2_ f3_; subst f4_; subst f5_))
        refine hK.out _ _ ⟨bc_ BK271 0, bc_ BK271 1⟩ (fun hHeld => ?_)
        clear hK K
        refine nm_ 12 ?_
        refine pz_ 5 13 (bA_ 8 63) HT_ ?_
        refine oz_ 6 5 (bA_ 8 127) HT_ (fun K hK => ?_)
        refine box_step ?hg (N := 5) ?hd (cs := #[.int .i64 0, .slice none 0 0]) (t := 28) ?hr ?_; (case hd => rfl); (case hg => rfl); (case hr => first | (go_simp; done) | (go_simp; rfl))
        intro gb277 hg w174 hbox hb
        have n0_ := am_ (Kd.N_below (Kd.N_elderB (by (with_reducible repeat (first | apply Kd.N_alloc | apply Kd.N_drewN | apply Kd.N_drew)); exact HO276.out) gb277 (Nat.le_of_eq hg.symm)) hb)
        have n1_ := am_ (bw_ BK271 hb)
        have n2_ := am_ (bw_ BK272 hb)
        have n3_ := am_ (bw_ BK273 hb)
        have n4_ := am_ (below_step (bb_ HB.out) hb)
        have n5_ := am_ (hbox)
        have n6_ := gs_ HB hg
        have n7_ := gs_ HB hg
        have n8_ := am_ (nl_ BK271 hg)
        have n9_ := am_ (ng_ BK271 hg)
        have n10_ := am_ (nl_ BK272 hg)
        have n11_ := am_ (ng_ BK272 hg)
        have n12_ := am_ (nl_ BK273 hg)
        have n13_ := am_ (ng_ BK273 hg)
        clear HO276 BK271 BK272 BK273 HB; revert n0_ n1_ n2_ n3_ n4_ n5_ n6_ n7_ n8_ n9_ n10_ n11_ n12_ n13_; intro HO276 BK271 BK272 BK273 HB BK277 GW277 GE277 NB271_277 NB277_271 NB272_277 NB277_272 NB273_277 NB277_273
        clear hb hbox hg
        refine hK.out _ _ ⟨bc_ BK271 0, bc_ BK271 1⟩ (fun hHeld => ?_)
        clear hK K
        refine nm_ 5 ?_
        exact norm_ (by simp only [putAll, Act.put, List.setIfInBounds_toArray, List.set_cons_zero, List.set_cons_succ]) (hCont (.slice Ao173 t274.length co173, gb277) _ ⟨hHeld, (by (with_reducible repeat (first | apply Kd.N_alloc | apply Kd.N_drewN | apply Kd.N_drew)); exact Kd.N_mono HO276.out (fun _ hk => ⟨hk.1.1, ⟨hk.1.2.1, ⟨hk.1.2.2.1, ⟨hk.1.2.2.2, hk.2⟩⟩⟩⟩)), (bk_ BK271.out), (bk_ BK272.out), (bk_ BK273.out), (bk_ BK277.out), GW277.out, GE277.out, NB271_277.out, NB277_271.out, NB272_277.out, NB277_272.out, NB273_277.out, NB277_273.out, (bb_ HB.out)⟩)
       ·skip
        refine box_step ?hg (N := 5) ?hd (cs := #[.int .i64 0, .slice none 0 0]) (t := 28) ?hr ?_; (case hd => rfl); (case hg => rfl); (case hr => first | (go_simp; done) | (go_simp; rfl))
        intro gb277 hg w172 hbox hb
        have n0_ := am_ (bw_ BK271 hb)
        have n1_ := am_ (bw_ BK272 hb)
        have n2_ := am_ (bw_ BK273 hb)
        have n3_ := am_ (below_step (bb_ HB.out) hb)
        have n4_ := am_ (hbox)
        have n5_ := gs_ HB hg
        have n6_ := gs_ HB hg
        have n7_ := am_ (nl_ BK271 hg)
        have n8_ := am_ (ng_ BK271 hg)
        have n9_ := am_ (nl_ BK272 hg)
        have n10_ := am_ (ng_ BK272 hg)
        have n11_ := am_ (nl_ BK273 hg)
        have n12_ := am_ (ng_ BK273 hg)
        clear BK271 BK272 BK273 HB; revert n0_ n1_ n2_ n3_ n4_ n5_ n6_ n7_ n8_ n9_ n10_ n11_ n12_; intro BK271 BK272 BK273 HB BK277 GW277 GE277 NB271_277 NB277_271 NB272_277 NB277_272 NB273_277 NB277_273
        clear hb hbox hg
        refine hK.out _ _ ⟨bc_ BK271 0, bc_ BK271 1⟩ (fun hHeld => ?_)
        clear hK K
        refine nm_ 5 ?_
        refine oz_ 4 12 (bA_ 8 95) HT_ (fun K hK => ?_)
        refine goes_ Try.func40 (by kernel_rfl) rfl #[.slice A0_1 l0_1.length c0_1, .int .i64 (-1)] (by rfl) rfl rfl lm_ ?_
        with_reducible refine (spec_l04Copy.calls k _ _ l0_1 (-1) t274 _ ?side1 ?side2 A3.out).mono ?_
        (case side1 => exact cb_ HR0_1 HB)
        (case side2 => exact HC0_1.out)
        rintro e w173 ⟨v275, rfl, ho0, hb⟩
        refine ⟨_, rfl, ?_⟩
        have n0_ := am_ (Kd.N_lower (Kd.N_mono (ok' := fun k_ => (w.heap.size ≤ k_) ∧ k_ ≠ gb271 ∧ k_ ≠ gb272 ∧ k_ ≠ gb273 ∧ k_ ≠ gb277) (Kd.S_N (Kd.S_bound ho0)) (fun k_ hk_ => ⟨(Nat.le_trans (below_size (bb_ HB.out)) hk_.2.1), (Kd.freshB (g := gb271) (o := .cells #[.int .i64 a0_0, .slice A0_1 l0_1.length c0_1] 28 (0, 0)) (bk_ BK271.out) k_ hk_.2.1), (Kd.freshB (g := gb272) (o := .cells #[.int .i64 a1_0, .int .i64 a1_1, .int .i64 a1_2, .slice A1_3 l1_3.length c1_3] 44 (0, 0)) (bk_ BK272.out) k_ hk_.2.1), (Kd.freshB (g := gb273) (o := .cells #[.int .i64 0, .slice none 0 0] 28 (0, 0)) (bk_ BK273.out) k_ hk_.2.1), (Kd.freshB (g := gb277) (o := .cells #[.int .i64 0, .slice none 0 0] 28 (0, 0)) (bk_ BK277.out) k_ hk_.2.1)⟩)) (below_size (bb_ HB.out)))
        have n1_ := am_ (bw_ BK271 hb)
        have n2_ := am_ (bw_ BK272 hb)
        have n3_ := am_ (bw_ BK273 hb)
        have n4_ := am_ (bw_ BK277 hb)
        have n5_ := am_ (below_step (bb_ HB.out) hb)
        clear BK271 BK272 BK273 BK277 HB; revert n0_ n1_ n2_ n3_ n4_ n5_; intro HO276 BK271 BK272 BK273 BK277 HB
        (try clear hb)
        (try clear hb2)
        (try clear hk)
        (try clear hi)
        (try clear ho0)
        obtain ⟨Ao174, co174, eo174⟩ := Kd.N_slice HO276.out
        (first | subst eo174 | (injection eo174 with f1_ f2_ f3_; have f4_ := f1_.symm; have f5_ := f3_.symm; clear f1_ f2_ f3_; subst f4_; subst f5_))
        refine hK.out _ _ ⟨bc_ BK271 0, bc_ BK271 1⟩ (fun hHeld => ?_)
        clear hK K
        refine nm_ 12 ?_
        refine pz_ 5 13 (bA_ 8 127) HT_ ?_
        exact norm_ (by simp only [putAll, Act.put, List.setIfInBounds_toArray, List.set_cons_zero, List.set_cons_succ]) (hCont (.slice Ao174 t274.length co174, gb277) _ ⟨hHeld, (by (with_reducible repeat (first | apply Kd.N_alloc | apply Kd.N_drewN | apply Kd.N_drew)); exact HO276.out), (bk_ BK271.out), (bk_ BK272.out), (bk_ BK273.out), (bk_ BK277.out), GW277.out, GE277.out, NB271_277.out, NB277_271.out, NB272_277.out, NB277_272.out, NB273_277.out, NB277_273.out, (bb_ HB.out)⟩)
      rintro ⟨v275, gb277⟩ w175 ⟨hS_, h0_, h1_, h2_, h3_, h4_, h5_, h6_, h7_, h8_, h9_, h10_, h11_, h12_, h13_⟩
      have n0_ : Aside0 (Kd.N (Kd.slice 2 (Kd.int .i64)) 39 w175 w.heap.size (fun k_ => (w.heap.size ≤ k_) ∧ k_ ≠ gb271 ∧ k_ ≠ gb272 ∧ k_ ≠ gb273 ∧ k_ ≠ gb277) v275 t274) := ⟨h0_⟩
      have n1_ : Aside0 (w175.heap[gb271]? = some (.cells #[.int .i64 a0_0, .slice A0_1 l0_1.length c0_1] 28 (0, 0))) := ⟨h1_⟩
      have n2_ : Aside0 (w175.heap[gb272]? = some (.cells #[.int .i64 a1_0, .int .i64 a1_1, .int .i64 a1_2, .slice A1_3 l1_3.length c1_3] 44 (0, 0))) := ⟨h2_⟩
      have n3_ : Aside0 (w175.heap[gb273]? = some (.cells #[.int .i64 0, .slice none 0 0] 28 (0, 0))) := ⟨h3_⟩
      have n4_ : Aside0 (w175.heap[gb277]? = some (.cells #[.int .i64 0, .slice none 0 0] 28 (0, 0))) := ⟨h4_⟩
      have n5_ : Aside0 (w.heap.size ≤ gb277) := ⟨h5_⟩
      have n6_ : Aside0 (w.heap.size ≤ gb277) := ⟨h6_⟩
      have n7_ : Aside0 (gb271 ≠ gb277) := ⟨h7_⟩
      have n8_ : Aside0 (gb277 ≠ gb271) := ⟨h8_⟩
      have n9_ : Aside0 (gb272 ≠ gb277) := ⟨h9_⟩
      have n10_ : Aside0 (gb277 ≠ gb272) := ⟨h10_⟩
      have n11_ : Aside0 (gb273 ≠ gb277) := ⟨h11_⟩
      have n12_ : Aside0 (gb277 ≠ gb273) := ⟨h12_⟩
      have n13_ : Aside0 (Below w.heap.size w w175) := ⟨h13_⟩
      clear BK271
      clear BK272
      clear BK273
      clear HB
      clear h0_ h1_ h2_ h3_ h4_ h5_ h6_ h7_ h8_ h9_ h10_ h11_ h12_ h13_
      have HO276 := n0_
      have BK271 := n1_
      have BK272 := n2_
      have BK273 := n3_
      have BK277 := n4_
      have GW277 := n5_
      have GE277 := n6_
      have NB271_277 := n7_
      have NB277_271 := n8_
      have NB272_277 := n9_
      have NB277_272 := n10_
      have NB273_277 := n11_
      have NB277_273 := n12_
      have HB := n13_
      clear n0_ n1_ n2_ n3_ n4_ n5_ n6_ n7_ n8_ n9_ n10_ n11_ n12_ n13_
      have hHeld : w175.cell? ⟨gb271, 0, none⟩ = some (.int .i64 a0_0) ∧ w175.cell? ⟨gb271, 1, none⟩ = some (.slice A0_1 l0_1.length c0_1) := hS_
      obtain ⟨Ao176, co176, eo176⟩ := Kd.N_slice HO276.out
      (first | subst eo176 | (injection eo176 with f1_ f2_ f3_; have f4_ := f1_.symm; have f5_ := f3_.symm; clear f1_ f2_ f3_; subst f4_; subst f5_))
      refine norm_ (a' := ?_) ?_ ?_
      rotate_left
      ·simp only [putAll, Act.put, List.setIfInBounds_toArray, List.set_cons_zero, List.set_cons_succ]
       rfl
      refine one_ (i := 7) (N := none) (bA_ 8 255) rfl rfl (one_of HT_.out (by kernel_rfl)) (by decide) (fun K hK => ?_)
      have hs177 : w175.cell? ⟨gb277, 0, none⟩ = some (.int .i64 0) := bc_ BK277 0
      have hfs177 := blk_frozen BK277.out 0
      have hns177_0 := NB271_277.out
      have hns177_1 := NB272_277.out
      have hns177_2 := NB273_277.out
      have hms177_0 := NB277_271.out
      have hms177_1 := NB277_272.out
      have hms177_2 := NB277_273.out
      have hs178 : w175.cell? ⟨gb277, 1, none⟩ = some (.slice none 0 0) := bc_ BK277 1
      have hfs178 := blk_frozen BK277.out 1
      have hns178_0 := NB271_277.out
      have hns178_1 := NB272_277.out
      have hns178_2 := NB273_277.out
      have hms178_0 := NB277_271.out
      have hms178_1 := NB277_272.out
      have hms178_2 := NB277_273.out
      refine skip_ (w1 := ?_) (by rfl) rfl ?_ ?_
      rotate_left
      ·go_simp
       rfl
      refine hK.out _ _ ⟨((cell_far (p := ⟨gb277, _, none⟩) NB271_277.out _).trans (((cell_far (p := ⟨gb277, _, none⟩) NB271_277.out _).trans (hHeld.1)))), ((cell_far (p := ⟨gb277, _, none⟩) NB271_277.out _).trans (((cell_far (p := ⟨gb277, _, none⟩) NB271_277.out _).trans (hHeld.2))))⟩ (fun hHeld => ?_)
      clear hK K
      refine done_ (done_of HT_.out (by kernel_rfl)) ?_
      have hnb179 := NB272_271.out
      have hnc179 := NB271_272.out
      have hnb180 := NB272_273.out
      have hnc180 := NB273_272.out
      have hnb181 := NB272_277.out
      have hnc181 := NB277_272.out
      obtain ⟨hcz182_0, hcz182_1, hcz182_2, hcz182_3, hfz182_0, hfz182_1, hfz182_2, hfz182_3⟩ := bx4_ BK272
      have hnb183 := NB271_273.out
      have hnc183 := NB273_271.out
      have hnb184 := NB271_277.out
      have hnc184 := NB277_271.out
      obtain ⟨hcz185_0, hcz185_1, hfz185_0, hfz185_1⟩ := bx2_ BK271
      try go_wp2_with (first | ((with_reducible refine gate_callee (f := 97) rfl ?_); refine goesL_ (some 111) rfl rfl Try.func97 (by kernel_rfl) rfl #[.agg #[.int .i64 a0_0, .slice A0_1 l0_1.length c0_1], .int .i64 a1_1, .int .i64 a1_2] rfl lm_ ?_; (with_reducible refine (spec_l04Remove.calls k a0_0 _ _ l0_1 a1_1 a1_2 t320 t321 _ ?side1 ?side2 A167.out).mono ?_); (case side1 => exact Kd.C_below HR0_1.out (bb_ HB.out)); (case side2 => exact HC0_1.out); rintro e w186 ⟨v322, rfl, ho0, hb⟩; refine ⟨_, rfl, ?_⟩; have n0_ := am_ (Kd.N_elder' (by (with_reducible repeat (first | apply Kd.N_alloc | apply Kd.N_drewN | apply Kd.N_drew)); exact (Kd.N_mono (Kd.N_far (p := ⟨gb277, 1, none⟩) (Kd.N_far (p := ⟨gb277, 0, none⟩) (Kd.N_mono HO276.out (fun k_ hk => (⟨hk, hk.2.2.2.2⟩ : _ ∧ k_ ≠ gb277))) (fun _ hk => hk.2) (.int .i64 a0_0)) (fun _ hk => hk.2) (.slice Ao176 t274.length co176)) (fun _ h_ => h_.1))) (by first | exact Kd.N_base ho0 | exact Kd.S_base ho0 | exact Kd.R_base ho0) hb); have n1_ := am_ (Kd.N_lower (Kd.N_mono (ok' := fun k_ => (w.heap.size ≤ k_) ∧ some k_ ≠ (.slice Ao176 t274.length co176 : Value).ownBlock ∧ k_ ≠ gb271 ∧ k_ ≠ gb272 ∧ k_ ≠ gb273 ∧ k_ ≠ gb277) (Kd.S_N (Kd.S_bound ho0)) (fun k_ hk_ => ⟨(Nat.le_trans (below_size (bb_ HB.out)) hk_.2.1), (Kd.fresh' (Kd.N_lt (by (with_reducible repeat (first | apply Kd.N_alloc | apply Kd.N_drewN | apply Kd.N_drew)); exact (Kd.N_mono (Kd.N_far (p := ⟨gb277, 1, none⟩) (Kd.N_far (p := ⟨gb277, 0, none⟩) (Kd.N_mono HO276.out (fun k_ hk => (⟨hk, hk.2.2.2.2⟩ : _ ∧ k_ ≠ gb277))) (fun _ hk => hk.2) (.int .i64 a0_0)) (fun _ hk => hk.2) (.slice Ao176 t274.length co176)) (fun _ h_ => h_.1)))) k_ hk_.2.1), (Kd.freshB (g := gb271) (o := .cells #[.int .i64 a0_0, .slice A0_1 l0_1.length c0_1] 28 (0, 0)) (bk_ BK271.out) k_ hk_.2.1), (Kd.freshB (g := gb272) (o := .cells #[.int .i64 a1_0, .int .i64 a1_1, .int .i64 a1_2, .slice A1_3 l1_3.length c1_3] 44 (0, 0)) (bk_ BK272.out) k_ hk_.2.1), (Kd.freshB (g := gb273) (o := .cells #[.int .i64 0, .slice none 0 0] 28 (0, 0)) (bk_ BK273.out) k_ hk_.2.1), (Kd.freshB (g := gb277) (o := .cells #[.int .i64 a0_0, .slice Ao176 t274.length co176] 28 (0, 0)) (by (with_reducible repeat (first | refine blk_drewN ?_ _ | refine blk_drew ?_ | refine blk_alloc ?_ _)); refine blk_put (cs := #[.int .i64 a0_0, .slice none 0 0]) ?_ 1 _ rfl; (with_reducible repeat (first | refine blk_drewN ?_ _ | refine blk_drew ?_ | refine blk_alloc ?_ _)); refine blk_put (cs := #[.int .i64 0, .slice none 0 0]) ?_ 0 _ rfl; (with_reducible repeat (first | refine blk_drewN ?_ _ | refine blk_drew ?_ | refine blk_alloc ?_ _)); exact BK277.out) k_ hk_.2.1)⟩)) (below_size (bb_ HB.out))); have n2_ := am_ (bw_ BK271 hb); have n3_ := am_ (bw_ BK272 hb); have n4_ := am_ (bw_ BK273 hb); have n5_ := am_ (blk_below (g := gb277) (o := .cells #[.int .i64 a0_0, .slice Ao176 t274.length co176] 28 (0, 0)) (by (with_reducible repeat (first | refine blk_drewN ?_ _ | refine blk_drew ?_ | refine blk_alloc ?_ _)); refine blk_put (cs := #[.int .i64 a0_0, .slice none 0 0]) ?_ 1 _ rfl; (with_reducible repeat (first | refine blk_drewN ?_ _ | refine blk_drew ?_ | refine blk_alloc ?_ _)); refine blk_put (cs := #[.int .i64 0, .slice none 0 0]) ?_ 0 _ rfl; (with_reducible repeat (first | refine blk_drewN ?_ _ | refine blk_drew ?_ | refine blk_alloc ?_ _)); exact BK277.out) hb); have n6_ := am_ (below_step (bb_ HB.out) hb); clear HO276 BK271 BK272 BK273 BK277 HB; revert n0_ n1_ n2_ n3_ n4_ n5_ n6_; intro HO276 HO323 BK271 BK272 BK273 BK277 HB; (try clear hb); (try clear hb2); (try clear hk); (try clear hi); (try clear ho0); have hnb187 := NB273_277.out; have hnc187 := NB277_273.out; obtain ⟨hcz188_0, hcz188_1, hfz188_0, hfz188_1⟩ := bx2_ BK273; obtain ⟨Ao189, co189, eo189⟩ := Kd.N_slice HO323.out; subst eo189))
      refine bodyPost_ret (results_cell_row rfl _ _ gb273 28 #[.int .i64 t320, .slice Ao189 t321.length co189] (0, 0) _ rfl (by (with_reducible repeat (first | refine blk_drewN ?_ _ | refine blk_drew ?_ | refine blk_alloc ?_ _)); refine blk_put (cs := #[.int .i64 t320, .slice none 0 0]) ?_ 1 _ rfl; (with_reducible repeat (first | refine blk_drewN ?_ _ | refine blk_drew ?_ | refine blk_alloc ?_ _)); refine blk_put (cs := #[.int .i64 0, .slice none 0 0]) ?_ 0 _ rfl; (with_reducible repeat (first | refine blk_drewN ?_ _ | refine blk_drew ?_ | refine blk_alloc ?_ _)); exact BK273.out) Try.underlying28 rfl (by kernel_rfl)) rfl ?_
      exact ⟨_, by first | rfl | (simp [errW_none, errW_some] <;> rfl) | (simp [*, errW_none, errW_some] <;> rfl), by (with_reducible repeat (first | apply Kd.N_alloc | apply Kd.N_drewN | apply Kd.N_drew)); exact Kd.N_mono (Kd.N_far (p := ⟨gb273, 1, none⟩) (Kd.N_far (p := ⟨gb273, 0, none⟩) (Kd.N_mono HO323.out (fun k_ hk => (⟨hk, hk.2.2.2.2.1⟩ : _ ∧ k_ ≠ gb273))) (fun _ hk => hk.2) (.int .i64 t320)) (fun _ hk => hk.2) (.slice Ao189 t321.length co189)) (fun _ hk => hk.1.1), bb_ HB.out⟩
     ·rw [if_neg c166] at H
      have c166b0 : (a1_0 == 5) = false := beq_eq_false_iff_ne.mpr c166
      have c166b1 : (a1_0 != 5) = true := bne_iff_ne.mpr c166
      obtain ⟨y324, hy324⟩ : ∃ y_ : List Int, y_ = (([wrap64 (-(wrap64 (a0_0 + 1)))] : List Int)) := ⟨_, rfl⟩
      replace H : (if y324.length + l1_3.length < 17592186044416 then ((some (([(y324 ++ l1_3)] : List (List Int)) : List (List Int))).bind fun y330 => (if t274.length + y330.length < 5864062014805 then (some (wrap64 (a0_0 + 1), (t274 ++ y330))) else (none))) else (none)) = some (r1, r2) := by first | (rw [hy324]; with_reducible exact H) | (have H2_ := (Option.bind_some _ _).symm.trans H; rw [hy324]; with_reducible exact H2_) | (have H2_ := (Option.bind_some _ _).symm.trans H; with_reducible exact H2_) | with_reducible exact H | (rw [hy324]; exact H) | exact H
      have Ny324 := am_ hy324
      clear hy324
      by_cases c190 : y324.length + l1_3.length < 17592186044416
      ·rw [if_pos c190] at H
       have LMc190 := am_ c190
       clear c190
       obtain ⟨y327, hy327⟩ : ∃ y_ : List Int, y_ = (y324 ++ l1_3) := ⟨_, rfl⟩
       replace H : ((some (([y327] : List (List Int)) : List (List Int))).bind fun y330 => (if t274.length + y330.length < 5864062014805 then (some (wrap64 (a0_0 + 1), (t274 ++ y330))) else (none))) = some (r1, r2) := by first | (rw [hy327]; with_reducible exact H) | (have H2_ := (Option.bind_some _ _).symm.trans H; rw [hy327]; with_reducible exact H2_) | (have H2_ := (Option.bind_some _ _).symm.trans H; with_reducible exact H2_) | with_reducible exact H | (rw [hy327]; exact H) | exact H
       have Ny327 := am_ hy327
       clear hy327
       obtain ⟨y330, hy330⟩ : ∃ y_ : List (List Int), y_ = (([y327] : List (List Int))) := ⟨_, rfl⟩
       replace H : (if t274.length + y330.length < 5864062014805 then (some (wrap64 (a0_0 + 1), (t274 ++ y330))) else (none)) = some (r1, r2) := by first | (rw [hy330]; with_reducible exact H) | (have H2_ := (Option.bind_some _ _).symm.trans H; rw [hy330]; with_reducible exact H2_) | (have H2_ := (Option.bind_some _ _).symm.trans H; with_reducible exact H2_) | with_reducible exact H | (rw [hy330]; exact H) | exact H
       have Ny330 := am_ hy330
       clear hy330
       by_cases c191 : t274.length + y330.length < 5864062014805
       ·rw [if_pos c191] at H
        have LMc191 := am_ c191
        clear c191
        obtain ⟨y333, hy333⟩ : ∃ y_ : List (List Int), y_ = (t274 ++ y330) := ⟨_, rfl⟩
        replace H : (some (wrap64 (a0_0 + 1), y333)) = some (r1, r2) := by first | (rw [hy333]; with_reducible exact H) | (have H2_ := (Option.bind_some _ _).symm.trans H; rw [hy333]; with_reducible exact H2_) | (have H2_ := (Option.bind_some _ _).symm.trans H; with_reducible exact H2_) | with_reducible exact H | (rw [hy333]; exact H) | exact H
        have Ny333 := am_ hy333
        clear hy333
        simp only [Option.some.injEq, Prod.mk.injEq] at H
        obtain ⟨rfl, rfl⟩ := H
        go_enter Try.func63, Try.ntmps63
        try go_wp2_with (first | (refine be_ 2 28 #[.int .i64 a0_0, .slice A0_1 l0_1.length c0_1] ?_; intro gb271 hg w192 hbox hb; have n_ := ba0_ HB hbox hb hg; clear  HB hb hbox hg; obtain ⟨HB, BK271, GW271, GE271⟩ := n_) | (refine be_ 3 44 #[.int .i64 a1_0, .int .i64 a1_1, .int .i64 a1_2, .slice A1_3 l1_3.length c1_3] ?_; intro gb272 hg w193 hbox hb; have n_ := ba1_ BK271 HB hbox hb hg; clear BK271 HB hb hbox hg; obtain ⟨BK271, HB, BK272, GW272, GE272, NB271_272, NB272_271⟩ := n_) | (refine be_ 4 28 #[.int .i64 0, .slice none 0 0] ?_; intro gb273 hg w194 hbox hb; have n_ := ba2_ BK271 BK272 HB hbox hb hg; clear BK271 BK272 HB hb hbox hg; obtain ⟨BK271, BK272, HB, BK273, GW273, GE273, NB271_273, NB273_271, NB272_273, NB273_272⟩ := n_))
        have n0_ := am_ (blk_drew BK271.out)
        have n1_ := am_ (blk_drew BK272.out)
        have n2_ := am_ (blk_drew BK273.out)
        have n3_ := am_ (below_drew1 HB.out)
        clear BK271 BK272 BK273 HB; revert n0_ n1_ n2_ n3_; intro BK271 BK272 BK273 HB
        refine start_ (n := 8) (S := fun w' => w'.cell? ⟨gb271, 0, none⟩ = some (.int .i64 a0_0) ∧ w'.cell? ⟨gb271, 1, none⟩ = some (.slice A0_1 l0_1.length c0_1)) (ds := []) (bA_ 8 0) (by kernel_rfl) rfl (by kernel_rfl) ⟨bc_ BK271 0, bc_ BK271 1⟩ (fun hHeld => ?_); refine with_tabW spec_l04Move.tab1 spec_l04Move.bits1 (fun HT_ HW_ => ?_)
        generalize w194.drew = w195 at BK271 BK272 BK273 HB hHeld ⊢
        refine pz_ 0 8 (bA_ 8 1) HT_ ?_
        refine pz_ 2 10 (bA_ 8 5) HT_ ?_
        refine tz_ 1 9 (bA_ 8 7) HT_ HW_ hHeld ?_
        refine tz_ 3 11 (bA_ 8 15) HT_ HW_ hHeld ?_
        refine join_ (σ := Value × Nat) 1 (bA_ 8 127) (fun s_ => [(12, s_.1), (5, .pointer (some ⟨s_.2, 0, none⟩)), (13, .agg #[.int .i64 a0_0, s_.1])]) (fun s_ w' => (w'.cell? ⟨gb271, 0, none⟩ = some (.int .i64 a0_0) ∧ w'.cell? ⟨gb271, 1, none⟩ = some (.slice A0_1 l0_1.length c0_1)) ∧ (Kd.N (Kd.slice 2 (Kd.int .i64)) 39 w' w.heap.size (fun k_ => (w.heap.size ≤ k_) ∧ k_ ≠ gb271 ∧ k_ ≠ gb272 ∧ k_ ≠ gb273 ∧ k_ ≠ s_.2) s_.1 t274) ∧ (w'.heap[gb271]? = some (.cells #[.int .i64 a0_0, .slice A0_1 l0_1.length c0_1] 28 (0, 0))) ∧ (w'.heap[gb272]? = some (.cells #[.int .i64 a1_0, .int .i64 a1_1, .int .i64 a1_2, .slice A1_3 l1_3.length c1_3] 44 (0, 0))) ∧ (w'.heap[gb273]? = some (.cells #[.int .i64 0, .slice none 0 0] 28 (0, 0))) ∧ (w'.heap[s_.2]? = some (.cells #[.int .i64 0, .slice none 0 0] 28 (0, 0))) ∧ (w.heap.size ≤ s_.2) ∧ (w.heap.size ≤ s_.2) ∧ (gb271 ≠ s_.2) ∧ (s_.2 ≠ gb271) ∧ (gb272 ≠ s_.2) ∧ (s_.2 ≠ gb272) ∧ (gb273 ≠ s_.2) ∧ (s_.2 ≠ gb273) ∧ (Below w.heap.size w w')) ?_ ?_
        rotate_left
        ·intro hCont
         refine two_ (i := 4) (j := 6) (Ni := some 12) (Nj := some 5) (bA_ 8 31) (bA_ 8 79) rfl rfl rfl rfl (two_of HT_.out (by kernel_rfl)) (by decide) (by decide) (fun K hK => ?_) (fun K hK => ?_)
         ·skip
          refine goes_ Try.func40 (by kernel_rfl) rfl #[.slice A0_1 l0_1.length c0_1, .int .i64 (-1)] (by rfl) rfl rfl lm_ ?_
          with_reducible refine (spec_l04Copy.calls k _ _ l0_1 (-1) t274 _ ?side1 ?side2 A3.out).mono ?_
          (case side1 => exact cb_ HR0_1 HB)
          (case side2 => exact HC0_1.out)
          rintro e w196 ⟨v275, rfl, ho0, hb⟩
          refine ⟨_, rfl, ?_⟩
          have n0_ := am_ (Kd.N_lower (Kd.N_mono (ok' := fun k_ => (w.heap.size ≤ k_) ∧ k_ ≠ gb271 ∧ k_ ≠ gb272 ∧ k_ ≠ gb273) (Kd.S_N (Kd.S_bound ho0)) (fun k_ hk_ => ⟨(Nat.le_trans (below_size (bb_ HB.out)) hk_.2.1), (Kd.freshB (g := gb271) (o := .cells #[.int .i64 a0_0, .slice A0_1 l0_1.length c0_1] 28 (0, 0)) (bk_ BK271.out) k_ hk_.2.1), (Kd.freshB (g := gb272) (o := .cells #[.int .i64 a1_0, .int .i64 a1_1, .int .i64 a1_2, .slice A1_3 l1_3.length c1_3] 44 (0, 0)) (bk_ BK272.out) k_ hk_.2.1), (Kd.freshB (g := gb273) (o := .cells #[.int .i64 0, .slice none 0 0] 28 (0, 0)) (bk_ BK273.out) k_ hk_.2.1)⟩)) (below_size (bb_ HB.out)))
          have n1_ := am_ (bw_ BK271 hb)
          have n2_ := am_ (bw_ BK272 hb)
          have n3_ := am_ (bw_ BK273 hb)
          have n4_ := am_ (below_step (bb_ HB.out) hb)
          clear BK271 BK272 BK273 HB; revert n0_ n1_ n2_ n3_ n4_; intro HO276 BK271 BK272 BK273 HB
          (try clear hb)
          (try clear hb2)
          (try clear hk)
          (try clear hi)
          (try clear ho0)
          obtain ⟨Ao197, co197, eo197⟩ := Kd.N_slice HO276.out
          (first | subst eo197 | (injection eo197 with f1_ f2_ f3_; have f4_ := f1_.symm; have f5_ := f3_.symm; clear f1_ f2_ f3_; subst f4_; subst f5_))
          refine hK.out _ _ ⟨bc_ BK271 0, bc_ BK271 1⟩ (fun hHeld => ?_)
          clear hK K
          refine nm_ 12 ?_
          refine pz_ 5 13 (bA_ 8 63) HT_ ?_
          refine oz_ 6 5 (bA_ 8 127) HT_ (fun K hK => ?_)
          refine box_step ?hg (N := 5) ?hd (cs := #[.int .i64 0, .slice none 0 0]) (t := 28) ?hr ?_; (case hd => rfl); (case hg => rfl); (case hr => first | (go_simp; done) | (go_simp; rfl))
          intro gb277 hg w198 hbox hb
          have n0_ := am_ (Kd.N_below (Kd.N_elderB (by (with_reducible repeat (first | apply Kd.N_alloc | apply Kd.N_drewN | apply Kd.N_drew)); exact HO276.out) gb277 (Nat.le_of_eq hg.symm)) hb)
          have n1_ := am_ (bw_ BK271 hb)
          have n2_ := am_ (bw_ BK272 hb)
          have n3_ := am_ (bw_ BK273 hb)
          have n4_ := am_ (below_step (bb_ HB.out) hb)
          have n5_ := am_ (hbox)
          have n6_ := gs_ HB hg
          have n7_ := gs_ HB hg
          have n8_ := am_ (nl_ BK271 hg)
          have n9_ := am_ (ng_ BK271 hg)
          have n10_ := am_ (nl_ BK272 hg)
          have n11_ := am_ (ng_ BK272 hg)
          have n12_ := am_ (nl_ BK273 hg)
          have n13_ := am_ (ng_ BK273 hg)
          clear HO276 BK271 BK272 BK273 HB; revert n0_ n1_ n2_ n3_ n4_ n5_ n6_ n7_ n8_ n9_ n10_ n11_ n12_ n13_; intro HO276 BK271 BK272 BK273 HB BK277 GW277 GE277 NB271_277 NB277_271 NB272_277 NB277_272 NB273_277 NB277_273
          clear hb hbox hg
          refine hK.out _ _ ⟨bc_ BK271 0, bc_ BK271 1⟩ (fun hHeld => ?_)
          clear hK K
          refine nm_ 5 ?_
          exact norm_ (by simp only [putAll, Act.put, List.setIfInBounds_toArray, List.set_cons_zero, List.set_cons_succ]) (hCont (.slice Ao197 t274.length co197, gb277) _ ⟨hHeld, (by (with_reducible repeat (first | apply Kd.N_alloc | apply Kd.N_drewN | apply Kd.N_drew)); exact Kd.N_mono HO276.out (fun _ hk => ⟨hk.1.1, ⟨hk.1.2.1, ⟨hk.1.2.2.1, ⟨hk.1.2.2.2, hk.2⟩⟩⟩⟩)), (bk_ BK271.out), (bk_ BK272.out), (bk_ BK273.out), (bk_ BK277.out), GW277.out, GE277.out, NB271_277.out, NB277_271.out, NB272_277.out, NB277_272.out, NB273_277.out, NB277_273.out, (bb_ HB.out)⟩)
         ·skip
          refine box_step ?hg (N := 5) ?hd (cs := #[.int .i64 0, .slice none 0 0]) (t := 28) ?hr ?_; (case hd => rfl); (case hg => rfl); (case hr => first | (go_simp; done) | (go_simp; rfl))
          intro gb277 hg w196 hbox hb
          have n0_ := am_ (bw_ BK271 hb)
          have n1_ := am_ (bw_ BK272 hb)
          have n2_ := am_ (bw_ BK273 hb)
          have n3_ := am_ (below_step (bb_ HB.out) hb)
          have n4_ := am_ (hbox)
          have n5_ := gs_ HB hg
          have n6_ := gs_ HB hg
          have n7_ := am_ (nl_ BK271 hg)
          have n8_ := am_ (ng_ BK271 hg)
          have n9_ := am_ (nl_ BK272 hg)
          have n10_ := am_ (ng_ BK272 hg)
          have n11_ := am_ (nl_ BK273 hg)
          have n12_ := am_ (ng_ BK273 hg)
          clear BK271 BK272 BK273 HB; revert n0_ n1_ n2_ n3_ n4_ n5_ n6_ n7_ n8_ n9_ n10_ n11_ n12_; intro BK271 BK272 BK273 HB BK277 GW277 GE277 NB271_277 NB277_271 NB272_277 NB277_272 NB273_277 NB277_273
          clear hb hbox hg
          refine hK.out _ _ ⟨bc_ BK271 0, bc_ BK271 1⟩ (fun hHeld => ?_)
          clear hK K
          refine nm_ 5 ?_
          refine oz_ 4 12 (bA_ 8 95) HT_ (fun K hK => ?_)
          refine goes_ Try.func40 (by kernel_rfl) rfl #[.slice A0_1 l0_1.length c0_1, .int .i64 (-1)] (by rfl) rfl rfl lm_ ?_
          with_reducible refine (spec_l04Copy.calls k _ _ l0_1 (-1) t274 _ ?side1 ?side2 A3.out).mono ?_
          (case side1 => exact cb_ HR0_1 HB)
          (case side2 => exact HC0_1.out)
          rintro e w197 ⟨v275, rfl, ho0, hb⟩
          refine ⟨_, rfl, ?_⟩
          have n0_ := am_ (Kd.N_lower (Kd.N_mono (ok' := fun k_ => (w.heap.size ≤ k_) ∧ k_ ≠ gb271 ∧ k_ ≠ gb272 ∧ k_ ≠ gb273 ∧ k_ ≠ gb277) (Kd.S_N (Kd.S_bound ho0)) (fun k_ hk_ => ⟨(Nat.le_trans (below_size (bb_ HB.out)) hk_.2.1), (Kd.freshB (g := gb271) (o := .cells #[.int .i64 a0_0, .slice A0_1 l0_1.length c0_1] 28 (0, 0)) (bk_ BK271.out) k_ hk_.2.1), (Kd.freshB (g := gb272) (o := .cells #[.int .i64 a1_0, .int .i64 a1_1, .int .i64 a1_2, .slice A1_3 l1_3.length c1_3] 44 (0, 0)) (bk_ BK272.out) k_ hk_.2.1), (Kd.freshB (g := gb273) (o := .cells #[.int .i64 0, .slice none 0 0] 28 (0, 0)) (bk_ BK273.out) k_ hk_.2.1), (Kd.freshB (g := gb277) (o := .cells #[.int .i64 0, .slice none 0 0] 28 (0, 0)) (bk_ BK277.out) k_ hk_.2.1)⟩)) (below_size (bb_ HB.out)))
          have n1_ := am_ (bw_ BK271 hb)
          have n2_ := am_ (bw_ BK272 hb)
          have n3_ := am_ (bw_ BK273 hb)
          have n4_ := am_ (bw_ BK277 hb)
          have n5_ := am_ (below_step (bb_ HB.out) hb)
          clear BK271 BK272 BK273 BK277 HB; revert n0_ n1_ n2_ n3_ n4_ n5_; intro HO276 BK271 BK272 BK273 BK277 HB
          (try clear hb)
          (try clear hb2)
          (try clear hk)
          (try clear hi)
          (try clear ho0)
          obtain ⟨Ao198, co198, eo198⟩ := Kd.N_slice HO276.out
          (first | subst eo198 | (injection eo198 with f1_ f2_ f3_; have f4_ := f1_.symm; have f5_ := f3_.symm; clear f1_ f2_ f3_; subst f4_; subst f5_))
          refine hK.out _ _ ⟨bc_ BK271 0, bc_ BK271 1⟩ (fun hHeld => ?_)
          clear hK K
          refine nm_ 12 ?_
          refine pz_ 5 13 (bA_ 8 127) HT_ ?_
          exact norm_ (by simp only [putAll, Act.put, List.setIfInBounds_toArray, List.set_cons_zero, List.set_cons_succ]) (hCont (.slice Ao198 t274.length co198, gb277) _ ⟨hHeld, (by (with_reducible repeat (first | apply Kd.N_alloc | apply Kd.N_drewN | apply Kd.N_drew)); exact HO276.out), (bk_ BK271.out), (bk_ BK272.out), (bk_ BK273.out), (bk_ BK277.out), GW277.out, GE277.out, NB271_277.out, NB277_271.out, NB272_277.out, NB277_272.out, NB273_277.out, NB277_273.out, (bb_ HB.out)⟩)
        rintro ⟨v275, gb277⟩ w199 ⟨hS_, h0_, h1_, h2_, h3_, h4_, h5_, h6_, h7_, h8_, h9_, h10_, h11_, h12_, h13_⟩
        have n0_ : Aside0 (Kd.N (Kd.slice 2 (Kd.int .i64)) 39 w199 w.heap.size (fun k_ => (w.heap.size ≤ k_) ∧ k_ ≠ gb271 ∧ k_ ≠ gb272 ∧ k_ ≠ gb273 ∧ k_ ≠ gb277) v275 t274) := ⟨h0_⟩
        have n1_ : Aside0 (w199.heap[gb271]? = some (.cells #[.int .i64 a0_0, .slice A0_1 l0_1.length c0_1] 28 (0, 0))) := ⟨h1_⟩
        have n2_ : Aside0 (w199.heap[gb272]? = some (.cells #[.int .i64 a1_0, .int .i64 a1_1, .int .i64 a1_2, .slice A1_3 l1_3.length c1_3] 44 (0, 0))) := ⟨h2_⟩
        have n3_ : Aside0 (w199.heap[gb273]? = some (.cells #[.int .i64 0, .slice none 0 0] 28 (0, 0))) := ⟨h3_⟩
        have n4_ : Aside0 (w199.heap[gb277]? = some (.cells #[.int .i64 0, .slice none 0 0] 28 (0, 0))) := ⟨h4_⟩
        have n5_ : Aside0 (w.heap.size ≤ gb277) := ⟨h5_⟩
        have n6_ : Aside0 (w.heap.size ≤ gb277) := ⟨h6_⟩
        have n7_ : Aside0 (gb271 ≠ gb277) := ⟨h7_⟩
        have n8_ : Aside0 (gb277 ≠ gb271) := ⟨h8_⟩
        have n9_ : Aside0 (gb272 ≠ gb277) := ⟨h9_⟩
        have n10_ : Aside0 (gb277 ≠ gb272) := ⟨h10_⟩
        have n11_ : Aside0 (gb273 ≠ gb277) := ⟨h11_⟩
        have n12_ : Aside0 (gb277 ≠ gb273) := ⟨h12_⟩
        have n13_ : Aside0 (Below w.heap.size w w199) := ⟨h13_⟩
        clear BK271
        clear BK272
        clear BK273
        clear HB
        clear h0_ h1_ h2_ h3_ h4_ h5_ h6_ h7_ h8_ h9_ h10_ h11_ h12_ h13_
        have HO276 := n0_
        have BK271 := n1_
        have BK272 := n2_
        have BK273 := n3_
        have BK277 := n4_
        have GW277 := n5_
        have GE277 := n6_
        have NB271_277 := n7_
        have NB277_271 := n8_
        have NB272_277 := n9_
        have NB277_272 := n10_
        have NB273_277 := n11_
        have NB277_273 := n12_
        have HB := n13_
        clear n0_ n1_ n2_ n3_ n4_ n5_ n6_ n7_ n8_ n9_ n10_ n11_ n12_ n13_
        have hHeld : w199.cell? ⟨gb271, 0, none⟩ = some (.int .i64 a0_0) ∧ w199.cell? ⟨gb271, 1, none⟩ = some (.slice A0_1 l0_1.length c0_1) := hS_
        obtain ⟨Ao200, co200, eo200⟩ := Kd.N_slice HO276.out
        (first | subst eo200 | (injection eo200 with f1_ f2_ f3_; have f4_ := f1_.symm; have f5_ := f3_.symm; clear f1_ f2_ f3_; subst f4_; subst f5_))
        refine norm_ (a' := ?_) ?_ ?_
        rotate_left
        ·simp only [putAll, Act.put, List.setIfInBounds_toArray, List.set_cons_zero, List.set_cons_succ]
         rfl
        refine one_ (i := 7) (N := none) (bA_ 8 255) rfl rfl (one_of HT_.out (by kernel_rfl)) (by decide) (fun K hK => ?_)
        have hs201 : w199.cell? ⟨gb277, 0, none⟩ = some (.int .i64 0) := bc_ BK277 0
        have hfs201 := blk_frozen BK277.out 0
        have hns201_0 := NB271_277.out
        have hns201_1 := NB272_277.out
        have hns201_2 := NB273_277.out
        have hms201_0 := NB277_271.out
        have hms201_1 := NB277_272.out
        have hms201_2 := NB277_273.out
        have hs202 : w199.cell? ⟨gb277, 1, none⟩ = some (.slice none 0 0) := bc_ BK277 1
        have hfs202 := blk_frozen BK277.out 1
        have hns202_0 := NB271_277.out
        have hns202_1 := NB272_277.out
        have hns202_2 := NB273_277.out
        have hms202_0 := NB277_271.out
        have hms202_1 := NB277_272.out
        have hms202_2 := NB277_273.out
        refine skip_ (w1 := ?_) (by rfl) rfl ?_ ?_
        rotate_left
        ·go_simp
         rfl
        refine hK.out _ _ ⟨((cell_far (p := ⟨gb277, _, none⟩) NB271_277.out _).trans (((cell_far (p := ⟨gb277, _, none⟩) NB271_277.out _).trans (hHeld.1)))), ((cell_far (p := ⟨gb277, _, none⟩) NB271_277.out _).trans (((cell_far (p := ⟨gb277, _, none⟩) NB271_277.out _).trans (hHeld.2))))⟩ (fun hHeld => ?_)
        clear hK K
        refine done_ (done_of HT_.out (by kernel_rfl)) ?_
        have hnb203 := NB272_271.out
        have hnc203 := NB271_272.out
        have hnb204 := NB272_273.out
        have hnc204 := NB273_272.out
        have hnb205 := NB272_277.out
        have hnc205 := NB277_272.out
        obtain ⟨hcz206_0, hcz206_1, hcz206_2, hcz206_3, hfz206_0, hfz206_1, hfz206_2, hfz206_3⟩ := bx4_ BK272
        have hnb207 := NB271_273.out
        have hnc207 := NB273_271.out
        have hnb208 := NB271_277.out
        have hnc208 := NB277_271.out
        obtain ⟨hcz209_0, hcz209_1, hfz209_0, hfz209_1⟩ := bx2_ BK271
        try go_wp2
        have n0_ : Aside0 (Kd.N (Kd.slice 2 (Kd.int .i64)) 39 ((w199.setCell ⟨gb277, 0, none⟩ (.int .i64 a0_0)).setCell ⟨gb277, 1, none⟩ (.slice Ao200 t274.length co200)) w.heap.size (fun k_ => (w.heap.size ≤ k_) ∧ k_ ≠ gb271 ∧ k_ ≠ gb272 ∧ k_ ≠ gb273 ∧ k_ ≠ gb277) (.slice Ao200 t274.length co200) t274) := ⟨by (with_reducible repeat (first | apply Kd.N_alloc | apply Kd.N_drewN | apply Kd.N_drew)); exact Kd.N_mono (Kd.N_far (p := ⟨gb277, 1, none⟩) (Kd.N_far (p := ⟨gb277, 0, none⟩) (Kd.N_mono HO276.out (fun k_ hk => (⟨hk, hk.2.2.2.2⟩ : _ ∧ k_ ≠ gb277))) (fun _ hk => hk.2) (.int .i64 a0_0)) (fun _ hk => hk.2) (.slice Ao200 t274.length co200)) (fun _ hk => ⟨hk.1.1, ⟨hk.1.2.1, ⟨hk.1.2.2.1, ⟨hk.1.2.2.2.1, hk.1.2.2.2.2⟩⟩⟩⟩)⟩
        have n1_ : Aside0 (((w199.setCell ⟨gb277, 0, none⟩ (.int .i64 a0_0)).setCell ⟨gb277, 1, none⟩ (.slice Ao200 t274.length co200)).heap[gb271]? = some (.cells #[.int .i64 a0_0, .slice A0_1 l0_1.length c0_1] 28 (0, 0))) := ⟨bk_ BK271.out⟩
        have n2_ : Aside0 (((w199.setCell ⟨gb277, 0, none⟩ (.int .i64 a0_0)).setCell ⟨gb277, 1, none⟩ (.slice Ao200 t274.length co200)).heap[gb272]? = some (.cells #[.int .i64 a1_0, .int .i64 a1_1, .int .i64 a1_2, .slice A1_3 l1_3.length c1_3] 44 (0, 0))) := ⟨bk_ BK272.out⟩
        have n3_ : Aside0 (((w199.setCell ⟨gb277, 0, none⟩ (.int .i64 a0_0)).setCell ⟨gb277, 1, none⟩ (.slice Ao200 t274.length co200)).heap[gb273]? = some (.cells #[.int .i64 0, .slice none 0 0] 28 (0, 0))) := ⟨bk_ BK273.out⟩
        have n4_ : Aside0 (((w199.setCell ⟨gb277, 0, none⟩ (.int .i64 a0_0)).setCell ⟨gb277, 1, none⟩ (.slice Ao200 t274.length co200)).heap[gb277]? = some (.cells #[.int .i64 a0_0, .slice Ao200 t274.length co200] 28 (0, 0))) := ⟨by (with_reducible repeat (first | refine blk_drewN ?_ _ | refine blk_drew ?_ | refine blk_alloc ?_ _)); refine blk_put (cs := #[.int .i64 a0_0, .slice none 0 0]) ?_ 1 _ rfl; (with_reducible repeat (first | refine blk_drewN ?_ _ | refine blk_drew ?_ | refine blk_alloc ?_ _)); refine blk_put (cs := #[.int .i64 0, .slice none 0 0]) ?_ 0 _ rfl; (with_reducible repeat (first | refine blk_drewN ?_ _ | refine blk_drew ?_ | refine blk_alloc ?_ _)); exact BK277.out⟩
        have n5_ : Aside0 (Below w.heap.size w ((w199.setCell ⟨gb277, 0, none⟩ (.int .i64 a0_0)).setCell ⟨gb277, 1, none⟩ (.slice Ao200 t274.length co200))) := ⟨bb_ HB.out⟩
        (try clear HO276)
        (try clear BK271)
        (try clear BK272)
        (try clear BK273)
        (try clear BK277)
        (try clear HB)
        generalize ((w199.setCell ⟨gb277, 0, none⟩ (.int .i64 a0_0)).setCell ⟨gb277, 1, none⟩ (.slice Ao200 t274.length co200)) = w210 at n0_ n1_ n2_ n3_ n4_ n5_ ⊢
        have HO276 := n0_
        have BK271 := n1_
        have BK272 := n2_
        have BK273 := n3_
        have BK277 := n4_
        have HB := n5_
        clear n0_ n1_ n2_ n3_ n4_ n5_
        have n0_ := am_ (Kd.N_drew HO276.out)
        have n1_ := am_ (blk_drew BK271.out)
        have n2_ := am_ (blk_drew BK272.out)
        have n3_ := am_ (blk_drew BK273.out)
        have n4_ := am_ (blk_drew BK277.out)
        have n5_ := am_ (below_drew1 HB.out)
        clear HO276 BK271 BK272 BK273 BK277 HB; revert n0_ n1_ n2_ n3_ n4_ n5_; intro HO276 BK271 BK272 BK273 BK277 HB
        refine start_ (n := 13) (S := fun w' => w'.cell? ⟨gb277, 0, none⟩ = some (.int .i64 a0_0) ∧ w'.cell? ⟨gb277, 1, none⟩ = some (.slice Ao200 t274.length co200) ∧ w'.cell? ⟨gb272, 0, none⟩ = some (.int .i64 a1_0) ∧ w'.cell? ⟨gb272, 1, none⟩ = some (.int .i64 a1_1) ∧ w'.cell? ⟨gb272, 2, none⟩ = some (.int .i64 a1_2) ∧ w'.cell? ⟨gb272, 3, none⟩ = some (.slice A1_3 l1_3.length c1_3)) (ds := []) (bA_ 13 0) (by kernel_rfl) rfl (by kernel_rfl) ⟨bc_ BK277 0, bc_ BK277 1, bc_ BK272 0, bc_ BK272 1, bc_ BK272 2, bc_ BK272 3⟩ (fun hHeld => ?_); refine with_tabW spec_l04Move.tab4 spec_l04Move.bits4 (fun HT_ HW_ => ?_)
        generalize w210.drew = w211 at HO276 BK271 BK272 BK273 BK277 HB hHeld ⊢
        refine pz_ 0 19 (bA_ 13 1) HT_ ?_
        refine pz_ 1 20 (bA_ 13 3) HT_ ?_
        refine pz_ 3 22 (bA_ 13 11) HT_ ?_
        refine pz_ 4 23 (bA_ 13 27) HT_ ?_
        refine pz_ 6 25 (bA_ 13 91) HT_ ?_
        refine tz_ 2 21 (bA_ 13 95) HT_ HW_ hHeld ?_
        refine tz_ 7 26 (bA_ 13 223) HT_ HW_ hHeld ?_
        refine oz_ 5 24 (bA_ 13 255) HT_ (fun K hK => ?_)
        refine Kd.R_lit_step (Kd.int .i64) _ 2 ?hg (N := 24) ?hd (xs := ([wrap64 (-(wrap64 (a0_0 + 1)))] : List Int)) (inner := [.int .i64 (wrap64 (-(wrap64 (a0_0 + 1))))]) (ok := fun _ => True) (okp := fun _ => True) ?hr ?hp (fun _ hk => hk) trivial (Below.refl _ _) (Nat.le_refl _) (by simp) ?_; (case hd => rfl); (case hg => rfl); (case hr => first | (go_simp; done) | (go_simp; rfl)); (case hp => exact (Reps.one (show Kd.M (Kd.int .i64) _ _ _ (wrap64 (-(wrap64 (a0_0 + 1)))) [.int .i64 (wrap64 (-(wrap64 (a0_0 + 1))))] from rfl) (Reps.none _ _)))
        intro v325 w212 ho213 hb hg_ hnew_
        clear hg_ hnew_
        (first | rw [← Ny324.out] at ho213 | (simp only [Int.reduceToNat] at ho213; rw [← Ny324.out] at ho213))
        have n0_ := am_ (Kd.N_elder' (by (with_reducible repeat (first | apply Kd.N_alloc | apply Kd.N_drewN | apply Kd.N_drew)); exact HO276.out) (Kd.R_base ho213) hb)
        have n1_ := am_ (Kd.R_lower (Kd.R_newM (M := fun k_ => (w.heap.size ≤ k_)) ho213 (below_size (bb_ HB.out)) (fun k_ h_ => h_)) (below_size (bb_ HB.out)))
        have n2_ := am_ (bw_ BK271 hb)
        have n3_ := am_ (bw_ BK272 hb)
        have n4_ := am_ (bw_ BK273 hb)
        have n5_ := am_ (bw_ BK277 hb)
        have n6_ := am_ (below_step (bb_ HB.out) hb)
        clear HO276 BK271 BK272 BK273 BK277 HB; revert n0_ n1_ n2_ n3_ n4_ n5_ n6_; intro HO276 HO326 BK271 BK272 BK273 BK277 HB
        clear hb ho213
        refine hK.out _ _ ⟨bc_ BK277 0, bc_ BK277 1, bc_ BK272 0, bc_ BK272 1, bc_ BK272 2, bc_ BK272 3⟩ (fun hHeld => ?_)
        clear hK K
        refine nm_ 24 ?_
        refine oz_ 8 27 (bA_ 13 511) HT_ (fun K hK => ?_)
        refine Kd.R_append_rows_step (Kd.int .i64) (w0 := w) w.heap.size (by rfl) (.tmp 24) (.tmp 26) 39 2 (.int .i64 0) 8 rfl Try.underlying39 info2 rfl (by decide) (by omega) v325 y324 l1_3 _ _ _ (fun k_ => (w.heap.size ≤ k_)) (fun _ => False) rfl rfl ?aO ?aR (fun _ _ h => h) (fun _ h => h.elim) ?aF ?aB ?aS ?aL ?_
        (case aR => exact cb_ HR1_3 HB)
        (case aB => exact (bb_ HB.out))
        (case aF => exact (fun k_ hk => (Nat.le_trans (below_size (bb_ HB.out)) hk)))
        (case aO => exact (rm_ HO326.out (fun _ hk => hk.1)))
        (case aS => exact (below_size (bb_ HB.out)))
        (case aL => have := LMc190.out; omega)
        intro v328 w214 ho hb hg hat
        rw [← Ny327.out] at ho
        have n0_ := am_ (blk_grown (g := gb271) (o := .cells #[.int .i64 a0_0, .slice A0_1 l0_1.length c0_1] 28 (0, 0)) (bk_ BK271.out) hg (Kd.R_ne HO326.out BK271.out (by decide)))
        have n1_ := am_ (blk_grown (g := gb272) (o := .cells #[.int .i64 a1_0, .int .i64 a1_1, .int .i64 a1_2, .slice A1_3 l1_3.length c1_3] 44 (0, 0)) (bk_ BK272.out) hg (Kd.R_ne HO326.out BK272.out (by decide)))
        have n2_ := am_ (blk_grown (g := gb273) (o := .cells #[.int .i64 0, .slice none 0 0] 28 (0, 0)) (bk_ BK273.out) hg (Kd.R_ne HO326.out BK273.out (by decide)))
        have n3_ := am_ (Kd.N_afterv (ok := (fun k_ => (w.heap.size ≤ k_) ∧ k_ ≠ gb271 ∧ k_ ≠ gb272 ∧ k_ ≠ gb273 ∧ k_ ≠ gb277)) (by (with_reducible repeat (first | apply Kd.N_alloc | apply Kd.N_drewN | apply Kd.N_drew)); exact HO276.out) hg hat)
        have n4_ := am_ (blk_grown (g := gb277) (o := .cells #[.int .i64 a0_0, .slice Ao200 t274.length co200] 28 (0, 0)) (bk_ BK277.out) hg (Kd.R_ne HO326.out BK277.out (by decide)))
        have n5_ := am_ (hb)
        have n6_ := am_ (ho)
        clear BK271 BK272 BK273 HO276 BK277 HB HO326; revert n0_ n1_ n2_ n3_ n4_ n5_ n6_; intro BK271 BK272 BK273 HO276 BK277 HB HO329
        clear ho hb hg hat
        obtain ⟨Ao215, co215, eo215⟩ := Kd.R_slice HO329.out
        (first | subst eo215 | (injection eo215 with f1_ f2_ f3_; have f4_ := f1_.symm; have f5_ := f3_.symm; clear f1_ f2_ f3_; subst f4_; subst f5_))
        refine hK.out _ _ ⟨bc_ BK277 0, bc_ BK277 1, bc_ BK272 0, bc_ BK272 1, bc_ BK272 2, bc_ BK272 3⟩ (fun hHeld => ?_)
        clear hK K
        refine nm_ 27 ?_
        refine oz_ 9 28 (bA_ 13 1023) HT_ (fun K hK => ?_)
        refine Kd.N_lit_step (Kd.slice 2 (Kd.int .i64)) _ 39 ?hg (N' := 28) ?hd (xs := ([y327] : List (List Int))) (inner := [.slice Ao215 y327.length co215]) (ok := (fun k_ => (w.heap.size ≤ k_) ∧ some k_ ≠ (.slice Ao200 t274.length co200 : Value).ownBlock ∧ k_ ≠ gb271 ∧ k_ ≠ gb272 ∧ k_ ≠ gb273 ∧ k_ ≠ gb277)) (okp := (fun k_ => (w.heap.size ≤ k_) ∧ some k_ ≠ (.slice Ao200 t274.length co200 : Value).ownBlock ∧ k_ ≠ gb271 ∧ k_ ≠ gb272 ∧ k_ ≠ gb273 ∧ k_ ≠ gb277)) ?hr ?hp (fun _ hk => hk) ((show ∀ k_, w214.heap.size ≤ k_ → (fun k_ => (w.heap.size ≤ k_) ∧ some k_ ≠ (.slice Ao200 t274.length co200 : Value).ownBlock ∧ k_ ≠ gb271 ∧ k_ ≠ gb272 ∧ k_ ≠ gb273 ∧ k_ ≠ gb277) k_ from fun k_ hk => ⟨(Nat.le_trans (below_size (bb_ HB.out)) hk), Kd.fresh' (Kd.N_lt (by (with_reducible repeat (first | apply Kd.N_alloc | apply Kd.N_drewN | apply Kd.N_drew)); exact HO276.out)) k_ hk, Kd.freshB (g := gb271) (o := .cells #[.int .i64 a0_0, .slice A0_1 l0_1.length c0_1] 28 (0, 0)) (bk_ BK271.out) k_ hk, Kd.freshB (g := gb272) (o := .cells #[.int .i64 a1_0, .int .i64 a1_1, .int .i64 a1_2, .slice A1_3 l1_3.length c1_3] 44 (0, 0)) (bk_ BK272.out) k_ hk, Kd.freshB (g := gb273) (o := .cells #[.int .i64 0, .slice none 0 0] 28 (0, 0)) (bk_ BK273.out) k_ hk, Kd.freshB (g := gb277) (o := .cells #[.int .i64 a0_0, .slice Ao200 t274.length co200] 28 (0, 0)) (bk_ BK277.out) k_ hk⟩) _ (Nat.le_refl _)) (Below.refl _ _) (Nat.le_refl _) (by simp) ?_; (case hd => rfl); (case hg => rfl); (case hr => first | (go_simp; done) | (go_simp; rfl)); (case hp => exact (Reps.one (show Kd.FK (Kd.slice 2 (Kd.int .i64)) _ _ y327 [.slice Ao215 y327.length co215] from (Kd.FK_slice_mk (Kd.R_reads' (Kd.R_mono (ok' := (fun k_ => (w.heap.size ≤ k_) ∧ some k_ ≠ (.slice Ao200 t274.length co200 : Value).ownBlock ∧ k_ ≠ gb271 ∧ k_ ≠ gb272 ∧ k_ ≠ gb273 ∧ k_ ≠ gb277)) (Kd.R_types (Kd.R_types (Kd.R_types (Kd.R_types (Kd.R_apart' (HO329.out) (Kd.N_typed HO276.out) (by decide)) BK271.out (by decide)) BK272.out (by decide)) BK273.out (by decide)) BK277.out (by decide)) (fun k_ hk => ⟨hk.1.1.1.1.1, ⟨hk.1.1.1.1.2, ⟨hk.1.1.1.2, ⟨hk.1.1.2, ⟨hk.1.2, hk.2⟩⟩⟩⟩⟩))).2.1 (Kd.R_F (Kd.R_mono (ok' := (fun k_ => (w.heap.size ≤ k_) ∧ some k_ ≠ (.slice Ao200 t274.length co200 : Value).ownBlock ∧ k_ ≠ gb271 ∧ k_ ≠ gb272 ∧ k_ ≠ gb273 ∧ k_ ≠ gb277)) (Kd.R_types (Kd.R_types (Kd.R_types (Kd.R_types (Kd.R_apart' (HO329.out) (Kd.N_typed HO276.out) (by decide)) BK271.out (by decide)) BK272.out (by decide)) BK273.out (by decide)) BK277.out (by decide)) (fun k_ hk => ⟨hk.1.1.1.1.1, ⟨hk.1.1.1.1.2, ⟨hk.1.1.1.2, ⟨hk.1.1.2, ⟨hk.1.2, hk.2⟩⟩⟩⟩⟩))))) (Reps.none _ _)))
        intro v331 w216 ho217 hb hg_ hnew_
        clear hg_ hnew_
        (first | rw [← Ny330.out] at ho217 | (simp only [Int.reduceToNat] at ho217; rw [← Ny330.out] at ho217))
        have n0_ := am_ (Kd.N_elder' (by (with_reducible repeat (first | apply Kd.N_alloc | apply Kd.N_drewN | apply Kd.N_drew)); exact HO276.out) (Kd.N_base ho217) hb)
        have n1_ := am_ (Kd.N_lower ho217 (below_size (bb_ HB.out)))
        have n2_ := am_ (bw_ BK271 hb)
        have n3_ := am_ (bw_ BK272 hb)
        have n4_ := am_ (bw_ BK273 hb)
        have n5_ := am_ (bw_ BK277 hb)
        have n6_ := am_ (below_step (bb_ HB.out) hb)
        clear HO276 BK271 BK272 BK273 BK277 HB HO329; revert n0_ n1_ n2_ n3_ n4_ n5_ n6_; intro HO276 HO332 BK271 BK272 BK273 BK277 HB
        clear hb ho217
        obtain ⟨Ao219, co219, eo219⟩ := Kd.N_slice HO332.out
        (first | subst eo219 | (injection eo219 with f1_ f2_ f3_; have f4_ := f1_.symm; have f5_ := f3_.symm; clear f1_ f2_ f3_; subst f4_; subst f5_))
        refine hK.out _ _ ⟨bc_ BK277 0, bc_ BK277 1, bc_ BK272 0, bc_ BK272 1, bc_ BK272 2, bc_ BK272 3⟩ (fun hHeld => ?_)
        clear hK K
        refine nm_ 28 ?_
        refine oz_ 10 29 (bA_ 13 2047) HT_ (fun K hK => ?_)
        refine Kd.N_append_rows_step (Kd.slice 2 (Kd.int .i64)) (w0 := w) w.heap.size (by rfl) (.tmp 21) (.tmp 28) 22 39 (.slice none 0 0) 24 rfl Try.underlying22 info39 rfl (by decide) (by omega) (.slice Ao200 t274.length co200) t274 y330 _ _ _ (fun k_ => (w.heap.size ≤ k_) ∧ k_ ≠ gb271 ∧ k_ ≠ gb272 ∧ k_ ≠ gb273 ∧ k_ ≠ gb277) (fun k_ => ((fun k_ => (w.heap.size ≤ k_) ∧ k_ ≠ gb271 ∧ k_ ≠ gb272 ∧ k_ ≠ gb273 ∧ k_ ≠ gb277)) k_ ∧ some k_ ≠ (.slice Ao200 t274.length co200 : Value).ownBlock) rfl rfl ?aO ?aR (fun _ hk => hk) ?aF ?aB ?aS ?aL ?_
        (case aR => exact (by skip; exact Kd.N_F (Kd.N_mono (ok' := (fun k_ => ((fun k_ => (w.heap.size ≤ k_) ∧ k_ ≠ gb271 ∧ k_ ≠ gb272 ∧ k_ ≠ gb273 ∧ k_ ≠ gb277)) k_ ∧ some k_ ≠ (.slice Ao200 t274.length co200 : Value).ownBlock)) (HO332.out) (fun k_ hk => ⟨⟨hk.1, ⟨hk.2.2.1, ⟨hk.2.2.2.1, ⟨hk.2.2.2.2.1, hk.2.2.2.2.2⟩⟩⟩⟩, hk.2.1⟩))))
        (case aB => exact (bb_ HB.out))
        (case aF => exact (fun k_ hk => ⟨(Nat.le_trans (below_size (bb_ HB.out)) hk), Kd.freshB (g := gb271) (o := .cells #[.int .i64 a0_0, .slice A0_1 l0_1.length c0_1] 28 (0, 0)) (bk_ BK271.out) k_ hk, Kd.freshB (g := gb272) (o := .cells #[.int .i64 a1_0, .int .i64 a1_1, .int .i64 a1_2, .slice A1_3 l1_3.length c1_3] 44 (0, 0)) (bk_ BK272.out) k_ hk, Kd.freshB (g := gb273) (o := .cells #[.int .i64 0, .slice none 0 0] 28 (0, 0)) (bk_ BK273.out) k_ hk, Kd.freshB (g := gb277) (o := .cells #[.int .i64 a0_0, .slice Ao200 t274.length co200] 28 (0, 0)) (bk_ BK277.out) k_ hk⟩))
        (case aO => exact (by (with_reducible repeat (first | apply Kd.N_alloc | apply Kd.N_drewN | apply Kd.N_drew)); exact Kd.N_mono HO276.out (fun _ hk => ⟨hk.1.1.1, ⟨hk.1.1.2.1, ⟨hk.1.1.2.2.1, ⟨hk.1.1.2.2.2.1, hk.1.1.2.2.2.2⟩⟩⟩⟩)))
        (case aS => exact (below_size (bb_ HB.out)))
        (case aL => have := LMc191.out; omega)
        intro v334 w218 ho hb hg hat
        rw [← Ny333.out] at ho
        have n0_ := am_ (blk_grown (g := gb271) (o := .cells #[.int .i64 a0_0, .slice A0_1 l0_1.length c0_1] 28 (0, 0)) (bk_ BK271.out) hg (Kd.N_ne HO276.out BK271.out (by decide)))
        have n1_ := am_ (blk_grown (g := gb272) (o := .cells #[.int .i64 a1_0, .int .i64 a1_1, .int .i64 a1_2, .slice A1_3 l1_3.length c1_3] 44 (0, 0)) (bk_ BK272.out) hg (Kd.N_ne HO276.out BK272.out (by decide)))
        have n2_ := am_ (blk_grown (g := gb273) (o := .cells #[.int .i64 0, .slice none 0 0] 28 (0, 0)) (bk_ BK273.out) hg (Kd.N_ne HO276.out BK273.out (by decide)))
        have n3_ := am_ (blk_grown (g := gb277) (o := .cells #[.int .i64 a0_0, .slice Ao200 t274.length co200] 28 (0, 0)) (bk_ BK277.out) hg (Kd.N_ne HO276.out BK277.out (by decide)))
        have n4_ := am_ (Kd.N_afterv (ok := (fun k_ => (w.heap.size ≤ k_) ∧ k_ ≠ gb271 ∧ k_ ≠ gb272 ∧ k_ ≠ gb273 ∧ k_ ≠ gb277)) (by (with_reducible repeat (first | apply Kd.N_alloc | apply Kd.N_drewN | apply Kd.N_drew)); exact Kd.N_mono HO332.out (fun _ hk => ⟨⟨hk.1, ⟨hk.2.2.1, ⟨hk.2.2.2.1, ⟨hk.2.2.2.2.1, hk.2.2.2.2.2⟩⟩⟩⟩, hk.2.1⟩)) hg hat)
        have n5_ := am_ (hb)
        have n6_ := am_ (ho)
        clear BK271 BK272 BK273 BK277 HO332 HB HO276; revert n0_ n1_ n2_ n3_ n4_ n5_ n6_; intro BK271 BK272 BK273 BK277 HO332 HB HO335
        clear ho hb hg hat
        obtain ⟨Ao220, co220, eo220⟩ := Kd.N_slice HO335.out
        (first | subst eo220 | (injection eo220 with f1_ f2_ f3_; have f4_ := f1_.symm; have f5_ := f3_.symm; clear f1_ f2_ f3_; subst f4_; subst f5_))
        refine hK.out _ _ ⟨bc_ BK277 0, bc_ BK277 1, bc_ BK272 0, bc_ BK272 1, bc_ BK272 2, bc_ BK272 3⟩ (fun hHeld => ?_)
        clear hK K
        refine nm_ 29 ?_
        refine pz_ 11 30 (bA_ 13 4095) HT_ ?_
        refine one_ (i := 12) (N := none) (bA_ 13 8191) rfl rfl (one_of HT_.out (by kernel_rfl)) (by decide) (fun K hK => ?_)
        have hs221 : w218.cell? ⟨gb273, 0, none⟩ = some (.int .i64 0) := bc_ BK273 0
        have hfs221 := blk_frozen BK273.out 0
        have hns221_0 := NB271_273.out
        have hns221_1 := NB272_273.out
        have hns221_3 := NB277_273.out
        have hms221_0 := NB273_271.out
        have hms221_1 := NB273_272.out
        have hms221_3 := NB273_277.out
        have hs222 : w218.cell? ⟨gb273, 1, none⟩ = some (.slice none 0 0) := bc_ BK273 1
        have hfs222 := blk_frozen BK273.out 1
        have hns222_0 := NB271_273.out
        have hns222_1 := NB272_273.out
        have hns222_3 := NB277_273.out
        have hms222_0 := NB273_271.out
        have hms222_1 := NB273_272.out
        have hms222_3 := NB273_277.out
        refine skip_ (w1 := ?_) (by rfl) rfl ?_ ?_
        rotate_left
        ·go_simp
         rfl
        refine hK.out _ _ ⟨((cell_far (p := ⟨gb273, _, none⟩) NB277_273.out _).trans (((cell_far (p := ⟨gb273, _, none⟩) NB277_273.out _).trans (hHeld.1)))), ((cell_far (p := ⟨gb273, _, none⟩) NB277_273.out _).trans (((cell_far (p := ⟨gb273, _, none⟩) NB277_273.out _).trans (hHeld.2.1)))), ((cell_far (p := ⟨gb273, _, none⟩) NB272_273.out _).trans (((cell_far (p := ⟨gb273, _, none⟩) NB272_273.out _).trans (hHeld.2.2.1)))), ((cell_far (p := ⟨gb273, _, none⟩) NB272_273.out _).trans (((cell_far (p := ⟨gb273, _, none⟩) NB272_273.out _).trans (hHeld.2.2.2.1)))), ((cell_far (p := ⟨gb273, _, none⟩) NB272_273.out _).trans (((cell_far (p := ⟨gb273, _, none⟩) NB272_273.out _).trans (hHeld.2.2.2.2.1)))), ((cell_far (p := ⟨gb273, _, none⟩) NB272_273.out _).trans (((cell_far (p := ⟨gb273, _, none⟩) NB272_273.out _).trans (hHeld.2.2.2.2.2))))⟩ (fun hHeld => ?_)
        clear hK K
        refine done_ (done_of HT_.out (by kernel_rfl)) ?_
        try go_wp2
        refine bodyPost_ret (results_cell_row rfl _ _ gb273 28 #[.int .i64 (wrap64 (a0_0 + 1)), .slice Ao220 y333.length co220] (0, 0) _ rfl (by (with_reducible repeat (first | refine blk_drewN ?_ _ | refine blk_drew ?_ | refine blk_alloc ?_ _)); refine blk_put (cs := #[.int .i64 (wrap64 (a0_0 + 1)), .slice none 0 0]) ?_ 1 _ rfl; (with_reducible repeat (first | refine blk_drewN ?_ _ | refine blk_drew ?_ | refine blk_alloc ?_ _)); refine blk_put (cs := #[.int .i64 0, .slice none 0 0]) ?_ 0 _ rfl; (with_reducible repeat (first | refine blk_drewN ?_ _ | refine blk_drew ?_ | refine blk_alloc ?_ _)); exact BK273.out) Try.underlying28 rfl (by kernel_rfl)) rfl ?_
        exact ⟨_, by first | rfl | (simp [errW_none, errW_some] <;> rfl) | (simp [*, errW_none, errW_some] <;> rfl), by (with_reducible repeat (first | apply Kd.N_alloc | apply Kd.N_drewN | apply Kd.N_drew)); exact Kd.N_mono (Kd.N_far (p := ⟨gb273, 1, none⟩) (Kd.N_far (p := ⟨gb273, 0, none⟩) (Kd.N_mono HO335.out (fun k_ hk => (⟨hk, hk.2.2.2.1⟩ : _ ∧ k_ ≠ gb273))) (fun _ hk => hk.2) (.int .i64 (wrap64 (a0_0 + 1)))) (fun _ hk => hk.2) (.slice Ao220 y333.length co220)) (fun _ hk => hk.1.1), bb_ HB.out⟩
       ·rw [if_neg c191] at H
        exact absurd H (by simp)
      ·rw [if_neg c190] at H
       exact absurd H (by simp)
/-! ### spec_l04Move: the parts -/
theorem spec_l04Move.calls (k : Nat) (a0_0 : Int) (A0_1 : Option Addr) (c0_1 : Nat) (l0_1 : List (List Int)) (a1_0 : Int) (a1_1 : Int) (a1_2 : Int) (A1_3 : Option Addr) (c1_3 : Nat) (l1_3 : List Int) (r1 : Int) (r2 : List (List Int)) (w : World) (hr0_1 : Kd.C (Kd.slice 2 (Kd.int .i64)) w A0_1 l0_1.length l0_1) (hc0_1 : l0_1.length ≤ c0_1) (hr1_3 : Kd.C (Kd.int .i64) w A1_3 l1_3.length l1_3) (hc1_3 : l1_3.length ≤ c1_3) (h : spec_l04Move.f k a0_0 l0_1 a1_0 a1_1 a1_2 l1_3 = some (r1, r2)) :
  Calls Try.prog 63 #[.agg #[.int .i64 a0_0, .slice A0_1 l0_1.length c0_1], .agg #[.int .i64 a1_0, .int .i64 a1_1, .int .i64 a1_2, .slice A1_3 l1_3.length c1_3]] w fun e w' => ∃ v1_ : Value, e = .returned (.agg #[.int .i64 r1, v1_]) ∧ Kd.N (Kd.slice 2 (Kd.int .i64)) 39 w' w.heap.size (fun k_ => (w.heap.size ≤ k_)) v1_ r2 ∧ Below w.heap.size w w' := by
 by_cases g0 : a1_0 = 2
 ·exact spec_l04Move.calls_0 k a0_0 A0_1 c0_1 l0_1 a1_0 a1_1 a1_2 A1_3 c1_3 l1_3 r1 r2 w hr0_1 hc0_1 hr1_3 hc1_3 h ⟨g0⟩
 by_cases g1 : a1_0 = 1 ∨ a1_0 = 3
 ·exact spec_l04Move.calls_1 k a0_0 A0_1 c0_1 l0_1 a1_0 a1_1 a1_2 A1_3 c1_3 l1_3 r1 r2 w hr0_1 hc0_1 hr1_3 hc1_3 h ⟨g1⟩
 exact spec_l04Move.calls_2 k a0_0 A0_1 c0_1 l0_1 a1_0 a1_1 a1_2 A1_3 c1_3 l1_3 r1 r2 w hr0_1 hc0_1 hr1_3 hc1_3 h ⟨by omega⟩

end Go.Proofs.Ytbcdngjajjgmkaa.PFnExactApplyTietze
