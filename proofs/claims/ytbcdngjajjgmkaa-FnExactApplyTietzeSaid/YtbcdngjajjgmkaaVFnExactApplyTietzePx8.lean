/- Written by this session's program out of the kit's print and this session's contracts. -/
import Derived.Test.YtbcdngjajjgmkaaVFnExactApplyTietzePx0
import Derived.Test.YtbcdngjajjgmkaaVFnExactApplyTietzePx4
import Derived.Test.YtbcdngjajjgmkaaVFnExactApplyTietzePx5
import Derived.Test.YtbcdngjajjgmkaaVFnExactApplyTietzePx6
namespace Go.Proofs.Ytbcdngjajjgmkaa.PFnExactApplyTietze
open Go.RowKit Go.Proofs.YtbcdngjajjgmkaaW.PrintWords Go.Proofs.YtbcdngjajjgmkaaW.PrintLast Go.Proofs.YtbcdngjajjgmkaaW.PrintMore
set_option linter.unusedVariables false
set_option linter.unusedSimpArgs false

/-! ### spec_l04Move: part 1 -/
set_option maxHeartbeats 8000000 in
set_option maxRecDepth 100000 in
theorem spec_l04Move.calls_1 (k : Nat) (a0_0 : Int) (A0_1 : Option Addr) (c0_1 : Nat) (l0_1 : List (List Int)) (a1_0 : Int) (a1_1 : Int) (a1_2 : Int) (A1_3 : Option Addr) (c1_3 : Nat) (l1_3 : List Int) (r1 : Int) (r2 : List (List Int)) (w : World) (hr0_1 : Kd.C (Kd.slice 2 (Kd.int .i64)) w A0_1 l0_1.length l0_1) (hc0_1 : l0_1.length ≤ c0_1) (hr1_3 : Kd.C (Kd.int .i64) w A1_3 l1_3.length l1_3) (hc1_3 : l1_3.length ≤ c1_3) (h : spec_l04Move.f k a0_0 l0_1 a1_0 a1_1 a1_2 l1_3 = some (r1, r2)) (G_ : Aside0 (a1_0 = 1 ∨ a1_0 = 3)) :
  Calls Try.prog 63 #[.agg #[.int .i64 a0_0, .slice A0_1 l0_1.length c0_1], .agg #[.int .i64 a1_0, .int .i64 a1_1, .int .i64 a1_2, .slice A1_3 l1_3.length c1_3]] w fun e w' => ∃ v1_ : Value, e = .returned (.agg #[.int .i64 r1, v1_]) ∧ Kd.N (Kd.slice 2 (Kd.int .i64)) 39 w' w.heap.size (fun k_ => (w.heap.size ≤ k_)) v1_ r2 ∧ Below w.heap.size w w' := by
 have hu28 := Try.underlying28
 have hu44 := Try.underlying44
 have HR0_1 := am_ hr0_1
 have HC0_1 := am_ hc0_1
 clear hr0_1 hc0_1
 have HR1_3 := am_ hr1_3
 have HC1_3 := am_ hc1_3
 clear hr1_3 hc1_3
 have HB := am_ (Below.refl w.heap.size w)
 have H := h
 unfold spec_l04Move.f at H
 clear h
 replace H := Option.bind_eq_some_iff.mp H
 obtain ⟨t274, A30, H⟩ := H
 replace H : (if a1_0 = 1 then (if 0 ≤ a1_1 then (if a1_1 < (l0_1.length : Int) then ((spec_l04Inverse.f k (rd_L1 l0_1 a1_1)).bind fun t279 => (if a1_1 < (t274.length : Int) then (some (a0_0, (t274.set (a1_1 : Int).toNat t279))) else (none))) else (none)) else (none)) else (if a1_0 = 2 then (if 0 ≤ a1_1 then (if a1_1 < (l0_1.length : Int) then (if ((rd_L1 l0_1 a1_1).length : Int) > 0 then ((some (([] : List Int) : List Int)).bind fun y284 => (if 1 ≤ ((rd_L1 l0_1 a1_1).length : Int) then (if y284.length + ((rd_L1 l0_1 a1_1).drop 1).length < 17592186044416 then ((some (y284 ++ ((rd_L1 l0_1 a1_1).drop 1) : List Int)).bind fun y288 => (if 0 < ((rd_L1 l0_1 a1_1).length : Int) then ((some (([rd (rd_L1 l0_1 a1_1) 0] : List Int) : List Int)).bind fun y292 => (if y288.length + y292.length < 17592186044416 then ((spec_l04Reduce.f k (y288 ++ y292)).bind fun t298 => (if a1_1 < (t274.length : Int) then (some (a0_0, (t274.set (a1_1 : Int).toNat t298))) else (none))) else (none))) else (none))) else (none)) else (none))) else (some (a0_0, t274))) else (none)) else (none)) else (if a1_0 = 3 then ((some (([] : List Int) : List Int)).bind fun y302 => (if 0 ≤ a1_1 then (if a1_1 < (l0_1.length : Int) then (if y302.length + (rd_L1 l0_1 a1_1).length < 17592186044416 then ((some (y302 ++ (rd_L1 l0_1 a1_1) : List Int)).bind fun y306 => (if 0 ≤ a1_2 then (if a1_2 < (l0_1.length : Int) then (if y306.length + (rd_L1 l0_1 a1_2).length < 17592186044416 then ((spec_l04Reduce.f k (y306 ++ (rd_L1 l0_1 a1_2))).bind fun t313 => (if a1_1 < (t274.length : Int) then (some (a0_0, (t274.set (a1_1 : Int).toNat t313))) else (none))) else (none)) else (none)) else (none))) else (none)) else (none)) else (none))) else (if a1_0 = 4 then ((spec_l04Copy.f k l0_1 a1_1).bind fun t317 => (some (a0_0, t317))) else (if a1_0 = 5 then ((spec_l04Remove.f k a0_0 l0_1 a1_1 a1_2).bind fun bt320 => (some (bt320.1, bt320.2))) else ((some (([wrap64 (-(wrap64 (a0_0 + 1)))] : List Int) : List Int)).bind fun y324 => (if y324.length + l1_3.length < 17592186044416 then ((some (([(y324 ++ l1_3)] : List (List Int)) : List (List Int))).bind fun y330 => (if t274.length + y330.length < 5864062014805 then (some (wrap64 (a0_0 + 1), (t274 ++ y330))) else (none))) else (none)))))))) = some (r1, r2) := H
 have A3 := am_ A30
 clear A30
 by_cases c4 : a1_0 = 1
 ·rw [if_pos c4] at H
  have c4b0 : (a1_0 == 1) = true := beq_iff_eq.mpr c4
  have c4b1 : (a1_0 != 1) = false := bne_eq_false_iff_eq.mpr c4
  clear c4
  by_cases c5 : 0 ≤ a1_1
  ·rw [if_pos c5] at H
   have c5b0 : decide (0 ≤ a1_1) = true := decide_eq_true c5
   clear c5
   by_cases c6 : a1_1 < (l0_1.length : Int)
   ·rw [if_pos c6] at H
    have c6b0 : decide (a1_1 < (l0_1.length : Int)) = true := decide_eq_true c6
    clear c6
    replace H := Option.bind_eq_some_iff.mp H
    obtain ⟨t279, A70, H⟩ := H
    replace H : (if a1_1 < (t274.length : Int) then (some (a0_0, (t274.set (a1_1 : Int).toNat t279))) else (none)) = some (r1, r2) := H
    have A7 := am_ A70
    clear A70
    by_cases c8 : a1_1 < (t274.length : Int)
    ·rw [if_pos c8] at H
     have c8b0 : decide (a1_1 < (t274.length : Int)) = true := decide_eq_true c8
     clear c8
     obtain ⟨y282, hy282⟩ : ∃ y_ : List (List Int), y_ = (t274.set (a1_1 : Int).toNat t279) := ⟨_, rfl⟩
     replace H : (some (a0_0, y282)) = some (r1, r2) := by first | (rw [hy282]; with_reducible exact H) | (have H2_ := (Option.bind_some _ _).symm.trans H; rw [hy282]; with_reducible exact H2_) | (have H2_ := (Option.bind_some _ _).symm.trans H; with_reducible exact H2_) | with_reducible exact H | (rw [hy282]; exact H) | exact H
     have Ny282 := am_ hy282
     clear hy282
     simp only [Option.some.injEq, Prod.mk.injEq] at H
     obtain ⟨rfl, rfl⟩ := H
     go_enter Try.func63, Try.ntmps63
     try go_wp2_with (first | (refine be_ 2 28 #[.int .i64 a0_0, .slice A0_1 l0_1.length c0_1] ?_; intro gb271 hg w10 hbox hb; have n_ := ba0_ HB hbox hb hg; clear  HB hb hbox hg; obtain ⟨HB, BK271, GW271, GE271⟩ := n_) | (refine be_ 3 44 #[.int .i64 a1_0, .int .i64 a1_1, .int .i64 a1_2, .slice A1_3 l1_3.length c1_3] ?_; intro gb272 hg w11 hbox hb; have n_ := ba1_ BK271 HB hbox hb hg; clear BK271 HB hb hbox hg; obtain ⟨BK271, HB, BK272, GW272, GE272, NB271_272, NB272_271⟩ := n_) | (refine be_ 4 28 #[.int .i64 0, .slice none 0 0] ?_; intro gb273 hg w12 hbox hb; have n_ := ba2_ BK271 BK272 HB hbox hb hg; clear BK271 BK272 HB hb hbox hg; obtain ⟨BK271, BK272, HB, BK273, GW273, GE273, NB271_273, NB273_271, NB272_273, NB273_272⟩ := n_))
     have n0_ := am_ (blk_drew BK271.out)
     have n1_ := am_ (blk_drew BK272.out)
     have n2_ := am_ (blk_drew BK273.out)
     have n3_ := am_ (below_drew1 HB.out)
     clear BK271 BK272 BK273 HB; revert n0_ n1_ n2_ n3_; intro BK271 BK272 BK273 HB
     refine start_ (n := 8) (S := fun w' => w'.cell? ⟨gb271, 0, none⟩ = some (.int .i64 a0_0) ∧ w'.cell? ⟨gb271, 1, none⟩ = some (.slice A0_1 l0_1.length c0_1)) (ds := []) (bA_ 8 0) (by kernel_rfl) rfl (by kernel_rfl) ⟨bc_ BK271 0, bc_ BK271 1⟩ (fun hHeld => ?_); refine with_tabW spec_l04Move.tab1 spec_l04Move.bits1 (fun HT_ HW_ => ?_)
     generalize w12.drew = w13 at BK271 BK272 BK273 HB hHeld ⊢
     refine pz_ 0 8 (bA_ 8 1) HT_ ?_
     refine pz_ 2 10 (bA_ 8 5) HT_ ?_
     refine tz_ 1 9 (bA_ 8 7) HT_ HW_ hHeld ?_
     refine tz_ 3 11 (bA_ 8 15) HT_ HW_ hHeld ?_
     refine join_ (σ := Value × Nat) 1 (bA_ 8 127) (fun s_ => [(12, s_.1), (5, .pointer (some ⟨s_.2, 0, none⟩)), (13, .agg #[.int .i64 a0_0, s_.1])]) (fun s_ w' => (w'.cell? ⟨gb271, 0, none⟩ = some (.int .i64 a0_0) ∧ w'.cell? ⟨gb271, 1, none⟩ = some (.slice A0_1 l0_1.length c0_1)) ∧ (Kd.N (Kd.slice 2 (Kd.int .i64)) 39 w' w.heap.size (fun k_ => (w.heap.size ≤ k_) ∧ k_ ≠ gb271 ∧ k_ ≠ gb272 ∧ k_ ≠ gb273 ∧ k_ ≠ s_.2) s_.1 t274) ∧ (w'.heap[gb271]? = some (.cells #[.int .i64 a0_0, .slice A0_1 l0_1.length c0_1] 28 (0, 0))) ∧ (w'.heap[gb272]? = some (.cells #[.int .i64 a1_0, .int .i64 a1_1, .int .i64 a1_2, .slice A1_3 l1_3.length c1_3] 44 (0, 0))) ∧ (w'.heap[gb273]? = some (.cells #[.int .i64 0, .slice none 0 0] 28 (0, 0))) ∧ (w'.heap[s_.2]? = some (.cells #[.int .i64 0, .slice none 0 0] 28 (0, 0))) ∧ (w.heap.size ≤ s_.2) ∧ (w.heap.size ≤ s_.2) ∧ (gb271 ≠ s_.2) ∧ (s_.2 ≠ gb271) ∧ (gb272 ≠ s_.2) ∧ (s_.2 ≠ gb272) ∧ (gb273 ≠ s_.2) ∧ (s_.2 ≠ gb273) ∧ (Below w.heap.size w w')) ?_ ?_
     rotate_left
     ·intro hCont
      refine two_ (i := 4) (j := 6) (Ni := some 12) (Nj := some 5) (bA_ 8 31) (bA_ 8 79) rfl rfl rfl rfl (two_of HT_.out (by kernel_rfl)) (by decide) (by decide) (fun K hK => ?_) (fun K hK => ?_)
      ·skip
       refine goes_ Try.func40 (by kernel_rfl) rfl #[.slice A0_1 l0_1.length c0_1, .int .i64 (-1)] (by rfl) rfl rfl lm_ ?_
       with_reducible refine (spec_l04Copy.calls k _ _ l0_1 (-1) t274 _ ?side1 ?side2 A3.out).mono ?_
       (case side1 => exact cb_ HR0_1 HB)
       (case side2 => exact HC0_1.out)
       rintro e w14 ⟨v275, rfl, ho0, hb⟩
       refine ⟨_, rfl, ?_⟩
       have n0_ := am_ (Kd.N_lower (Kd.N_mono (ok' := fun k_ => (w.heap.size ≤ k_) ∧ k_ ≠ gb271 ∧ k_ ≠ gb272 ∧ k_ ≠ gb273) (Kd.S_N (Kd.S_bound ho0)) (fun k_ hk_ => ⟨(Nat.le_trans (below_size (bb_ HB.out)) hk_.2.1), (Kd.freshB (g := gb271) (o := .cells #[.int .i64 a0_0, .slice A0_1 l0_1.length c0_1] 28 (0, 0)) (bk_ BK271.out) k_ hk_.2.1), (Kd.freshB (g := gb272) (o := .cells #[.int .i64 a1_0, .int .i64 a1_1, .int .i64 a1_2, .slice A1_3 l1_3.length c1_3] 44 (0, 0)) (bk_ BK272.out) k_ hk_.2.1), (Kd.freshB (g := gb273) (o := .cells #[.int .i64 0, .slice none 0 0] 28 (0, 0)) (bk_ BK273.out) k_ hk_.2.1)⟩)) (below_size (bb_ HB.out)))
       have n1_ := am_ (bw_ BK271 hb)
       have n2_ := am_ (bw_ BK272 hb)
       have n3_ := am_ (bw_ BK273 hb)
       have n4_ := am_ (below_step (bb_ HB.out) hb)
       clear BK271 BK272 BK273 HB; revert n0_ n1_ n2_ n3_ n4_; intro HO276 BK271 BK272 BK273 HB
       (try clear hb)
       (try clear hb2)
       (try clear hk)
       (try clear hi)
       (try clear ho0)
       obtain ⟨Ao15, co15, eo15⟩ := Kd.N_slice HO276.out
       (first | subst eo15 | (injection eo15 with f1_ f2_ f3_; have f4_ := f1_.symm; have f5_ := f3_.symm; clear f1_ f2_ f3_; subst f4_; subst f5_))
       refine hK.out _ _ ⟨bc_ BK271 0, bc_ BK271 1⟩ (fun hHeld => ?_)
       clear hK K
       refine nm_ 12 ?_
       refine pz_ 5 13 (bA_ 8 63) HT_ ?_
       refine oz_ 6 5 (bA_ 8 127) HT_ (fun K hK => ?_)
       refine box_step ?hg (N := 5) ?hd (cs := #[.int .i64 0, .slice none 0 0]) (t := 28) ?hr ?_; (case hd => rfl); (case hg => rfl); (case hr => first | (go_simp; done) | (go_simp; rfl))
       intro gb277 hg w16 hbox hb
       have n0_ := am_ (Kd.N_below (Kd.N_elderB (by (with_reducible repeat (first | apply Kd.N_alloc | apply Kd.N_drewN | apply Kd.N_drew)); exact HO276.out) gb277 (Nat.le_of_eq hg.symm)) hb)
       have n1_ := am_ (bw_ BK271 hb)
       have n2_ := am_ (bw_ BK272 hb)
       have n3_ := am_ (bw_ BK273 hb)
       have n4_ := am_ (below_step (bb_ HB.out) hb)
       have n5_ := am_ (hbox)
       have n6_ := gs_ HB hg
       have n7_ := gs_ HB hg
       have n8_ := am_ (nl_ BK271 hg)
       have n9_ := am_ (ng_ BK271 hg)
       have n10_ := am_ (nl_ BK272 hg)
       have n11_ := am_ (ng_ BK272 hg)
       have n12_ := am_ (nl_ BK273 hg)
       have n13_ := am_ (ng_ BK273 hg)
       clear HO276 BK271 BK272 BK273 HB; revert n0_ n1_ n2_ n3_ n4_ n5_ n6_ n7_ n8_ n9_ n10_ n11_ n12_ n13_; intro HO276 BK271 BK272 BK273 HB BK277 GW277 GE277 NB271_277 NB277_271 NB272_277 NB277_272 NB273_277 NB277_273
       clear hb hbox hg
       refine hK.out _ _ ⟨bc_ BK271 0, bc_ BK271 1⟩ (fun hHeld => ?_)
       clear hK K
       refine nm_ 5 ?_
       exact norm_ (by simp only [putAll, Act.put, List.setIfInBounds_toArray, List.set_cons_zero, List.set_cons_succ]) (hCont (.slice Ao15 t274.length co15, gb277) _ ⟨hHeld, (by (with_reducible repeat (first | apply Kd.N_alloc | apply Kd.N_drewN | apply Kd.N_drew)); exact Kd.N_mono HO276.out (fun _ hk => ⟨hk.1.1, ⟨hk.1.2.1, ⟨hk.1.2.2.1, ⟨hk.1.2.2.2, hk.2⟩⟩⟩⟩)), (bk_ BK271.out), (bk_ BK272.out), (bk_ BK273.out), (bk_ BK277.out), GW277.out, GE277.out, NB271_277.out, NB277_271.out, NB272_277.out, NB277_272.out, NB273_277.out, NB277_273.out, (bb_ HB.out)⟩)
      ·skip
       refine box_step ?hg (N := 5) ?hd (cs := #[.int .i64 0, .slice none 0 0]) (t := 28) ?hr ?_; (case hd => rfl); (case hg => rfl); (case hr => first | (go_simp; done) | (go_simp; rfl))
       intro gb277 hg w14 hbox hb
       have n0_ := am_ (bw_ BK271 hb)
       have n1_ := am_ (bw_ BK272 hb)
       have n2_ := am_ (bw_ BK273 hb)
       have n3_ := am_ (below_step (bb_ HB.out) hb)
       have n4_ := am_ (hbox)
       have n5_ := gs_ HB hg
       have n6_ := gs_ HB hg
       have n7_ := am_ (nl_ BK271 hg)
       have n8_ := am_ (ng_ BK271 hg)
       have n9_ := am_ (nl_ BK272 hg)
       have n10_ := am_ (ng_ BK272 hg)
       have n11_ := am_ (nl_ BK273 hg)
       have n12_ := am_ (ng_ BK273 hg)
       clear BK271 BK272 BK273 HB; revert n0_ n1_ n2_ n3_ n4_ n5_ n6_ n7_ n8_ n9_ n10_ n11_ n12_; intro BK271 BK272 BK273 HB BK277 GW277 GE277 NB271_277 NB277_271 NB272_277 NB277_272 NB273_277 NB277_273
       clear hb hbox hg
       refine hK.out _ _ ⟨bc_ BK271 0, bc_ BK271 1⟩ (fun hHeld => ?_)
       clear hK K
       refine nm_ 5 ?_
       refine oz_ 4 12 (bA_ 8 95) HT_ (fun K hK => ?_)
       refine goes_ Try.func40 (by kernel_rfl) rfl #[.slice A0_1 l0_1.length c0_1, .int .i64 (-1)] (by rfl) rfl rfl lm_ ?_
       with_reducible refine (spec_l04Copy.calls k _ _ l0_1 (-1) t274 _ ?side1 ?side2 A3.out).mono ?_
       (case side1 => exact cb_ HR0_1 HB)
       (case side2 => exact HC0_1.out)
       rintro e w15 ⟨v275, rfl, ho0, hb⟩
       refine ⟨_, rfl, ?_⟩
       have n0_ := am_ (Kd.N_lower (Kd.N_mono (ok' := fun k_ => (w.heap.size ≤ k_) ∧ k_ ≠ gb271 ∧ k_ ≠ gb272 ∧ k_ ≠ gb273 ∧ k_ ≠ gb277) (Kd.S_N (Kd.S_bound ho0)) (fun k_ hk_ => ⟨(Nat.le_trans (below_size (bb_ HB.out)) hk_.2.1), (Kd.freshB (g := gb271) (o := .cells #[.int .i64 a0_0, .slice A0_1 l0_1.length c0_1] 28 (0, 0)) (bk_ BK271.out) k_ hk_.2.1), (Kd.freshB (g := gb272) (o := .cells #[.int .i64 a1_0, .int .i64 a1_1, .int .i64 a1_2, .slice A1_3 l1_3.length c1_3] 44 (0, 0)) (bk_ BK272.out) k_ hk_.2.1), (Kd.freshB (g := gb273) (o := .cells #[.int .i64 0, .slice none 0 0] 28 (0, 0)) (bk_ BK273.out) k_ hk_.2.1), (Kd.freshB (g := gb277) (o := .cells #[.int .i64 0, .slice none 0 0] 28 (0, 0)) (bk_ BK277.out) k_ hk_.2.1)⟩)) (below_size (bb_ HB.out)))
       have n1_ := am_ (bw_ BK271 hb)
       have n2_ := am_ (bw_ BK272 hb)
       have n3_ := am_ (bw_ BK273 hb)
       have n4_ := am_ (bw_ BK277 hb)
       have n5_ := am_ (below_step (bb_ HB.out) hb)
       clear BK271 BK272 BK273 BK277 HB; revert n0_ n1_ n2_ n3_ n4_ n5_; intro HO276 BK271 BK272 BK273 BK277 HB
       (try clear hb)
       (try clear hb2)
       (try clear hk)
       (try clear hi)
       (try clear ho0)
       obtain ⟨Ao16, co16, eo16⟩ := Kd.N_slice HO276.out
       (first | subst eo16 | (injection eo16 with f1_ f2_ f3_; have f4_ := f1_.symm; have f5_ := f3_.symm; clear f1_ f2_ f3_; subst f4_; subst f5_))
       refine hK.out _ _ ⟨bc_ BK271 0, bc_ BK271 1⟩ (fun hHeld => ?_)
       clear hK K
       refine nm_ 12 ?_
       refine pz_ 5 13 (bA_ 8 127) HT_ ?_
       exact norm_ (by simp only [putAll, Act.put, List.setIfInBounds_toArray, List.set_cons_zero, List.set_cons_succ]) (hCont (.slice Ao16 t274.length co16, gb277) _ ⟨hHeld, (by (with_reducible repeat (first | apply Kd.N_alloc | apply Kd.N_drewN | apply Kd.N_drew)); exact HO276.out), (bk_ BK271.out), (bk_ BK272.out), (bk_ BK273.out), (bk_ BK277.out), GW277.out, GE277.out, NB271_277.out, NB277_271.out, NB272_277.out, NB277_272.out, NB273_277.out, NB277_273.out, (bb_ HB.out)⟩)
     rintro ⟨v275, gb277⟩ w17 ⟨hS_, h0_, h1_, h2_, h3_, h4_, h5_, h6_, h7_, h8_, h9_, h10_, h11_, h12_, h13_⟩
     have n0_ : Aside0 (Kd.N (Kd.slice 2 (Kd.int .i64)) 39 w17 w.heap.size (fun k_ => (w.heap.size ≤ k_) ∧ k_ ≠ gb271 ∧ k_ ≠ gb272 ∧ k_ ≠ gb273 ∧ k_ ≠ gb277) v275 t274) := ⟨h0_⟩
     have n1_ : Aside0 (w17.heap[gb271]? = some (.cells #[.int .i64 a0_0, .slice A0_1 l0_1.length c0_1] 28 (0, 0))) := ⟨h1_⟩
     have n2_ : Aside0 (w17.heap[gb272]? = some (.cells #[.int .i64 a1_0, .int .i64 a1_1, .int .i64 a1_2, .slice A1_3 l1_3.length c1_3] 44 (0, 0))) := ⟨h2_⟩
     have n3_ : Aside0 (w17.heap[gb273]? = some (.cells #[.int .i64 0, .slice none 0 0] 28 (0, 0))) := ⟨h3_⟩
     have n4_ : Aside0 (w17.heap[gb277]? = some (.cells #[.int .i64 0, .slice none 0 0] 28 (0, 0))) := ⟨h4_⟩
     have n5_ : Aside0 (w.heap.size ≤ gb277) := ⟨h5_⟩
     have n6_ : Aside0 (w.heap.size ≤ gb277) := ⟨h6_⟩
     have n7_ : Aside0 (gb271 ≠ gb277) := ⟨h7_⟩
     have n8_ : Aside0 (gb277 ≠ gb271) := ⟨h8_⟩
     have n9_ : Aside0 (gb272 ≠ gb277) := ⟨h9_⟩
     have n10_ : Aside0 (gb277 ≠ gb272) := ⟨h10_⟩
     have n11_ : Aside0 (gb273 ≠ gb277) := ⟨h11_⟩
     have n12_ : Aside0 (gb277 ≠ gb273) := ⟨h12_⟩
     have n13_ : Aside0 (Below w.heap.size w w17) := ⟨h13_⟩
     clear BK271
     clear BK272
     clear BK273
     clear HB
     clear h0_ h1_ h2_ h3_ h4_ h5_ h6_ h7_ h8_ h9_ h10_ h11_ h12_ h13_
     have HO276 := n0_
     have BK271 := n1_
     have BK272 := n2_
     have BK273 := n3_
     have BK277 := n4_
     have GW277 := n5_
     have GE277 := n6_
     have NB271_277 := n7_
     have NB277_271 := n8_
     have NB272_277 := n9_
     have NB277_272 := n10_
     have NB273_277 := n11_
     have NB277_273 := n12_
     have HB := n13_
     clear n0_ n1_ n2_ n3_ n4_ n5_ n6_ n7_ n8_ n9_ n10_ n11_ n12_ n13_
     have hHeld : w17.cell? ⟨gb271, 0, none⟩ = some (.int .i64 a0_0) ∧ w17.cell? ⟨gb271, 1, none⟩ = some (.slice A0_1 l0_1.length c0_1) := hS_
     obtain ⟨Ao18, co18, eo18⟩ := Kd.N_slice HO276.out
     (first | subst eo18 | (injection eo18 with f1_ f2_ f3_; have f4_ := f1_.symm; have f5_ := f3_.symm; clear f1_ f2_ f3_; subst f4_; subst f5_))
     refine norm_ (a' := ?_) ?_ ?_
     rotate_left
     ·simp only [putAll, Act.put, List.setIfInBounds_toArray, List.set_cons_zero, List.set_cons_succ]
      rfl
     refine one_ (i := 7) (N := none) (bA_ 8 255) rfl rfl (one_of HT_.out (by kernel_rfl)) (by decide) (fun K hK => ?_)
     have hs19 : w17.cell? ⟨gb277, 0, none⟩ = some (.int .i64 0) := bc_ BK277 0
     have hfs19 := blk_frozen BK277.out 0
     have hns19_0 := NB271_277.out
     have hns19_1 := NB272_277.out
     have hns19_2 := NB273_277.out
     have hms19_0 := NB277_271.out
     have hms19_1 := NB277_272.out
     have hms19_2 := NB277_273.out
     have hs20 : w17.cell? ⟨gb277, 1, none⟩ = some (.slice none 0 0) := bc_ BK277 1
     have hfs20 := blk_frozen BK277.out 1
     have hns20_0 := NB271_277.out
     have hns20_1 := NB272_277.out
     have hns20_2 := NB273_277.out
     have hms20_0 := NB277_271.out
     have hms20_1 := NB277_272.out
     have hms20_2 := NB277_273.out
     refine skip_ (w1 := ?_) (by rfl) rfl ?_ ?_
     rotate_left
     ·go_simp
      rfl
     refine hK.out _ _ ⟨((cell_far (p := ⟨gb277, _, none⟩) NB271_277.out _).trans (((cell_far (p := ⟨gb277, _, none⟩) NB271_277.out _).trans (hHeld.1)))), ((cell_far (p := ⟨gb277, _, none⟩) NB271_277.out _).trans (((cell_far (p := ⟨gb277, _, none⟩) NB271_277.out _).trans (hHeld.2))))⟩ (fun hHeld => ?_)
     clear hK K
     refine done_ (done_of HT_.out (by kernel_rfl)) ?_
     have hnb21 := NB272_271.out
     have hnc21 := NB271_272.out
     have hnb22 := NB272_273.out
     have hnc22 := NB273_272.out
     have hnb23 := NB272_277.out
     have hnc23 := NB277_272.out
     obtain ⟨hcz24_0, hcz24_1, hcz24_2, hcz24_3, hfz24_0, hfz24_1, hfz24_2, hfz24_3⟩ := bx4_ BK272
     try go_wp2
     have n0_ : Aside0 (Kd.N (Kd.slice 2 (Kd.int .i64)) 39 ((w17.setCell ⟨gb277, 0, none⟩ (.int .i64 a0_0)).setCell ⟨gb277, 1, none⟩ (.slice Ao18 t274.length co18)) w.heap.size (fun k_ => (w.heap.size ≤ k_) ∧ k_ ≠ gb271 ∧ k_ ≠ gb272 ∧ k_ ≠ gb273 ∧ k_ ≠ gb277) (.slice Ao18 t274.length co18) t274) := ⟨by (with_reducible repeat (first | apply Kd.N_alloc | apply Kd.N_drewN | apply Kd.N_drew)); exact Kd.N_mono (Kd.N_far (p := ⟨gb277, 1, none⟩) (Kd.N_far (p := ⟨gb277, 0, none⟩) (Kd.N_mono HO276.out (fun k_ hk => (⟨hk, hk.2.2.2.2⟩ : _ ∧ k_ ≠ gb277))) (fun _ hk => hk.2) (.int .i64 a0_0)) (fun _ hk => hk.2) (.slice Ao18 t274.length co18)) (fun _ hk => ⟨hk.1.1, ⟨hk.1.2.1, ⟨hk.1.2.2.1, ⟨hk.1.2.2.2.1, hk.1.2.2.2.2⟩⟩⟩⟩)⟩
     have n1_ : Aside0 (((w17.setCell ⟨gb277, 0, none⟩ (.int .i64 a0_0)).setCell ⟨gb277, 1, none⟩ (.slice Ao18 t274.length co18)).heap[gb271]? = some (.cells #[.int .i64 a0_0, .slice A0_1 l0_1.length c0_1] 28 (0, 0))) := ⟨bk_ BK271.out⟩
     have n2_ : Aside0 (((w17.setCell ⟨gb277, 0, none⟩ (.int .i64 a0_0)).setCell ⟨gb277, 1, none⟩ (.slice Ao18 t274.length co18)).heap[gb272]? = some (.cells #[.int .i64 a1_0, .int .i64 a1_1, .int .i64 a1_2, .slice A1_3 l1_3.length c1_3] 44 (0, 0))) := ⟨bk_ BK272.out⟩
     have n3_ : Aside0 (((w17.setCell ⟨gb277, 0, none⟩ (.int .i64 a0_0)).setCell ⟨gb277, 1, none⟩ (.slice Ao18 t274.length co18)).heap[gb273]? = some (.cells #[.int .i64 0, .slice none 0 0] 28 (0, 0))) := ⟨bk_ BK273.out⟩
     have n4_ : Aside0 (((w17.setCell ⟨gb277, 0, none⟩ (.int .i64 a0_0)).setCell ⟨gb277, 1, none⟩ (.slice Ao18 t274.length co18)).heap[gb277]? = some (.cells #[.int .i64 a0_0, .slice Ao18 t274.length co18] 28 (0, 0))) := ⟨by (with_reducible repeat (first | refine blk_drewN ?_ _ | refine blk_drew ?_ | refine blk_alloc ?_ _)); refine blk_put (cs := #[.int .i64 a0_0, .slice none 0 0]) ?_ 1 _ rfl; (with_reducible repeat (first | refine blk_drewN ?_ _ | refine blk_drew ?_ | refine blk_alloc ?_ _)); refine blk_put (cs := #[.int .i64 0, .slice none 0 0]) ?_ 0 _ rfl; (with_reducible repeat (first | refine blk_drewN ?_ _ | refine blk_drew ?_ | refine blk_alloc ?_ _)); exact BK277.out⟩
     have n5_ : Aside0 (Below w.heap.size w ((w17.setCell ⟨gb277, 0, none⟩ (.int .i64 a0_0)).setCell ⟨gb277, 1, none⟩ (.slice Ao18 t274.length co18))) := ⟨bb_ HB.out⟩
     (try clear HO276)
     (try clear BK271)
     (try clear BK272)
     (try clear BK273)
     (try clear BK277)
     (try clear HB)
     generalize ((w17.setCell ⟨gb277, 0, none⟩ (.int .i64 a0_0)).setCell ⟨gb277, 1, none⟩ (.slice Ao18 t274.length co18)) = w25 at n0_ n1_ n2_ n3_ n4_ n5_ ⊢
     have HO276 := n0_
     have BK271 := n1_
     have BK272 := n2_
     have BK273 := n3_
     have BK277 := n4_
     have HB := n5_
     clear n0_ n1_ n2_ n3_ n4_ n5_
     have n0_ := am_ (Kd.N_drew HO276.out)
     have n1_ := am_ (blk_drew BK271.out)
     have n2_ := am_ (blk_drew BK272.out)
     have n3_ := am_ (blk_drew BK273.out)
     have n4_ := am_ (blk_drew BK277.out)
     have n5_ := am_ (below_drew1 HB.out)
     clear HO276 BK271 BK272 BK273 BK277 HB; revert n0_ n1_ n2_ n3_ n4_ n5_; intro HO276 BK271 BK272 BK273 BK277 HB
     have p278 : 0 ≤ (a1_1 : Int) := da_
     have q278 : a1_1 < (l0_1.length : Int) := da_
     obtain ⟨ad278, A278_0, c278_0, e278, hx278_0, hl278_0, hi278_0⟩ := at_L1 HR0_1.out a1_1 p278 q278
     have hw278_0 := hx278_0
     cases e278
     replace hx278_0 := ce_ HB hx278_0
     have HR278_0 := am_ hi278_0
     have HC278_0 := am_ hl278_0
     clear hi278_0 hl278_0
     replace p278 := eq_true p278
     replace q278 := eq_true q278
     refine start_ (n := 13) (S := fun w' => w'.cell? ⟨gb277, 0, none⟩ = some (.int .i64 a0_0) ∧ w'.cell? ⟨gb277, 1, none⟩ = some (.slice Ao18 t274.length co18) ∧ w'.cell? ⟨gb272, 0, none⟩ = some (.int .i64 a1_0) ∧ w'.cell? ⟨gb272, 1, none⟩ = some (.int .i64 a1_1) ∧ w'.cell? ⟨gb272, 2, none⟩ = some (.int .i64 a1_2) ∧ w'.cell? ⟨gb272, 3, none⟩ = some (.slice A1_3 l1_3.length c1_3) ∧ w'.cell? ⟨gb271, 0, none⟩ = some (.int .i64 a0_0) ∧ w'.cell? ⟨gb271, 1, none⟩ = some (.slice (some ad278) l0_1.length c0_1) ∧ w'.cell? (ad278.add (a1_1).toNat) = some (.slice A278_0 (rd_L1 l0_1 a1_1).length c278_0)) (ds := [12]) (bA_ 13 0) (by kernel_rfl) rfl (by kernel_rfl) ⟨bc_ BK277 0, bc_ BK277 1, bc_ BK272 0, bc_ BK272 1, bc_ BK272 2, bc_ BK272 3, bc_ BK271 0, bc_ BK271 1, (cf_ HB hw278_0)⟩ (fun hHeld => ?_); refine with_tabW spec_l04Move.tab6 spec_l04Move.bits6 (fun HT_ HW_ => ?_)
     generalize w25.drew = w26 at HO276 BK271 BK272 BK273 BK277 HB HR278_0 hx278_0 hHeld ⊢
     refine pz_ 0 33 (bA_ 13 1) HT_ ?_
     refine pz_ 2 35 (bA_ 13 5) HT_ ?_
     refine pz_ 4 37 (bA_ 13 21) HT_ ?_
     refine pz_ 6 39 (bA_ 13 85) HT_ ?_
     refine tz_ 1 34 (bA_ 13 87) HT_ HW_ hHeld ?_
     refine tz_ 3 36 (bA_ 13 95) HT_ HW_ hHeld ?_
     refine tz_ 5 38 (bA_ 13 127) HT_ HW_ hHeld ?_
     refine tz_ 7 40 (bA_ 13 255) HT_ HW_ hHeld ?_
     refine pz_ 8 41 (bA_ 13 511) HT_ ?_
     refine tz_ 9 42 (bA_ 13 1023) HT_ HW_ hHeld ?_
     refine oz_ 10 43 (bA_ 13 2047) HT_ (fun K hK => ?_)
     refine goes_ Try.func96 (by kernel_rfl) rfl #[.slice A278_0 (rd_L1 l0_1 a1_1).length c278_0] (by rfl) rfl rfl lm_ ?_
     with_reducible refine (spec_l04Inverse.calls k _ _ (rd_L1 l0_1 a1_1) t279 _ ?side1 ?side2 A7.out).mono ?_
     (case side1 => exact cb_ HR278_0 HB)
     (case side2 => exact HC278_0.out)
     rintro e w27 ⟨v280, rfl, ho0, hb⟩
     refine ⟨_, rfl, ?_⟩
     have n0_ := am_ (Kd.N_elder' (by (with_reducible repeat (first | apply Kd.N_alloc | apply Kd.N_drewN | apply Kd.N_drew)); exact HO276.out) (Kd.R_base ho0) hb)
     have n1_ := am_ (Kd.R_lower (Kd.R_newM (M := fun k_ => (w.heap.size ≤ k_)) ho0 (below_size (bb_ HB.out)) (fun k_ h_ => h_)) (below_size (bb_ HB.out)))
     have n2_ := am_ (bw_ BK271 hb)
     have n3_ := am_ (bw_ BK272 hb)
     have n4_ := am_ (bw_ BK273 hb)
     have n5_ := am_ (bw_ BK277 hb)
     have n6_ := am_ (below_step (bb_ HB.out) hb)
     clear HO276 BK271 BK272 BK273 BK277 HB; revert n0_ n1_ n2_ n3_ n4_ n5_ n6_; intro HO276 HO281 BK271 BK272 BK273 BK277 HB
     (try clear hb)
     (try clear hb2)
     (try clear hk)
     (try clear hi)
     (try clear ho0)
     have p9 : 0 ≤ (a1_1 : Int) := da_
     have q9 : (a1_1 : Int) < ((t274.length : Int) : Int) := da_
     obtain ⟨go9, co9, eo9, gb9, gl9, cl9, HG9⟩ := Kd.N_form HO276.out (by omega)
     (first | cases eo9 | (injection eo9 with ea_ en_ ec_; (first | subst ea_ | (injection ea_ with ea_; subst ea_)); subst ec_; clear en_))
     have GB9 := am_ gb9
     have GG9 := am_ HG9
     clear gb9 gl9 HG9
     obtain ⟨ce9, hcl9, hM9, hcc9, hfr9⟩ := Kd.N_elem HO276.out [] (a1_1 : Int) p9 q9
     obtain ⟨ua9_0, uc9_0, rfl, ul9_0, ge9_0⟩ := Kd.FK_slice_open hM9
     have hx9_0 := hcc9 0 _ rfl
     have hf9_0 := hfr9 0
     (try simp only [show ((Kd.slice 2 (Kd.int .i64))).sz = 1 from rfl, Nat.mul_one, Nat.add_zero] at hx9_0)
     (try simp only [show ((Kd.slice 2 (Kd.int .i64))).sz = 1 from rfl, Nat.mul_one, Nat.add_zero] at hf9_0)
     (try clear hcl9); (try clear hcc9); (try clear hfr9); (try clear hM9)
     replace p9 := eq_true p9
     replace q9 := eq_true q9
     obtain ⟨Az280_, cz280_, ez280_⟩ := Kd.R_slice HO281.out
     subst ez280_
     have HX28 := am_ (show Kd.N (Kd.slice 2 (Kd.int .i64)) 39 _ w.heap.size (fun k_ => (w.heap.size ≤ k_) ∧ some k_ ≠ ((.slice Az280_ t279.length cz280_) : Value).ownBlock ∧ k_ ≠ gb271 ∧ k_ ≠ gb272 ∧ k_ ≠ gb273 ∧ k_ ≠ gb277) (.slice (some ⟨go9, 0, none⟩) t274.length co18) t274 from (Kd.N_mono (HO276.out) (fun k_ hk => ⟨hk.1.1, ⟨hk.2, ⟨hk.1.2.1, ⟨hk.1.2.2.1, ⟨hk.1.2.2.2.1, hk.1.2.2.2.2⟩⟩⟩⟩⟩)))
     replace HX28 := am_ (show Kd.N (Kd.slice 2 (Kd.int .i64)) 39 _ w.heap.size (fun k_ => (w.heap.size ≤ k_) ∧ k_ ≠ gb271 ∧ k_ ≠ gb272 ∧ k_ ≠ gb273 ∧ k_ ≠ gb277) (.slice (some ⟨go9, 0, none⟩) t274.length co18) t274 from Kd.N_mono HX28.out (fun k_ hk => ⟨hk.1, ⟨hk.2.2.1, ⟨hk.2.2.2.1, ⟨hk.2.2.2.2.1, hk.2.2.2.2.2⟩⟩⟩⟩))
     obtain ⟨ce28, hcl28, hM28, hcc28, hfr28⟩ := Kd.N_elem HX28.out [] (a1_1 : Int) da_ (by have h_ : (a1_1 : Int) < ((t274.length : Int) : Int) := da_; first | exact h_ | (have e_ := (Kd.N_reads' HO276.out).1; omega) | simpa using h_)
     obtain ⟨ua28_0, uc28_0, rfl, ul28_0, ge28_0⟩ := Kd.FK_slice_open hM28
     have HP28 := (Kd.N_seg HX28.out (a1_1 : Int) da_ (by have h_ : (a1_1 : Int) < ((t274.length : Int) : Int) := da_; first | exact h_ | (have e_ := (Kd.N_reads' HO276.out).1; omega) | simpa using h_) (seg := [(.slice Az280_ t279.length cz280_)]) (j := 0) hcl28 hcc28 (show 1 ≤ 1 from by decide) (x' := t279) (Kd.FK_slice_mk (Kd.R_reads' (Kd.R_mono (ok' := (fun k_ => ((fun k_ => (w.heap.size ≤ k_) ∧ k_ ≠ gb271 ∧ k_ ≠ gb272 ∧ k_ ≠ gb273 ∧ k_ ≠ gb277)) k_ ∧ k_ ≠ go9)) (Kd.R_types (Kd.R_types (Kd.R_types (Kd.R_types (Kd.R_apart' (HO281.out) (Kd.N_typed HO276.out) (by decide)) BK271.out (by decide)) BK272.out (by decide)) BK273.out (by decide)) BK277.out (by decide)) (fun k_ hk => ⟨⟨hk.1.1.1.1.1.1, ⟨hk.1.1.1.2, ⟨hk.1.1.2, ⟨hk.1.2, hk.2⟩⟩⟩⟩, fun e_ => (hk.1.1.1.1.2) (by rw [e_]; rfl)⟩))).2.1 (Kd.R_F (Kd.R_mono (ok' := (fun k_ => ((fun k_ => (w.heap.size ≤ k_) ∧ k_ ≠ gb271 ∧ k_ ≠ gb272 ∧ k_ ≠ gb273 ∧ k_ ≠ gb277)) k_ ∧ k_ ≠ go9)) (Kd.R_types (Kd.R_types (Kd.R_types (Kd.R_types (Kd.R_apart' (HO281.out) (Kd.N_typed HO276.out) (by decide)) BK271.out (by decide)) BK272.out (by decide)) BK273.out (by decide)) BK277.out (by decide)) (fun k_ hk => ⟨⟨hk.1.1.1.1.1.1, ⟨hk.1.1.1.2, ⟨hk.1.1.2, ⟨hk.1.2, hk.2⟩⟩⟩⟩, fun e_ => (hk.1.1.1.1.2) (by rw [e_]; rfl)⟩)))) (fun _ hk => hk)).1
     (try simp only [show ((Kd.slice 2 (Kd.int .i64))).sz = 1 from rfl, Nat.mul_one, Nat.add_zero] at HP28)
     rw [← Ny282.out] at HP28
     have HQ28 := am_ HP28
     (try clear hcl28); (try clear hcc28); (try clear hfr28); (try clear hM28); (try clear HP28)
     refine hK.out _ _ ⟨bc_ BK277 0, bc_ BK277 1, bc_ BK272 0, bc_ BK272 1, bc_ BK272 2, bc_ BK272 3, bc_ BK271 0, bc_ BK271 1, (cf_ HB hw278_0)⟩ (fun hHeld => ?_)
     clear hK K
     refine nm_ 43 ?_
     refine pz_ 11 44 (bA_ 13 4095) HT_ ?_
     refine last_ (i := 12) (N := none) (bA_ 13 8191) rfl rfl (one_of HT_.out (by kernel_rfl)) (by decide) (fun K hK => ?_)
     refine skip_ (w1 := ?_) (by rfl) rfl ?_ ?_
     rotate_left
     ·go_simp
      rfl
     refine hK.out _ _ ?_
     clear hK K
     refine done_ (done_of HT_.out (by kernel_rfl)) ?_
     have n0_ : Aside0 (Kd.N (Kd.slice 2 (Kd.int .i64)) 39 (w27.setCell ⟨go9, (a1_1 : Int).toNat, none⟩ ((.slice Az280_ t279.length cz280_))) w.heap.size (fun k_ => (w.heap.size ≤ k_) ∧ k_ ≠ gb271 ∧ k_ ≠ gb272 ∧ k_ ≠ gb273 ∧ k_ ≠ gb277) (.slice (some ⟨go9, 0, none⟩) t274.length co18) y282) := ⟨by (with_reducible repeat (first | apply Kd.N_alloc | apply Kd.N_drewN | apply Kd.N_drew)); exact HQ28.out⟩
     have n1_ : Aside0 ((w27.setCell ⟨go9, (a1_1 : Int).toNat, none⟩ ((.slice Az280_ t279.length cz280_))).heap[gb271]? = some (.cells #[.int .i64 a0_0, .slice (some ad278) l0_1.length c0_1] 28 (0, 0))) := ⟨by (with_reducible repeat (first | refine blk_drewN ?_ _ | refine blk_drew ?_ | refine blk_alloc ?_ _)); refine blk_far ?_ (by have h_ := Kd.N_away (g := gb271) HO276.out (fun _ hk => by first | exact hk.2.1 | exact hk.1.2.1 | exact hk.1.1.2.1 | exact hk.1.1.1.2.1 | (simp [hk]; done)); intro e_; exact h_ (by rw [e_]; rfl)) _; (with_reducible repeat (first | refine blk_drewN ?_ _ | refine blk_drew ?_ | refine blk_alloc ?_ _)); exact BK271.out⟩
     have n2_ : Aside0 ((w27.setCell ⟨go9, (a1_1 : Int).toNat, none⟩ ((.slice Az280_ t279.length cz280_))).heap[gb272]? = some (.cells #[.int .i64 a1_0, .int .i64 a1_1, .int .i64 a1_2, .slice A1_3 l1_3.length c1_3] 44 (0, 0))) := ⟨by (with_reducible repeat (first | refine blk_drewN ?_ _ | refine blk_drew ?_ | refine blk_alloc ?_ _)); refine blk_far ?_ (by have h_ := Kd.N_away (g := gb272) HO276.out (fun _ hk => by first | exact hk.2.2.1 | exact hk.1.2.2.1 | exact hk.1.1.2.2.1 | exact hk.1.1.1.2.2.1 | (simp [hk]; done)); intro e_; exact h_ (by rw [e_]; rfl)) _; (with_reducible repeat (first | refine blk_drewN ?_ _ | refine blk_drew ?_ | refine blk_alloc ?_ _)); exact BK272.out⟩
     have n3_ : Aside0 ((w27.setCell ⟨go9, (a1_1 : Int).toNat, none⟩ ((.slice Az280_ t279.length cz280_))).heap[gb273]? = some (.cells #[.int .i64 0, .slice none 0 0] 28 (0, 0))) := ⟨by (with_reducible repeat (first | refine blk_drewN ?_ _ | refine blk_drew ?_ | refine blk_alloc ?_ _)); refine blk_far ?_ (by have h_ := Kd.N_away (g := gb273) HO276.out (fun _ hk => by first | exact hk.2.2.2.1 | exact hk.1.2.2.2.1 | exact hk.1.1.2.2.2.1 | exact hk.1.1.1.2.2.2.1 | (simp [hk]; done)); intro e_; exact h_ (by rw [e_]; rfl)) _; (with_reducible repeat (first | refine blk_drewN ?_ _ | refine blk_drew ?_ | refine blk_alloc ?_ _)); exact BK273.out⟩
     have n4_ : Aside0 ((w27.setCell ⟨go9, (a1_1 : Int).toNat, none⟩ ((.slice Az280_ t279.length cz280_))).heap[gb277]? = some (.cells #[.int .i64 a0_0, .slice (some ⟨go9, 0, none⟩) t274.length co18] 28 (0, 0))) := ⟨by (with_reducible repeat (first | refine blk_drewN ?_ _ | refine blk_drew ?_ | refine blk_alloc ?_ _)); refine blk_far ?_ (by have h_ := Kd.N_away (g := gb277) HO276.out (fun _ hk => by first | exact hk.2.2.2.2 | exact hk.1.2.2.2.2 | exact hk.1.1.2.2.2.2 | exact hk.1.1.1.2.2.2.2 | (simp [hk]; done)); intro e_; exact h_ (by rw [e_]; rfl)) _; (with_reducible repeat (first | refine blk_drewN ?_ _ | refine blk_drew ?_ | refine blk_alloc ?_ _)); exact BK277.out⟩
     have n5_ : Aside0 (Below w.heap.size w (w27.setCell ⟨go9, (a1_1 : Int).toNat, none⟩ ((.slice Az280_ t279.length cz280_)))) := ⟨bb_ HB.out⟩
     (try clear HO276)
     (try clear BK271)
     (try clear BK272)
     (try clear BK273)
     (try clear BK277)
     (try clear HB)
     generalize (w27.setCell ⟨go9, (a1_1 : Int).toNat, none⟩ ((.slice Az280_ t279.length cz280_))) = w29 at n0_ n1_ n2_ n3_ n4_ n5_ ⊢
     have HO276 := n0_
     have BK271 := n1_
     have BK272 := n2_
     have BK273 := n3_
     have BK277 := n4_
     have HB := n5_
     clear n0_ n1_ n2_ n3_ n4_ n5_
     have hnb30 := NB277_271.out
     have hnc30 := NB271_277.out
     have hnb31 := NB277_273.out
     have hnc31 := NB273_277.out
     obtain ⟨hcz32_0, hcz32_1, hfz32_0, hfz32_1⟩ := bx2_ BK277
     have hnb33 := NB273_271.out
     have hnc33 := NB271_273.out
     obtain ⟨hcz34_0, hcz34_1, hfz34_0, hfz34_1⟩ := bx2_ BK273
     try go_wp2
     refine bodyPost_ret (results_cell_row rfl _ _ gb273 28 #[.int .i64 a0_0, .slice (some ⟨go9, 0, none⟩) t274.length co18] (0, 0) _ rfl (by (with_reducible repeat (first | refine blk_drewN ?_ _ | refine blk_drew ?_ | refine blk_alloc ?_ _)); refine blk_put (cs := #[.int .i64 a0_0, .slice none 0 0]) ?_ 1 _ rfl; (with_reducible repeat (first | refine blk_drewN ?_ _ | refine blk_drew ?_ | refine blk_alloc ?_ _)); refine blk_put (cs := #[.int .i64 0, .slice none 0 0]) ?_ 0 _ rfl; (with_reducible repeat (first | refine blk_drewN ?_ _ | refine blk_drew ?_ | refine blk_alloc ?_ _)); exact BK273.out) Try.underlying28 rfl (by kernel_rfl)) rfl ?_
     exact ⟨_, by first | rfl | (simp [errW_none, errW_some] <;> rfl) | (simp [*, errW_none, errW_some] <;> rfl), by (with_reducible repeat (first | apply Kd.N_alloc | apply Kd.N_drewN | apply Kd.N_drew)); exact Kd.N_mono (Kd.N_far (p := ⟨gb273, 1, none⟩) (Kd.N_far (p := ⟨gb273, 0, none⟩) (Kd.N_mono HO276.out (fun k_ hk => (⟨hk, hk.2.2.2.1⟩ : _ ∧ k_ ≠ gb273))) (fun _ hk => hk.2) (.int .i64 a0_0)) (fun _ hk => hk.2) (.slice (some ⟨go9, 0, none⟩) t274.length co18)) (fun _ hk => hk.1.1), bb_ HB.out⟩
    ·rw [if_neg c8] at H
     exact absurd H (by simp)
   ·rw [if_neg c6] at H
    exact absurd H (by simp)
  ·rw [if_neg c5] at H
   exact absurd H (by simp)
 ·rw [if_neg c4] at H
  have c4b0 : (a1_0 == 1) = false := beq_eq_false_iff_ne.mpr c4
  have c4b1 : (a1_0 != 1) = true := bne_iff_ne.mpr c4
  by_cases c35 : a1_0 = 2
  · exact absurd c35 (by have g_ := G_.out; clear H; omega)
  ·rw [if_neg c35] at H
   have c35b0 : (a1_0 == 2) = false := beq_eq_false_iff_ne.mpr c35
   have c35b1 : (a1_0 != 2) = true := bne_iff_ne.mpr c35
   by_cases c103 : a1_0 = 3
   ·rw [if_pos c103] at H
    have c103b0 : (a1_0 == 3) = true := beq_iff_eq.mpr c103
    have c103b1 : (a1_0 != 3) = false := bne_eq_false_iff_eq.mpr c103
    clear c103
    obtain ⟨y302, hy302⟩ : ∃ y_ : List Int, y_ = (([] : List Int)) := ⟨_, rfl⟩
    replace H : (if 0 ≤ a1_1 then (if a1_1 < (l0_1.length : Int) then (if y302.length + (rd_L1 l0_1 a1_1).length < 17592186044416 then ((some (y302 ++ (rd_L1 l0_1 a1_1) : List Int)).bind fun y306 => (if 0 ≤ a1_2 then (if a1_2 < (l0_1.length : Int) then (if y306.length + (rd_L1 l0_1 a1_2).length < 17592186044416 then ((spec_l04Reduce.f k (y306 ++ (rd_L1 l0_1 a1_2))).bind fun t313 => (if a1_1 < (t274.length : Int) then (some (a0_0, (t274.set (a1_1 : Int).toNat t313))) else (none))) else (none)) else (none)) else (none))) else (none)) else (none)) else (none)) = some (r1, r2) := by first | (rw [hy302]; with_reducible exact H) | (have H2_ := (Option.bind_some _ _).symm.trans H; rw [hy302]; with_reducible exact H2_) | (have H2_ := (Option.bind_some _ _).symm.trans H; with_reducible exact H2_) | with_reducible exact H | (rw [hy302]; exact H) | exact H
    have Ny302 := am_ hy302
    clear hy302
    by_cases c104 : 0 ≤ a1_1
    ·rw [if_pos c104] at H
     have c104b0 : decide (0 ≤ a1_1) = true := decide_eq_true c104
     clear c104
     by_cases c105 : a1_1 < (l0_1.length : Int)
     ·rw [if_pos c105] at H
      have c105b0 : decide (a1_1 < (l0_1.length : Int)) = true := decide_eq_true c105
      clear c105
      by_cases c106 : y302.length + (rd_L1 l0_1 a1_1).length < 17592186044416
      ·rw [if_pos c106] at H
       have LMc106 := am_ c106
       clear c106
       obtain ⟨y306, hy306⟩ : ∃ y_ : List Int, y_ = (y302 ++ (rd_L1 l0_1 a1_1)) := ⟨_, rfl⟩
       replace H : (if 0 ≤ a1_2 then (if a1_2 < (l0_1.length : Int) then (if y306.length + (rd_L1 l0_1 a1_2).length < 17592186044416 then ((spec_l04Reduce.f k (y306 ++ (rd_L1 l0_1 a1_2))).bind fun t313 => (if a1_1 < (t274.length : Int) then (some (a0_0, (t274.set (a1_1 : Int).toNat t313))) else (none))) else (none)) else (none)) else (none)) = some (r1, r2) := by first | (rw [hy306]; with_reducible exact H) | (have H2_ := (Option.bind_some _ _).symm.trans H; rw [hy306]; with_reducible exact H2_) | (have H2_ := (Option.bind_some _ _).symm.trans H; with_reducible exact H2_) | with_reducible exact H | (rw [hy306]; exact H) | exact H
       have Ny306 := am_ hy306
       clear hy306
       by_cases c107 : 0 ≤ a1_2
       ·rw [if_pos c107] at H
        have c107b0 : decide (0 ≤ a1_2) = true := decide_eq_true c107
        clear c107
        by_cases c108 : a1_2 < (l0_1.length : Int)
        ·rw [if_pos c108] at H
         have c108b0 : decide (a1_2 < (l0_1.length : Int)) = true := decide_eq_true c108
         clear c108
         by_cases c109 : y306.length + (rd_L1 l0_1 a1_2).length < 17592186044416
         ·rw [if_pos c109] at H
          have LMc109 := am_ c109
          clear c109
          obtain ⟨y310, hy310⟩ : ∃ y_ : List Int, y_ = (y306 ++ (rd_L1 l0_1 a1_2)) := ⟨_, rfl⟩
          replace H : ((spec_l04Reduce.f k y310).bind fun t313 => (if a1_1 < (t274.length : Int) then (some (a0_0, (t274.set (a1_1 : Int).toNat t313))) else (none))) = some (r1, r2) := by first | (rw [hy310]; with_reducible exact H) | (have H2_ := (Option.bind_some _ _).symm.trans H; rw [hy310]; with_reducible exact H2_) | (have H2_ := (Option.bind_some _ _).symm.trans H; with_reducible exact H2_) | with_reducible exact H | (rw [hy310]; exact H) | exact H
          have Ny310 := am_ hy310
          clear hy310
          replace H := Option.bind_eq_some_iff.mp H
          obtain ⟨t313, A1100, H⟩ := H
          replace H : (if a1_1 < (t274.length : Int) then (some (a0_0, (t274.set (a1_1 : Int).toNat t313))) else (none)) = some (r1, r2) := H
          have A110 := am_ A1100
          clear A1100
          by_cases c111 : a1_1 < (t274.length : Int)
          ·rw [if_pos c111] at H
           have c111b0 : decide (a1_1 < (t274.length : Int)) = true := decide_eq_true c111
           clear c111
           obtain ⟨y316, hy316⟩ : ∃ y_ : List (List Int), y_ = (t274.set (a1_1 : Int).toNat t313) := ⟨_, rfl⟩
           replace H : (some (a0_0, y316)) = some (r1, r2) := by first | (rw [hy316]; with_reducible exact H) | (have H2_ := (Option.bind_some _ _).symm.trans H; rw [hy316]; with_reducible exact H2_) | (have H2_ := (Option.bind_some _ _).symm.trans H; with_reducible exact H2_) | with_reducible exact H | (rw [hy316]; exact H) | exact H
           have Ny316 := am_ hy316
           clear hy316
           simp only [Option.some.injEq, Prod.mk.injEq] at H
           obtain ⟨rfl, rfl⟩ := H
           go_enter Try.func63, Try.ntmps63
           try go_wp2_with (first | (refine be_ 2 28 #[.int .i64 a0_0, .slice A0_1 l0_1.length c0_1] ?_; intro gb271 hg w113 hbox hb; have n_ := ba0_ HB hbox hb hg; clear  HB hb hbox hg; obtain ⟨HB, BK271, GW271, GE271⟩ := n_) | (refine be_ 3 44 #[.int .i64 a1_0, .int .i64 a1_1, .int .i64 a1_2, .slice A1_3 l1_3.length c1_3] ?_; intro gb272 hg w114 hbox hb; have n_ := ba1_ BK271 HB hbox hb hg; clear BK271 HB hb hbox hg; obtain ⟨BK271, HB, BK272, GW272, GE272, NB271_272, NB272_271⟩ := n_) | (refine be_ 4 28 #[.int .i64 0, .slice none 0 0] ?_; intro gb273 hg w115 hbox hb; have n_ := ba2_ BK271 BK272 HB hbox hb hg; clear BK271 BK272 HB hb hbox hg; obtain ⟨BK271, BK272, HB, BK273, GW273, GE273, NB271_273, NB273_271, NB272_273, NB273_272⟩ := n_))
           have n0_ := am_ (blk_drew BK271.out)
           have n1_ := am_ (blk_drew BK272.out)
           have n2_ := am_ (blk_drew BK273.out)
           have n3_ := am_ (below_drew1 HB.out)
           clear BK271 BK272 BK273 HB; revert n0_ n1_ n2_ n3_; intro BK271 BK272 BK273 HB
           refine start_ (n := 8) (S := fun w' => w'.cell? ⟨gb271, 0, none⟩ = some (.int .i64 a0_0) ∧ w'.cell? ⟨gb271, 1, none⟩ = some (.slice A0_1 l0_1.length c0_1)) (ds := []) (bA_ 8 0) (by kernel_rfl) rfl (by kernel_rfl) ⟨bc_ BK271 0, bc_ BK271 1⟩ (fun hHeld => ?_); refine with_tabW spec_l04Move.tab1 spec_l04Move.bits1 (fun HT_ HW_ => ?_)
           generalize w115.drew = w116 at BK271 BK272 BK273 HB hHeld ⊢
           refine pz_ 0 8 (bA_ 8 1) HT_ ?_
           refine pz_ 2 10 (bA_ 8 5) HT_ ?_
           refine tz_ 1 9 (bA_ 8 7) HT_ HW_ hHeld ?_
           refine tz_ 3 11 (bA_ 8 15) HT_ HW_ hHeld ?_
           refine join_ (σ := Value × Nat) 1 (bA_ 8 127) (fun s_ => [(12, s_.1), (5, .pointer (some ⟨s_.2, 0, none⟩)), (13, .agg #[.int .i64 a0_0, s_.1])]) (fun s_ w' => (w'.cell? ⟨gb271, 0, none⟩ = some (.int .i64 a0_0) ∧ w'.cell? ⟨gb271, 1, none⟩ = some (.slice A0_1 l0_1.length c0_1)) ∧ (Kd.N (Kd.slice 2 (Kd.int .i64)) 39 w' w.heap.size (fun k_ => (w.heap.size ≤ k_) ∧ k_ ≠ gb271 ∧ k_ ≠ gb272 ∧ k_ ≠ gb273 ∧ k_ ≠ s_.2) s_.1 t274) ∧ (w'.heap[gb271]? = some (.cells #[.int .i64 a0_0, .slice A0_1 l0_1.length c0_1] 28 (0, 0))) ∧ (w'.heap[gb272]? = some (.cells #[.int .i64 a1_0, .int .i64 a1_1, .int .i64 a1_2, .slice A1_3 l1_3.length c1_3] 44 (0, 0))) ∧ (w'.heap[gb273]? = some (.cells #[.int .i64 0, .slice none 0 0] 28 (0, 0))) ∧ (w'.heap[s_.2]? = some (.cells #[.int .i64 0, .slice none 0 0] 28 (0, 0))) ∧ (w.heap.size ≤ s_.2) ∧ (w.heap.size ≤ s_.2) ∧ (gb271 ≠ s_.2) ∧ (s_.2 ≠ gb271) ∧ (gb272 ≠ s_.2) ∧ (s_.2 ≠ gb272) ∧ (gb273 ≠ s_.2) ∧ (s_.2 ≠ gb273) ∧ (Below w.heap.size w w')) ?_ ?_
           rotate_left
           ·intro hCont
            refine two_ (i := 4) (j := 6) (Ni := some 12) (Nj := some 5) (bA_ 8 31) (bA_ 8 79) rfl rfl rfl rfl (two_of HT_.out (by kernel_rfl)) (by decide) (by decide) (fun K hK => ?_) (fun K hK => ?_)
            ·skip
             refine goes_ Try.func40 (by kernel_rfl) rfl #[.slice A0_1 l0_1.length c0_1, .int .i64 (-1)] (by rfl) rfl rfl lm_ ?_
             with_reducible refine (spec_l04Copy.calls k _ _ l0_1 (-1) t274 _ ?side1 ?side2 A3.out).mono ?_
             (case side1 => exact cb_ HR0_1 HB)
             (case side2 => exact HC0_1.out)
             rintro e w117 ⟨v275, rfl, ho0, hb⟩
             refine ⟨_, rfl, ?_⟩
             have n0_ := am_ (Kd.N_lower (Kd.N_mono (ok' := fun k_ => (w.heap.size ≤ k_) ∧ k_ ≠ gb271 ∧ k_ ≠ gb272 ∧ k_ ≠ gb273) (Kd.S_N (Kd.S_bound ho0)) (fun k_ hk_ => ⟨(Nat.le_trans (below_size (bb_ HB.out)) hk_.2.1), (Kd.freshB (g := gb271) (o := .cells #[.int .i64 a0_0, .slice A0_1 l0_1.length c0_1] 28 (0, 0)) (bk_ BK271.out) k_ hk_.2.1), (Kd.freshB (g := gb272) (o := .cells #[.int .i64 a1_0, .int .i64 a1_1, .int .i64 a1_2, .slice A1_3 l1_3.length c1_3] 44 (0, 0)) (bk_ BK272.out) k_ hk_.2.1), (Kd.freshB (g := gb273) (o := .cells #[.int .i64 0, .slice none 0 0] 28 (0, 0)) (bk_ BK273.out) k_ hk_.2.1)⟩)) (below_size (bb_ HB.out)))
             have n1_ := am_ (bw_ BK271 hb)
             have n2_ := am_ (bw_ BK272 hb)
             have n3_ := am_ (bw_ BK273 hb)
             have n4_ := am_ (below_step (bb_ HB.out) hb)
             clear BK271 BK272 BK273 HB; revert n0_ n1_ n2_ n3_ n4_; intro HO276 BK271 BK272 BK273 HB
             (try clear hb)
             (try clear hb2)
             (try clear hk)
             (try clear hi)
             (try clear ho0)
             obtain ⟨Ao118, co118, eo118⟩ := Kd.N_slice HO276.out
             (first | subst eo118 | (injection eo118 with f1_ f2_ f3_; have f4_ := f1_.symm; have f5_ := f3_.symm; clear f1_ f2_ f3_; subst f4_; subst f5_))
             refine hK.out _ _ ⟨bc_ BK271 0, bc_ BK271 1⟩ (fun hHeld => ?_)
             clear hK K
             refine nm_ 12 ?_
             refine pz_ 5 13 (bA_ 8 63) HT_ ?_
             refine oz_ 6 5 (bA_ 8 127) HT_ (fun K hK => ?_)
             refine box_step ?hg (N := 5) ?hd (cs := #[.int .i64 0, .slice none 0 0]) (t := 28) ?hr ?_; (case hd => rfl); (case hg => rfl); (case hr => first | (go_simp; done) | (go_simp; rfl))
             intro gb277 hg w119 hbox hb
             have n0_ := am_ (Kd.N_below (Kd.N_elderB (by (with_reducible repeat (first | apply Kd.N_alloc | apply Kd.N_drewN | apply Kd.N_drew)); exact HO276.out) gb277 (Nat.le_of_eq hg.symm)) hb)
             have n1_ := am_ (bw_ BK271 hb)
             have n2_ := am_ (bw_ BK272 hb)
             have n3_ := am_ (bw_ BK273 hb)
             have n4_ := am_ (below_step (bb_ HB.out) hb)
             have n5_ := am_ (hbox)
             have n6_ := gs_ HB hg
             have n7_ := gs_ HB hg
             have n8_ := am_ (nl_ BK271 hg)
             have n9_ := am_ (ng_ BK271 hg)
             have n10_ := am_ (nl_ BK272 hg)
             have n11_ := am_ (ng_ BK272 hg)
             have n12_ := am_ (nl_ BK273 hg)
             have n13_ := am_ (ng_ BK273 hg)
             clear HO276 BK271 BK272 BK273 HB; revert n0_ n1_ n2_ n3_ n4_ n5_ n6_ n7_ n8_ n9_ n10_ n11_ n12_ n13_; intro HO276 BK271 BK272 BK273 HB BK277 GW277 GE277 NB271_277 NB277_271 NB272_277 NB277_272 NB273_277 NB277_273
             clear hb hbox hg
             refine hK.out _ _ ⟨bc_ BK271 0, bc_ BK271 1⟩ (fun hHeld => ?_)
             clear hK K
             refine nm_ 5 ?_
             exact norm_ (by simp only [putAll, Act.put, List.setIfInBounds_toArray, List.set_cons_zero, List.set_cons_succ]) (hCont (.slice Ao118 t274.length co118, gb277) _ ⟨hHeld, (by (with_reducible repeat (first | apply Kd.N_alloc | apply Kd.N_drewN | apply Kd.N_drew)); exact Kd.N_mono HO276.out (fun _ hk => ⟨hk.1.1, ⟨hk.1.2.1, ⟨hk.1.2.2.1, ⟨hk.1.2.2.2, hk.2⟩⟩⟩⟩)), (bk_ BK271.out), (bk_ BK272.out), (bk_ BK273.out), (bk_ BK277.out), GW277.out, GE277.out, NB271_277.out, NB277_271.out, NB272_277.out, NB277_272.out, NB273_277.out, NB277_273.out, (bb_ HB.out)⟩)
            ·skip
             refine box_step ?hg (N := 5) ?hd (cs := #[.int .i64 0, .slice none 0 0]) (t := 28) ?hr ?_; (case hd => rfl); (case hg => rfl); (case hr => first | (go_simp; done) | (go_simp; rfl))
             intro gb277 hg w117 hbox hb
             have n0_ := am_ (bw_ BK271 hb)
             have n1_ := am_ (bw_ BK272 hb)
             have n2_ := am_ (bw_ BK273 hb)
             have n3_ := am_ (below_step (bb_ HB.out) hb)
             have n4_ := am_ (hbox)
             have n5_ := gs_ HB hg
             have n6_ := gs_ HB hg
             have n7_ := am_ (nl_ BK271 hg)
             have n8_ := am_ (ng_ BK271 hg)
             have n9_ := am_ (nl_ BK272 hg)
             have n10_ := am_ (ng_ BK272 hg)
             have n11_ := am_ (nl_ BK273 hg)
             have n12_ := am_ (ng_ BK273 hg)
             clear BK271 BK272 BK273 HB; revert n0_ n1_ n2_ n3_ n4_ n5_ n6_ n7_ n8_ n9_ n10_ n11_ n12_; intro BK271 BK272 BK273 HB BK277 GW277 GE277 NB271_277 NB277_271 NB272_277 NB277_272 NB273_277 NB277_273
             clear hb hbox hg
             refine hK.out _ _ ⟨bc_ BK271 0, bc_ BK271 1⟩ (fun hHeld => ?_)
             clear hK K
             refine nm_ 5 ?_
             refine oz_ 4 12 (bA_ 8 95) HT_ (fun K hK => ?_)
             refine goes_ Try.func40 (by kernel_rfl) rfl #[.slice A0_1 l0_1.length c0_1, .int .i64 (-1)] (by rfl) rfl rfl lm_ ?_
             with_reducible refine (spec_l04Copy.calls k _ _ l0_1 (-1) t274 _ ?side1 ?side2 A3.out).mono ?_
             (case side1 => exact cb_ HR0_1 HB)
             (case side2 => exact HC0_1.out)
             rintro e w118 ⟨v275, rfl, ho0, hb⟩
             refine ⟨_, rfl, ?_⟩
             have n0_ := am_ (Kd.N_lower (Kd.N_mono (ok' := fun k_ => (w.heap.size ≤ k_) ∧ k_ ≠ gb271 ∧ k_ ≠ gb272 ∧ k_ ≠ gb273 ∧ k_ ≠ gb277) (Kd.S_N (Kd.S_bound ho0)) (fun k_ hk_ => ⟨(Nat.le_trans (below_size (bb_ HB.out)) hk_.2.1), (Kd.freshB (g := gb271) (o := .cells #[.int .i64 a0_0, .slice A0_1 l0_1.length c0_1] 28 (0, 0)) (bk_ BK271.out) k_ hk_.2.1), (Kd.freshB (g := gb272) (o := .cells #[.int .i64 a1_0, .int .i64 a1_1, .int .i64 a1_2, .slice A1_3 l1_3.length c1_3] 44 (0, 0)) (bk_ BK272.out) k_ hk_.2.1), (Kd.freshB (g := gb273) (o := .cells #[.int .i64 0, .slice none 0 0] 28 (0, 0)) (bk_ BK273.out) k_ hk_.2.1), (Kd.freshB (g := gb277) (o := .cells #[.int .i64 0, .slice none 0 0] 28 (0, 0)) (bk_ BK277.out) k_ hk_.2.1)⟩)) (below_size (bb_ HB.out)))
             have n1_ := am_ (bw_ BK271 hb)
             have n2_ := am_ (bw_ BK272 hb)
             have n3_ := am_ (bw_ BK273 hb)
             have n4_ := am_ (bw_ BK277 hb)
             have n5_ := am_ (below_step (bb_ HB.out) hb)
             clear BK271 BK272 BK273 BK277 HB; revert n0_ n1_ n2_ n3_ n4_ n5_; intro HO276 BK271 BK272 BK273 BK277 HB
             (try clear hb)
             (try clear hb2)
             (try clear hk)
             (try clear hi)
             (try clear ho0)
             obtain ⟨Ao119, co119, eo119⟩ := Kd.N_slice HO276.out
             (first | subst eo119 | (injection eo119 with f1_ f2_ f3_; have f4_ := f1_.symm; have f5_ := f3_.symm; clear f1_ f2_ f3_; subst f4_; subst f5_))
             refine hK.out _ _ ⟨bc_ BK271 0, bc_ BK271 1⟩ (fun hHeld => ?_)
             clear hK K
             refine nm_ 12 ?_
             refine pz_ 5 13 (bA_ 8 127) HT_ ?_
             exact norm_ (by simp only [putAll, Act.put, List.setIfInBounds_toArray, List.set_cons_zero, List.set_cons_succ]) (hCont (.slice Ao119 t274.length co119, gb277) _ ⟨hHeld, (by (with_reducible repeat (first | apply Kd.N_alloc | apply Kd.N_drewN | apply Kd.N_drew)); exact HO276.out), (bk_ BK271.out), (bk_ BK272.out), (bk_ BK273.out), (bk_ BK277.out), GW277.out, GE277.out, NB271_277.out, NB277_271.out, NB272_277.out, NB277_272.out, NB273_277.out, NB277_273.out, (bb_ HB.out)⟩)
           rintro ⟨v275, gb277⟩ w120 ⟨hS_, h0_, h1_, h2_, h3_, h4_, h5_, h6_, h7_, h8_, h9_, h10_, h11_, h12_, h13_⟩
           have n0_ : Aside0 (Kd.N (Kd.slice 2 (Kd.int .i64)) 39 w120 w.heap.size (fun k_ => (w.heap.size ≤ k_) ∧ k_ ≠ gb271 ∧ k_ ≠ gb272 ∧ k_ ≠ gb273 ∧ k_ ≠ gb277) v275 t274) := ⟨h0_⟩
           have n1_ : Aside0 (w120.heap[gb271]? = some (.cells #[.int .i64 a0_0, .slice A0_1 l0_1.length c0_1] 28 (0, 0))) := ⟨h1_⟩
           have n2_ : Aside0 (w120.heap[gb272]? = some (.cells #[.int .i64 a1_0, .int .i64 a1_1, .int .i64 a1_2, .slice A1_3 l1_3.length c1_3] 44 (0, 0))) := ⟨h2_⟩
           have n3_ : Aside0 (w120.heap[gb273]? = some (.cells #[.int .i64 0, .slice none 0 0] 28 (0, 0))) := ⟨h3_⟩
           have n4_ : Aside0 (w120.heap[gb277]? = some (.cells #[.int .i64 0, .slice none 0 0] 28 (0, 0))) := ⟨h4_⟩
           have n5_ : Aside0 (w.heap.size ≤ gb277) := ⟨h5_⟩
           have n6_ : Aside0 (w.heap.size ≤ gb277) := ⟨h6_⟩
           have n7_ : Aside0 (gb271 ≠ gb277) := ⟨h7_⟩
           have n8_ : Aside0 (gb277 ≠ gb271) := ⟨h8_⟩
           have n9_ : Aside0 (gb272 ≠ gb277) := ⟨h9_⟩
           have n10_ : Aside0 (gb277 ≠ gb272) := ⟨h10_⟩
           have n11_ : Aside0 (gb273 ≠ gb277) := ⟨h11_⟩
           have n12_ : Aside0 (gb277 ≠ gb273) := ⟨h12_⟩
           have n13_ : Aside0 (Below w.heap.size w w120) := ⟨h13_⟩
           clear BK271
           clear BK272
           clear BK273
           clear HB
           clear h0_ h1_ h2_ h3_ h4_ h5_ h6_ h7_ h8_ h9_ h10_ h11_ h12_ h13_
           have HO276 := n0_
           have BK271 := n1_
           have BK272 := n2_
           have BK273 := n3_
           have BK277 := n4_
           have GW277 := n5_
           have GE277 := n6_
           have NB271_277 := n7_
           have NB277_271 := n8_
           have NB272_277 := n9_
           have NB277_272 := n10_
           have NB273_277 := n11_
           have NB277_273 := n12_
           have HB := n13_
           clear n0_ n1_ n2_ n3_ n4_ n5_ n6_ n7_ n8_ n9_ n10_ n11_ n12_ n13_
           have hHeld : w120.cell? ⟨gb271, 0, none⟩ = some (.int .i64 a0_0) ∧ w120.cell? ⟨gb271, 1, none⟩ = some (.slice A0_1 l0_1.length c0_1) := hS_
           obtain ⟨Ao121, co121, eo121⟩ := Kd.N_slice HO276.out
           (first | subst eo121 | (injection eo121 with f1_ f2_ f3_; have f4_ := f1_.symm; have f5_ := f3_.symm; clear f1_ f2_ f3_; subst f4_; subst f5_))
           refine norm_ (a' := ?_) ?_ ?_
           rotate_left
           ·simp only [putAll, Act.put, List.setIfInBounds_toArray, List.set_cons_zero, List.set_cons_succ]
            rfl
           refine one_ (i := 7) (N := none) (bA_ 8 255) rfl rfl (one_of HT_.out (by kernel_rfl)) (by decide) (fun K hK => ?_)
           have hs122 : w120.cell? ⟨gb277, 0, none⟩ = some (.int .i64 0) := bc_ BK277 0
           have hfs122 := blk_frozen BK277.out 0
           have hns122_0 := NB271_277.out
           have hns122_1 := NB272_277.out
           have hns122_2 := NB273_277.out
           have hms122_0 := NB277_271.out
           have hms122_1 := NB277_272.out
           have hms122_2 := NB277_273.out
           have hs123 : w120.cell? ⟨gb277, 1, none⟩ = some (.slice none 0 0) := bc_ BK277 1
           have hfs123 := blk_frozen BK277.out 1
           have hns123_0 := NB271_277.out
           have hns123_1 := NB272_277.out
           have hns123_2 := NB273_277.out
           have hms123_0 := NB277_271.out
           have hms123_1 := NB277_272.out
           have hms123_2 := NB277_273.out
           refine skip_ (w1 := ?_) (by rfl) rfl ?_ ?_
           rotate_left
           ·go_simp
            rfl
           refine hK.out _ _ ⟨((cell_far (p := ⟨gb277, _, none⟩) NB271_277.out _).trans (((cell_far (p := ⟨gb277, _, none⟩) NB271_277.out _).trans (hHeld.1)))), ((cell_far (p := ⟨gb277, _, none⟩) NB271_277.out _).trans (((cell_far (p := ⟨gb277, _, none⟩) NB271_277.out _).trans (hHeld.2))))⟩ (fun hHeld => ?_)
           clear hK K
           refine done_ (done_of HT_.out (by kernel_rfl)) ?_
           have hnb124 := NB272_271.out
           have hnc124 := NB271_272.out
           have hnb125 := NB272_273.out
           have hnc125 := NB273_272.out
           have hnb126 := NB272_277.out
           have hnc126 := NB277_272.out
           obtain ⟨hcz127_0, hcz127_1, hcz127_2, hcz127_3, hfz127_0, hfz127_1, hfz127_2, hfz127_3⟩ := bx4_ BK272
           try go_wp2
           have n0_ : Aside0 (Kd.N (Kd.slice 2 (Kd.int .i64)) 39 ((w120.setCell ⟨gb277, 0, none⟩ (.int .i64 a0_0)).setCell ⟨gb277, 1, none⟩ (.slice Ao121 t274.length co121)) w.heap.size (fun k_ => (w.heap.size ≤ k_) ∧ k_ ≠ gb271 ∧ k_ ≠ gb272 ∧ k_ ≠ gb273 ∧ k_ ≠ gb277) (.slice Ao121 t274.length co121) t274) := ⟨by (with_reducible repeat (first | apply Kd.N_alloc | apply Kd.N_drewN | apply Kd.N_drew)); exact Kd.N_mono (Kd.N_far (p := ⟨gb277, 1, none⟩) (Kd.N_far (p := ⟨gb277, 0, none⟩) (Kd.N_mono HO276.out (fun k_ hk => (⟨hk, hk.2.2.2.2⟩ : _ ∧ k_ ≠ gb277))) (fun _ hk => hk.2) (.int .i64 a0_0)) (fun _ hk => hk.2) (.slice Ao121 t274.length co121)) (fun _ hk => ⟨hk.1.1, ⟨hk.1.2.1, ⟨hk.1.2.2.1, ⟨hk.1.2.2.2.1, hk.1.2.2.2.2⟩⟩⟩⟩)⟩
           have n1_ : Aside0 (((w120.setCell ⟨gb277, 0, none⟩ (.int .i64 a0_0)).setCell ⟨gb277, 1, none⟩ (.slice Ao121 t274.length co121)).heap[gb271]? = some (.cells #[.int .i64 a0_0, .slice A0_1 l0_1.length c0_1] 28 (0, 0))) := ⟨bk_ BK271.out⟩
           have n2_ : Aside0 (((w120.setCell ⟨gb277, 0, none⟩ (.int .i64 a0_0)).setCell ⟨gb277, 1, none⟩ (.slice Ao121 t274.length co121)).heap[gb272]? = some (.cells #[.int .i64 a1_0, .int .i64 a1_1, .int .i64 a1_2, .slice A1_3 l1_3.length c1_3] 44 (0, 0))) := ⟨bk_ BK272.out⟩
           have n3_ : Aside0 (((w120.setCell ⟨gb277, 0, none⟩ (.int .i64 a0_0)).setCell ⟨gb277, 1, none⟩ (.slice Ao121 t274.length co121)).heap[gb273]? = some (.cells #[.int .i64 0, .slice none 0 0] 28 (0, 0))) := ⟨bk_ BK273.out⟩
           have n4_ : Aside0 (((w120.setCell ⟨gb277, 0, none⟩ (.int .i64 a0_0)).setCell ⟨gb277, 1, none⟩ (.slice Ao121 t274.length co121)).heap[gb277]? = some (.cells #[.int .i64 a0_0, .slice Ao121 t274.length co121] 28 (0, 0))) := ⟨by (with_reducible repeat (first | refine blk_drewN ?_ _ | refine blk_drew ?_ | refine blk_alloc ?_ _)); refine blk_put (cs := #[.int .i64 a0_0, .slice none 0 0]) ?_ 1 _ rfl; (with_reducible repeat (first | refine blk_drewN ?_ _ | refine blk_drew ?_ | refine blk_alloc ?_ _)); refine blk_put (cs := #[.int .i64 0, .slice none 0 0]) ?_ 0 _ rfl; (with_reducible repeat (first | refine blk_drewN ?_ _ | refine blk_drew ?_ | refine blk_alloc ?_ _)); exact BK277.out⟩
           have n5_ : Aside0 (Below w.heap.size w ((w120.setCell ⟨gb277, 0, none⟩ (.int .i64 a0_0)).setCell ⟨gb277, 1, none⟩ (.slice Ao121 t274.length co121))) := ⟨bb_ HB.out⟩
           (try clear HO276)
           (try clear BK271)
           (try clear BK272)
           (try clear BK273)
           (try clear BK277)
           (try clear HB)
           generalize ((w120.setCell ⟨gb277, 0, none⟩ (.int .i64 a0_0)).setCell ⟨gb277, 1, none⟩ (.slice Ao121 t274.length co121)) = w128 at n0_ n1_ n2_ n3_ n4_ n5_ ⊢
           have HO276 := n0_
           have BK271 := n1_
           have BK272 := n2_
           have BK273 := n3_
           have BK277 := n4_
           have HB := n5_
           clear n0_ n1_ n2_ n3_ n4_ n5_
           have n0_ := am_ (Kd.N_drew HO276.out)
           have n1_ := am_ (blk_drew BK271.out)
           have n2_ := am_ (blk_drew BK272.out)
           have n3_ := am_ (blk_drew BK273.out)
           have n4_ := am_ (blk_drew BK277.out)
           have n5_ := am_ (below_drew1 HB.out)
           clear HO276 BK271 BK272 BK273 BK277 HB; revert n0_ n1_ n2_ n3_ n4_ n5_; intro HO276 BK271 BK272 BK273 BK277 HB
           have p305 : 0 ≤ (a1_1 : Int) := da_
           have q305 : a1_1 < (l0_1.length : Int) := da_
           obtain ⟨ad305, A305_0, c305_0, e305, hx305_0, hl305_0, hi305_0⟩ := at_L1 HR0_1.out a1_1 p305 q305
           have hw305_0 := hx305_0
           cases e305
           replace hx305_0 := ce_ HB hx305_0
           have HR305_0 := am_ hi305_0
           have HC305_0 := am_ hl305_0
           clear hi305_0 hl305_0
           replace p305 := eq_true p305
           replace q305 := eq_true q305
           have p309 : 0 ≤ (a1_2 : Int) := da_
           have q309 : a1_2 < (l0_1.length : Int) := da_
           obtain ⟨ad309, A309_0, c309_0, e309, hx309_0, hl309_0, hi309_0⟩ := at_L1 HR0_1.out a1_2 p309 q309
           have hw309_0 := hx309_0
           obtain rfl : ad305 = ad309 := (by injection e309)
           replace hx309_0 := ce_ HB hx309_0
           have HR309_0 := am_ hi309_0
           have HC309_0 := am_ hl309_0
           clear hi309_0 hl309_0
           replace p309 := eq_true p309
           replace q309 := eq_true q309
           refine start_ (n := 22) (S := fun w' => w'.cell? ⟨gb277, 0, none⟩ = some (.int .i64 a0_0) ∧ w'.cell? ⟨gb277, 1, none⟩ = some (.slice Ao121 t274.length co121) ∧ w'.cell? ⟨gb272, 0, none⟩ = some (.int .i64 a1_0) ∧ w'.cell? ⟨gb272, 1, none⟩ = some (.int .i64 a1_1) ∧ w'.cell? ⟨gb272, 2, none⟩ = some (.int .i64 a1_2) ∧ w'.cell? ⟨gb272, 3, none⟩ = some (.slice A1_3 l1_3.length c1_3) ∧ w'.cell? ⟨gb271, 0, none⟩ = some (.int .i64 a0_0) ∧ w'.cell? ⟨gb271, 1, none⟩ = some (.slice (some ad305) l0_1.length c0_1) ∧ w'.cell? (ad305.add (a1_1).toNat) = some (.slice A305_0 (rd_L1 l0_1 a1_1).length c305_0) ∧ w'.cell? (ad305.add (a1_2).toNat) = some (.slice A309_0 (rd_L1 l0_1 a1_2).length c309_0)) (ds := [21]) (bA_ 22 0) (by kernel_rfl) rfl (by kernel_rfl) ⟨bc_ BK277 0, bc_ BK277 1, bc_ BK272 0, bc_ BK272 1, bc_ BK272 2, bc_ BK272 3, bc_ BK271 0, bc_ BK271 1, (cf_ HB hw305_0), (cf_ HB hw309_0)⟩ (fun hHeld => ?_); refine with_tabW spec_l04Move.tab12 spec_l04Move.bits12 (fun HT_ HW_ => ?_)
           generalize w128.drew = w129 at HO276 BK271 BK272 BK273 BK277 HB HR305_0 HR309_0 hx305_0 hx309_0 hHeld ⊢
           refine pz_ 0 73 (bA_ 22 1) HT_ ?_
           refine pz_ 2 75 (bA_ 22 5) HT_ ?_
           refine pz_ 5 78 (bA_ 22 37) HT_ ?_
           refine pz_ 7 80 (bA_ 22 165) HT_ ?_
           refine pz_ 12 85 (bA_ 22 4261) HT_ ?_
           refine pz_ 14 87 (bA_ 22 20645) HT_ ?_
           refine tz_ 1 74 (bA_ 22 20647) HT_ HW_ hHeld ?_
           refine tz_ 3 76 (bA_ 22 20655) HT_ HW_ hHeld ?_
           refine tz_ 6 79 (bA_ 22 20719) HT_ HW_ hHeld ?_
           refine tz_ 8 81 (bA_ 22 20975) HT_ HW_ hHeld ?_
           refine pz_ 9 82 (bA_ 22 21487) HT_ ?_
           refine tz_ 10 83 (bA_ 22 22511) HT_ HW_ hHeld ?_
           refine tz_ 13 86 (bA_ 22 30703) HT_ HW_ hHeld ?_
           refine tz_ 15 88 (bA_ 22 63471) HT_ HW_ hHeld ?_
           refine pz_ 16 89 (bA_ 22 129007) HT_ ?_
           refine tz_ 17 90 (bA_ 22 260079) HT_ HW_ hHeld ?_
           refine oz_ 4 77 (bA_ 22 260095) HT_ (fun K hK => ?_)
           refine Kd.R_lit_step (Kd.int .i64) _ 2 ?hg (N := 77) ?hd (xs := ([] : List Int)) (inner := []) (ok := fun _ => True) (okp := fun _ => True) ?hr ?hp (fun _ hk => hk) trivial (Below.refl _ _) (Nat.le_refl _) (by simp) ?_; (case hd => rfl); (case hg => rfl); (case hr => first | (go_simp; done) | (go_simp; rfl)); (case hp => exact (Reps.none _ _))
           intro v303 w130 ho131 hb hg_ hnew_
           clear hg_ hnew_
           (first | rw [← Ny302.out] at ho131 | (simp only [Int.reduceToNat] at ho131; rw [← Ny302.out] at ho131))
           have n0_ := am_ (Kd.N_elder' (by (with_reducible repeat (first | apply Kd.N_alloc | apply Kd.N_drewN | apply Kd.N_drew)); exact HO276.out) (Kd.R_base ho131) hb)
           have n1_ := am_ (Kd.R_lower (Kd.R_newM (M := fun k_ => (w.heap.size ≤ k_)) ho131 (below_size (bb_ HB.out)) (fun k_ h_ => h_)) (below_size (bb_ HB.out)))
           have n2_ := am_ (bw_ BK271 hb)
           have n3_ := am_ (bw_ BK272 hb)
           have n4_ := am_ (bw_ BK273 hb)
           have n5_ := am_ (bw_ BK277 hb)
           have n6_ := am_ (below_step (bb_ HB.out) hb)
           clear HO276 BK271 BK272 BK273 BK277 HB; revert n0_ n1_ n2_ n3_ n4_ n5_ n6_; intro HO276 HO304 BK271 BK272 BK273 BK277 HB
           clear hb ho131
           refine hK.out _ _ ⟨bc_ BK277 0, bc_ BK277 1, bc_ BK272 0, bc_ BK272 1, bc_ BK272 2, bc_ BK272 3, bc_ BK271 0, bc_ BK271 1, (cf_ HB hw305_0), (cf_ HB hw309_0)⟩ (fun hHeld => ?_)
           clear hK K
           refine nm_ 77 ?_
           refine oz_ 11 84 (bA_ 22 262143) HT_ (fun K hK => ?_)
           refine Kd.R_append_rows_step (Kd.int .i64) (w0 := w) w.heap.size (by rfl) (.tmp 77) (.tmp 83) 39 2 (.int .i64 0) 8 rfl Try.underlying39 info2 rfl (by decide) (by omega) v303 y302 (rd_L1 l0_1 a1_1) _ _ _ (fun k_ => (w.heap.size ≤ k_)) (fun _ => False) rfl rfl ?aO ?aR (fun _ _ h => h) (fun _ h => h.elim) ?aF ?aB ?aS ?aL ?_
           (case aR => exact cb_ HR305_0 HB)
           (case aB => exact (bb_ HB.out))
           (case aF => exact (fun k_ hk => (Nat.le_trans (below_size (bb_ HB.out)) hk)))
           (case aO => exact (rm_ HO304.out (fun _ hk => hk.1)))
           (case aS => exact (below_size (bb_ HB.out)))
           (case aL => have := LMc106.out; omega)
           intro v307 w132 ho hb hg hat
           rw [← Ny306.out] at ho
           have n0_ := am_ (blk_grown (g := gb271) (o := .cells #[.int .i64 a0_0, .slice (some ad305) l0_1.length c0_1] 28 (0, 0)) (bk_ BK271.out) hg (Kd.R_ne HO304.out BK271.out (by decide)))
           have n1_ := am_ (blk_grown (g := gb272) (o := .cells #[.int .i64 a1_0, .int .i64 a1_1, .int .i64 a1_2, .slice A1_3 l1_3.length c1_3] 44 (0, 0)) (bk_ BK272.out) hg (Kd.R_ne HO304.out BK272.out (by decide)))
           have n2_ := am_ (blk_grown (g := gb273) (o := .cells #[.int .i64 0, .slice none 0 0] 28 (0, 0)) (bk_ BK273.out) hg (Kd.R_ne HO304.out BK273.out (by decide)))
           have n3_ := am_ (Kd.N_afterv (ok := (fun k_ => (w.heap.size ≤ k_) ∧ k_ ≠ gb271 ∧ k_ ≠ gb272 ∧ k_ ≠ gb273 ∧ k_ ≠ gb277)) (by (with_reducible repeat (first | apply Kd.N_alloc | apply Kd.N_drewN | apply Kd.N_drew)); exact HO276.out) hg hat)
           have n4_ := am_ (blk_grown (g := gb277) (o := .cells #[.int .i64 a0_0, .slice Ao121 t274.length co121] 28 (0, 0)) (bk_ BK277.out) hg (Kd.R_ne HO304.out BK277.out (by decide)))
           have n5_ := am_ (hb)
           have n6_ := am_ (ho)
           clear BK271 BK272 BK273 HO276 BK277 HB HO304; revert n0_ n1_ n2_ n3_ n4_ n5_ n6_; intro BK271 BK272 BK273 HO276 BK277 HB HO308
           clear ho hb hg hat
           refine hK.out _ _ ⟨bc_ BK277 0, bc_ BK277 1, bc_ BK272 0, bc_ BK272 1, bc_ BK272 2, bc_ BK272 3, bc_ BK271 0, bc_ BK271 1, (cf_ HB hw305_0), (cf_ HB hw309_0)⟩ (fun hHeld => ?_)
           clear hK K
           refine nm_ 84 ?_
           refine oz_ 18 91 (bA_ 22 524287) HT_ (fun K hK => ?_)
           refine Kd.R_append_rows_step (Kd.int .i64) (w0 := w) w.heap.size (by rfl) (.tmp 84) (.tmp 90) 39 2 (.int .i64 0) 8 rfl Try.underlying39 info2 rfl (by decide) (by omega) v307 y306 (rd_L1 l0_1 a1_2) _ _ _ (fun k_ => (w.heap.size ≤ k_)) (fun _ => False) rfl rfl ?aO ?aR (fun _ _ h => h) (fun _ h => h.elim) ?aF ?aB ?aS ?aL ?_
           (case aR => exact cb_ HR309_0 HB)
           (case aB => exact (bb_ HB.out))
           (case aF => exact (fun k_ hk => (Nat.le_trans (below_size (bb_ HB.out)) hk)))
           (case aO => exact (rk_ HO308.out))
           (case aS => exact (below_size (bb_ HB.out)))
           (case aL => have := LMc109.out; omega)
           intro v311 w133 ho hb hg hat
           rw [← Ny310.out] at ho
           have n0_ := am_ (blk_grown (g := gb271) (o := .cells #[.int .i64 a0_0, .slice (some ad305) l0_1.length c0_1] 28 (0, 0)) (bk_ BK271.out) hg (Kd.R_ne HO308.out BK271.out (by decide)))
           have n1_ := am_ (blk_grown (g := gb272) (o := .cells #[.int .i64 a1_0, .int .i64 a1_1, .int .i64 a1_2, .slice A1_3 l1_3.length c1_3] 44 (0, 0)) (bk_ BK272.out) hg (Kd.R_ne HO308.out BK272.out (by decide)))
           have n2_ := am_ (blk_grown (g := gb273) (o := .cells #[.int .i64 0, .slice none 0 0] 28 (0, 0)) (bk_ BK273.out) hg (Kd.R_ne HO308.out BK273.out (by decide)))
           have n3_ := am_ (Kd.N_afterv (ok := (fun k_ => (w.heap.size ≤ k_) ∧ k_ ≠ gb271 ∧ k_ ≠ gb272 ∧ k_ ≠ gb273 ∧ k_ ≠ gb277)) (by (with_reducible repeat (first | apply Kd.N_alloc | apply Kd.N_drewN | apply Kd.N_drew)); exact HO276.out) hg hat)
           have n4_ := am_ (blk_grown (g := gb277) (o := .cells #[.int .i64 a0_0, .slice Ao121 t274.length co121] 28 (0, 0)) (bk_ BK277.out) hg (Kd.R_ne HO308.out BK277.out (by decide)))
           have n5_ := am_ (hb)
           have n6_ := am_ (ho)
           clear BK271 BK272 BK273 HO276 BK277 HB HO308; revert n0_ n1_ n2_ n3_ n4_ n5_ n6_; intro BK271 BK272 BK273 HO276 BK277 HB HO312
           clear ho hb hg hat
           obtain ⟨Ao134, co134, eo134⟩ := Kd.R_slice HO312.out
           (first | subst eo134 | (injection eo134 with f1_ f2_ f3_; have f4_ := f1_.symm; have f5_ := f3_.symm; clear f1_ f2_ f3_; subst f4_; subst f5_))
           refine hK.out _ _ ⟨bc_ BK277 0, bc_ BK277 1, bc_ BK272 0, bc_ BK272 1, bc_ BK272 2, bc_ BK272 3, bc_ BK271 0, bc_ BK271 1, (cf_ HB hw305_0), (cf_ HB hw309_0)⟩ (fun hHeld => ?_)
           clear hK K
           refine nm_ 91 ?_
           refine oz_ 19 92 (bA_ 22 1048575) HT_ (fun K hK => ?_)
           refine goes_ Try.func87 (by kernel_rfl) rfl #[.slice Ao134 y310.length co134] (by rfl) rfl rfl lm_ ?_
           with_reducible refine (spec_l04Reduce.calls k _ _ y310 t313 _ ?side1 ?side2 A110.out).mono ?_
           (case side1 => repeat (first | exact (Kd.R_reads' HO312.out).2.2 | (with_reducible refine Kd.C_alloc ?_ _) | (with_reducible refine Kd.C_drewN ?_ _) | (with_reducible refine Kd.C_drew ?_)))
           (case side2 => exact (Kd.R_reads' HO312.out).2.1)
           rintro e w135 ⟨v314, rfl, ho0, hb⟩
           refine ⟨_, rfl, ?_⟩
           have n0_ := am_ (Kd.N_elder' (by (with_reducible repeat (first | apply Kd.N_alloc | apply Kd.N_drewN | apply Kd.N_drew)); exact HO276.out) (Kd.R_base ho0) hb)
           have n1_ := am_ (Kd.R_elder' (rk_ HO312.out) (Kd.R_base ho0) hb)
           have n2_ := am_ (Kd.R_lower (Kd.R_new' (Kd.R_newM (M := fun k_ => (w.heap.size ≤ k_)) ho0 (below_size (bb_ HB.out)) (fun k_ h_ => h_)) (Kd.R_lt (rk_ HO312.out))) (below_size (bb_ HB.out)))
           have n3_ := am_ (bw_ BK271 hb)
           have n4_ := am_ (bw_ BK272 hb)
           have n5_ := am_ (bw_ BK273 hb)
           have n6_ := am_ (bw_ BK277 hb)
           have n7_ := am_ (below_step (bb_ HB.out) hb)
           clear HO276 HO312 BK271 BK272 BK273 BK277 HB; revert n0_ n1_ n2_ n3_ n4_ n5_ n6_ n7_; intro HO276 HO312 HO315 BK271 BK272 BK273 BK277 HB
           (try clear hb)
           (try clear hb2)
           (try clear hk)
           (try clear hi)
           (try clear ho0)
           have p112 : 0 ≤ (a1_1 : Int) := da_
           have q112 : (a1_1 : Int) < ((t274.length : Int) : Int) := da_
           obtain ⟨go112, co112, eo112, gb112, gl112, cl112, HG112⟩ := Kd.N_form HO276.out (by omega)
           (first | cases eo112 | (injection eo112 with ea_ en_ ec_; (first | subst ea_ | (injection ea_ with ea_; subst ea_)); subst ec_; clear en_))
           have GB112 := am_ gb112
           have GG112 := am_ HG112
           clear gb112 gl112 HG112
           obtain ⟨ce112, hcl112, hM112, hcc112, hfr112⟩ := Kd.N_elem HO276.out [] (a1_1 : Int) p112 q112
           obtain ⟨ua112_0, uc112_0, rfl, ul112_0, ge112_0⟩ := Kd.FK_slice_open hM112
           have hx112_0 := hcc112 0 _ rfl
           have hf112_0 := hfr112 0
           (try simp only [show ((Kd.slice 2 (Kd.int .i64))).sz = 1 from rfl, Nat.mul_one, Nat.add_zero] at hx112_0)
           (try simp only [show ((Kd.slice 2 (Kd.int .i64))).sz = 1 from rfl, Nat.mul_one, Nat.add_zero] at hf112_0)
           (try clear hcl112); (try clear hcc112); (try clear hfr112); (try clear hM112)
           replace p112 := eq_true p112
           replace q112 := eq_true q112
           obtain ⟨Az314_, cz314_, ez314_⟩ := Kd.R_slice HO315.out
           subst ez314_
           have HX136 := am_ (show Kd.N (Kd.slice 2 (Kd.int .i64)) 39 _ w.heap.size (fun k_ => (w.heap.size ≤ k_) ∧ some k_ ≠ (.slice Ao134 y310.length co134 : Value).ownBlock ∧ some k_ ≠ ((.slice Az314_ t313.length cz314_) : Value).ownBlock ∧ k_ ≠ gb271 ∧ k_ ≠ gb272 ∧ k_ ≠ gb273 ∧ k_ ≠ gb277) (.slice (some ⟨go112, 0, none⟩) t274.length co121) t274 from (Kd.N_mono (HO276.out) (fun k_ hk => ⟨hk.1.1.1, ⟨hk.1.2, ⟨hk.2, ⟨hk.1.1.2.1, ⟨hk.1.1.2.2.1, ⟨hk.1.1.2.2.2.1, hk.1.1.2.2.2.2⟩⟩⟩⟩⟩⟩)))
           replace HX136 := am_ (show Kd.N (Kd.slice 2 (Kd.int .i64)) 39 _ w.heap.size (fun k_ => (w.heap.size ≤ k_) ∧ some k_ ≠ (.slice Ao134 y310.length co134 : Value).ownBlock ∧ k_ ≠ gb271 ∧ k_ ≠ gb272 ∧ k_ ≠ gb273 ∧ k_ ≠ gb277) (.slice (some ⟨go112, 0, none⟩) t274.length co121) t274 from Kd.N_mono HX136.out (fun k_ hk => ⟨hk.1, ⟨hk.2.1, ⟨hk.2.2.2.1, ⟨hk.2.2.2.2.1, ⟨hk.2.2.2.2.2.1, hk.2.2.2.2.2.2⟩⟩⟩⟩⟩))
           obtain ⟨ce136, hcl136, hM136, hcc136, hfr136⟩ := Kd.N_elem HX136.out [] (a1_1 : Int) da_ (by have h_ : (a1_1 : Int) < ((t274.length : Int) : Int) := da_; first | exact h_ | (have e_ := (Kd.N_reads' HO276.out).1; omega) | simpa using h_)
           obtain ⟨ua136_0, uc136_0, rfl, ul136_0, ge136_0⟩ := Kd.FK_slice_open hM136
           have HP136 := (Kd.N_seg HX136.out (a1_1 : Int) da_ (by have h_ : (a1_1 : Int) < ((t274.length : Int) : Int) := da_; first | exact h_ | (have e_ := (Kd.N_reads' HO276.out).1; omega) | simpa using h_) (seg := [(.slice Az314_ t313.length cz314_)]) (j := 0) hcl136 hcc136 (show 1 ≤ 1 from by decide) (x' := t313) (Kd.FK_slice_mk (Kd.R_reads' (Kd.R_mono (ok' := (fun k_ => ((fun k_ => (w.heap.size ≤ k_) ∧ some k_ ≠ (.slice Ao134 y310.length co134 : Value).ownBlock ∧ k_ ≠ gb271 ∧ k_ ≠ gb272 ∧ k_ ≠ gb273 ∧ k_ ≠ gb277)) k_ ∧ k_ ≠ go112)) (Kd.R_types (Kd.R_types (Kd.R_types (Kd.R_types (Kd.R_apart' (HO315.out) (Kd.N_typed HO276.out) (by decide)) BK271.out (by decide)) BK272.out (by decide)) BK273.out (by decide)) BK277.out (by decide)) (fun k_ hk => ⟨⟨hk.1.1.1.1.1.1.1, ⟨hk.1.1.1.1.1.2, ⟨hk.1.1.1.2, ⟨hk.1.1.2, ⟨hk.1.2, hk.2⟩⟩⟩⟩⟩, fun e_ => (hk.1.1.1.1.2) (by rw [e_]; rfl)⟩))).2.1 (Kd.R_F (Kd.R_mono (ok' := (fun k_ => ((fun k_ => (w.heap.size ≤ k_) ∧ some k_ ≠ (.slice Ao134 y310.length co134 : Value).ownBlock ∧ k_ ≠ gb271 ∧ k_ ≠ gb272 ∧ k_ ≠ gb273 ∧ k_ ≠ gb277)) k_ ∧ k_ ≠ go112)) (Kd.R_types (Kd.R_types (Kd.R_types (Kd.R_types (Kd.R_apart' (HO315.out) (Kd.N_typed HO276.out) (by decide)) BK271.out (by decide)) BK272.out (by decide)) BK273.out (by decide)) BK277.out (by decide)) (fun k_ hk => ⟨⟨hk.1.1.1.1.1.1.1, ⟨hk.1.1.1.1.1.2, ⟨hk.1.1.1.2, ⟨hk.1.1.2, ⟨hk.1.2, hk.2⟩⟩⟩⟩⟩, fun e_ => (hk.1.1.1.1.2) (by rw [e_]; rfl)⟩)))) (fun _ hk => hk)).1
           (try simp only [show ((Kd.slice 2 (Kd.int .i64))).sz = 1 from rfl, Nat.mul_one, Nat.add_zero] at HP136)
           rw [← Ny316.out] at HP136
           have HQ136 := am_ HP136
           (try clear hcl136); (try clear hcc136); (try clear hfr136); (try clear hM136); (try clear HP136)
           refine hK.out _ _ ⟨bc_ BK277 0, bc_ BK277 1, bc_ BK272 0, bc_ BK272 1, bc_ BK272 2, bc_ BK272 3, bc_ BK271 0, bc_ BK271 1, (cf_ HB hw305_0), (cf_ HB hw309_0)⟩ (fun hHeld => ?_)
           clear hK K
           refine nm_ 92 ?_
           refine pz_ 20 93 (bA_ 22 2097151) HT_ ?_
           refine last_ (i := 21) (N := none) (bA_ 22 4194303) rfl rfl (one_of HT_.out (by kernel_rfl)) (by decide) (fun K hK => ?_)
           refine skip_ (w1 := ?_) (by rfl) rfl ?_ ?_
           rotate_left
           ·go_simp
            rfl
           refine hK.out _ _ ?_
           clear hK K
           refine done_ (done_of HT_.out (by kernel_rfl)) ?_
           have n0_ : Aside0 (Kd.N (Kd.slice 2 (Kd.int .i64)) 39 (w135.setCell ⟨go112, (a1_1 : Int).toNat, none⟩ ((.slice Az314_ t313.length cz314_))) w.heap.size (fun k_ => (w.heap.size ≤ k_) ∧ some k_ ≠ (.slice Ao134 y310.length co134 : Value).ownBlock ∧ k_ ≠ gb271 ∧ k_ ≠ gb272 ∧ k_ ≠ gb273 ∧ k_ ≠ gb277) (.slice (some ⟨go112, 0, none⟩) t274.length co121) y316) := ⟨by (with_reducible repeat (first | apply Kd.N_alloc | apply Kd.N_drewN | apply Kd.N_drew)); exact HQ136.out⟩
           have n1_ : Aside0 (Kd.R (Kd.int .i64) 2 (w135.setCell ⟨go112, (a1_1 : Int).toNat, none⟩ ((.slice Az314_ t313.length cz314_))) w.heap.size (fun k_ => (w.heap.size ≤ k_)) (.slice Ao134 y310.length co134) y310) := ⟨rm_ (Kd.R_far (p := ⟨go112, (a1_1 : Int).toNat, none⟩) (Kd.R_types HO312.out GG112.out (by decide)) (fun _ hk => hk.2) ((.slice Az314_ t313.length cz314_))) (fun _ hk => hk.1.1)⟩
           have n2_ : Aside0 ((w135.setCell ⟨go112, (a1_1 : Int).toNat, none⟩ ((.slice Az314_ t313.length cz314_))).heap[gb271]? = some (.cells #[.int .i64 a0_0, .slice (some ad305) l0_1.length c0_1] 28 (0, 0))) := ⟨by (with_reducible repeat (first | refine blk_drewN ?_ _ | refine blk_drew ?_ | refine blk_alloc ?_ _)); refine blk_far ?_ (by have h_ := Kd.N_away (g := gb271) HO276.out (fun _ hk => by first | exact hk.2.2.1 | exact hk.1.2.2.1 | exact hk.1.1.2.2.1 | exact hk.1.1.1.2.2.1 | (simp [hk]; done)); intro e_; exact h_ (by rw [e_]; rfl)) _; (with_reducible repeat (first | refine blk_drewN ?_ _ | refine blk_drew ?_ | refine blk_alloc ?_ _)); exact BK271.out⟩
           have n3_ : Aside0 ((w135.setCell ⟨go112, (a1_1 : Int).toNat, none⟩ ((.slice Az314_ t313.length cz314_))).heap[gb272]? = some (.cells #[.int .i64 a1_0, .int .i64 a1_1, .int .i64 a1_2, .slice A1_3 l1_3.length c1_3] 44 (0, 0))) := ⟨by (with_reducible repeat (first | refine blk_drewN ?_ _ | refine blk_drew ?_ | refine blk_alloc ?_ _)); refine blk_far ?_ (by have h_ := Kd.N_away (g := gb272) HO276.out (fun _ hk => by first | exact hk.2.2.2.1 | exact hk.1.2.2.2.1 | exact hk.1.1.2.2.2.1 | exact hk.1.1.1.2.2.2.1 | (simp [hk]; done)); intro e_; exact h_ (by rw [e_]; rfl)) _; (with_reducible repeat (first | refine blk_drewN ?_ _ | refine blk_drew ?_ | refine blk_alloc ?_ _)); exact BK272.out⟩
           have n4_ : Aside0 ((w135.setCell ⟨go112, (a1_1 : Int).toNat, none⟩ ((.slice Az314_ t313.length cz314_))).heap[gb273]? = some (.cells #[.int .i64 0, .slice none 0 0] 28 (0, 0))) := ⟨by (with_reducible repeat (first | refine blk_drewN ?_ _ | refine blk_drew ?_ | refine blk_alloc ?_ _)); refine blk_far ?_ (by have h_ := Kd.N_away (g := gb273) HO276.out (fun _ hk => by first | exact hk.2.2.2.2.1 | exact hk.1.2.2.2.2.1 | exact hk.1.1.2.2.2.2.1 | exact hk.1.1.1.2.2.2.2.1 | (simp [hk]; done)); intro e_; exact h_ (by rw [e_]; rfl)) _; (with_reducible repeat (first | refine blk_drewN ?_ _ | refine blk_drew ?_ | refine blk_alloc ?_ _)); exact BK273.out⟩
           have n5_ : Aside0 ((w135.setCell ⟨go112, (a1_1 : Int).toNat, none⟩ ((.slice Az314_ t313.length cz314_))).heap[gb277]? = some (.cells #[.int .i64 a0_0, .slice (some ⟨go112, 0, none⟩) t274.length co121] 28 (0, 0))) := ⟨by (with_reducible repeat (first | refine blk_drewN ?_ _ | refine blk_drew ?_ | refine blk_alloc ?_ _)); refine blk_far ?_ (by have h_ := Kd.N_away (g := gb277) HO276.out (fun _ hk => by first | exact hk.2.2.2.2.2 | exact hk.1.2.2.2.2.2 | exact hk.1.1.2.2.2.2.2 | exact hk.1.1.1.2.2.2.2.2 | (simp [hk]; done)); intro e_; exact h_ (by rw [e_]; rfl)) _; (with_reducible repeat (first | refine blk_drewN ?_ _ | refine blk_drew ?_ | refine blk_alloc ?_ _)); exact BK277.out⟩
           have n6_ : Aside0 (Below w.heap.size w (w135.setCell ⟨go112, (a1_1 : Int).toNat, none⟩ ((.slice Az314_ t313.length cz314_)))) := ⟨bb_ HB.out⟩
           (try clear HO276)
           (try clear HO312)
           (try clear BK271)
           (try clear BK272)
           (try clear BK273)
           (try clear BK277)
           (try clear HB)
           generalize (w135.setCell ⟨go112, (a1_1 : Int).toNat, none⟩ ((.slice Az314_ t313.length cz314_))) = w137 at n0_ n1_ n2_ n3_ n4_ n5_ n6_ ⊢
           have HO276 := n0_
           have HO312 := n1_
           have BK271 := n2_
           have BK272 := n3_
           have BK273 := n4_
           have BK277 := n5_
           have HB := n6_
           clear n0_ n1_ n2_ n3_ n4_ n5_ n6_
           have hnb138 := NB277_271.out
           have hnc138 := NB271_277.out
           have hnb139 := NB277_273.out
           have hnc139 := NB273_277.out
           obtain ⟨hcz140_0, hcz140_1, hfz140_0, hfz140_1⟩ := bx2_ BK277
           have hnb141 := NB273_271.out
           have hnc141 := NB271_273.out
           obtain ⟨hcz142_0, hcz142_1, hfz142_0, hfz142_1⟩ := bx2_ BK273
           try go_wp2
           refine bodyPost_ret (results_cell_row rfl _ _ gb273 28 #[.int .i64 a0_0, .slice (some ⟨go112, 0, none⟩) t274.length co121] (0, 0) _ rfl (by (with_reducible repeat (first | refine blk_drewN ?_ _ | refine blk_drew ?_ | refine blk_alloc ?_ _)); refine blk_put (cs := #[.int .i64 a0_0, .slice none 0 0]) ?_ 1 _ rfl; (with_reducible repeat (first | refine blk_drewN ?_ _ | refine blk_drew ?_ | refine blk_alloc ?_ _)); refine blk_put (cs := #[.int .i64 0, .slice none 0 0]) ?_ 0 _ rfl; (with_reducible repeat (first | refine blk_drewN ?_ _ | refine blk_drew ?_ | refine blk_alloc ?_ _)); exact BK273.out) Try.underlying28 rfl (by kernel_rfl)) rfl ?_
           exact ⟨_, by first | rfl | (simp [errW_none, errW_some] <;> rfl) | (simp [*, errW_none, errW_some] <;> rfl), by (with_reducible repeat (first | apply Kd.N_alloc | apply Kd.N_drewN | apply Kd.N_drew)); exact Kd.N_mono (Kd.N_far (p := ⟨gb273, 1, none⟩) (Kd.N_far (p := ⟨gb273, 0, none⟩) (Kd.N_mono HO276.out (fun k_ hk => (⟨hk, hk.2.2.2.2.1⟩ : _ ∧ k_ ≠ gb273))) (fun _ hk => hk.2) (.int .i64 a0_0)) (fun _ hk => hk.2) (.slice (some ⟨go112, 0, none⟩) t274.length co121)) (fun _ hk => hk.1.1), bb_ HB.out⟩
          ·rw [if_neg c111] at H
           exact absurd H (by simp)
         ·rw [if_neg c109] at H
          exact absurd H (by simp)
        ·rw [if_neg c108] at H
         exact absurd H (by simp)
       ·rw [if_neg c107] at H
        exact absurd H (by simp)
      ·rw [if_neg c106] at H
       exact absurd H (by simp)
     ·rw [if_neg c105] at H
      exact absurd H (by simp)
    ·rw [if_neg c104] at H
     exact absurd H (by simp)
   · exact absurd G_.out (by clear H; omega)

end Go.Proofs.Ytbcdngjajjgmkaa.PFnExactApplyTietze
