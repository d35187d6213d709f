/- Written by this session's program out of the kit's print and this session's contracts. -/
import Derived.Test.YtbcdngjajjgmkaaVFnSimplifyPx0
import Derived.Test.YtbcdngjajjgmkaaVFnSimplifyPx2
import Derived.Test.YtbcdngjajjgmkaaVFnSimplifyPx3
import Derived.Test.YtbcdngjajjgmkaaVFnSimplifyPx4
namespace Go.Proofs.Ytbcdngjajjgmkaa.PFnSimplify
open Go.RowKit Go.Proofs.YtbcdngjajjgmkaaW.PrintWords Go.Proofs.YtbcdngjajjgmkaaW.PrintLast Go.Proofs.YtbcdngjajjgmkaaW.PrintMore
set_option linter.unusedVariables false
set_option linter.unusedSimpArgs false

/-! ### spec_l04Move: part 1 -/
set_option maxHeartbeats 8000000 in
set_option maxRecDepth 100000 in
theorem spec_l04Move.calls_1 (k : Nat) (a0_0 : Int) (A0_1 : Option Addr) (c0_1 : Nat) (l0_1 : List (List Int)) (a1_0 : Int) (a1_1 : Int) (a1_2 : Int) (A1_3 : Option Addr) (c1_3 : Nat) (l1_3 : List Int) (r1 : Int) (r2 : List (List Int)) (w : World) (hr0_1 : Kd.C (Kd.slice 2 (Kd.int .i64)) w A0_1 l0_1.length l0_1) (hc0_1 : l0_1.length ≤ c0_1) (hr1_3 : Kd.C (Kd.int .i64) w A1_3 l1_3.length l1_3) (hc1_3 : l1_3.length ≤ c1_3) (h : spec_l04Move.f k a0_0 l0_1 a1_0 a1_1 a1_2 l1_3 = some (r1, r2)) (G_ : Aside0 (a1_0 = 1 ∨ a1_0 = 3)) :
  Calls Try.prog 63 #[.agg #[.int .i64 a0_0, .slice A0_1 l0_1.length c0_1], .agg #[.int .i64 a1_0, .int .i64 a1_1, .int .i64 a1_2, .slice A1_3 l1_3.length c1_3]] w fun e w' => ∃ v1_ : Value, e = .returned (.agg #[.int .i64 r1, v1_]) ∧ Kd.N (Kd.slice 2 (Kd.int .i64)) 39 w' w.heap.size (fun k_ => (w.heap.size ≤ k_)) v1_ r2 ∧ Below w.heap.size w w' := by
 have hu28 := Try.underlying28
 have hu44 := Try.underlying44
 have HR0_1 := am_ hr0_1
 have HC0_1 := am_ hc0_1
 clear hr0_1 hc0_1
 have HR1_3 := am_ hr1_3
 have HC1_3 := am_ hc1_3
 clear hr1_3 hc1_3
 have HB := am_ (Below.refl w.heap.size w)
 have H := h
 unfold spec_l04Move.f at H
 clear h
 replace H := Option.bind_eq_some_iff.mp H
 obtain ⟨t235, A30, H⟩ := H
 replace H : (if a1_0 = 1 then (if 0 ≤ a1_1 then (if a1_1 < (l0_1.length : Int) then ((spec_l04Inverse.f k (rd_L1 l0_1 a1_1)).bind fun t240 => (if a1_1 < (t235.length : Int) then (some (a0_0, (t235.set (a1_1 : Int).toNat t240))) else (none))) else (none)) else (none)) else (if a1_0 = 2 then (if 0 ≤ a1_1 then (if a1_1 < (l0_1.length : Int) then (if ((rd_L1 l0_1 a1_1).length : Int) > 0 then ((some (([] : List Int) : List Int)).bind fun y245 => (if 1 ≤ ((rd_L1 l0_1 a1_1).length : Int) then (if y245.length + ((rd_L1 l0_1 a1_1).drop 1).length < 17592186044416 then ((some (y245 ++ ((rd_L1 l0_1 a1_1).drop 1) : List Int)).bind fun y249 => (if 0 < ((rd_L1 l0_1 a1_1).length : Int) then ((some (([rd (rd_L1 l0_1 a1_1) 0] : List Int) : List Int)).bind fun y253 => (if y249.length + y253.length < 17592186044416 then ((spec_l04Reduce.f k (y249 ++ y253)).bind fun t259 => (if a1_1 < (t235.length : Int) then (some (a0_0, (t235.set (a1_1 : Int).toNat t259))) else (none))) else (none))) else (none))) else (none)) else (none))) else (some (a0_0, t235))) else (none)) else (none)) else (if a1_0 = 3 then ((some (([] : List Int) : List Int)).bind fun y263 => (if 0 ≤ a1_1 then (if a1_1 < (l0_1.length : Int) then (if y263.length + (rd_L1 l0_1 a1_1).length < 17592186044416 then ((some (y263 ++ (rd_L1 l0_1 a1_1) : List Int)).bind fun y267 => (if 0 ≤ a1_2 then (if a1_2 < (l0_1.length : Int) then (if y267.length + (rd_L1 l0_1 a1_2).length < 17592186044416 then ((spec_l04Reduce.f k (y267 ++ (rd_L1 l0_1 a1_2))).bind fun t274 => (if a1_1 < (t235.length : Int) then (some (a0_0, (t235.set (a1_1 : Int).toNat t274))) else (none))) else (none)) else (none)) else (none))) else (none)) else (none)) else (none))) else (if a1_0 = 4 then ((spec_l04Copy.f k l0_1 a1_1).bind fun t278 => (some (a0_0, t278))) else (if a1_0 = 5 then ((spec_l04Remove.f k a0_0 l0_1 a1_1 a1_2).bind fun bt281 => (some (bt281.1, bt281.2))) else ((some (([wrap64 (-(wrap64 (a0_0 + 1)))] : List Int) : List Int)).bind fun y285 => (if y285.length + l1_3.length < 17592186044416 then ((some (([(y285 ++ l1_3)] : List (List Int)) : List (List Int))).bind fun y291 => (if t235.length + y291.length < 5864062014805 then (some (wrap64 (a0_0 + 1), (t235 ++ y291))) else (none))) else (none)))))))) = some (r1, r2) := H
 have A3 := am_ A30
 clear A30
 by_cases c4 : a1_0 = 1
 ·rw [if_pos c4] at H
  have c4b0 : (a1_0 == 1) = true := beq_iff_eq.mpr c4
  have c4b1 : (a1_0 != 1) = false := bne_eq_false_iff_eq.mpr c4
  clear c4
  by_cases c5 : 0 ≤ a1_1
  ·rw [if_pos c5] at H
   have c5b0 : decide (0 ≤ a1_1) = true := decide_eq_true c5
   clear c5
   by_cases c6 : a1_1 < (l0_1.length : Int)
   ·rw [if_pos c6] at H
    have c6b0 : decide (a1_1 < (l0_1.length : Int)) = true := decide_eq_true c6
    clear c6
    replace H := Option.bind_eq_some_iff.mp H
    obtain ⟨t240, A70, H⟩ := H
    replace H : (if a1_1 < (t235.length : Int) then (some (a0_0, (t235.set (a1_1 : Int).toNat t240))) else (none)) = some (r1, r2) := H
    have A7 := am_ A70
    clear A70
    by_cases c8 : a1_1 < (t235.length : Int)
    ·rw [if_pos c8] at H
     have c8b0 : decide (a1_1 < (t235.length : Int)) = true := decide_eq_true c8
     clear c8
     obtain ⟨y243, hy243⟩ : ∃ y_ : List (List Int), y_ = (t235.set (a1_1 : Int).toNat t240) := ⟨_, rfl⟩
     replace H : (some (a0_0, y243)) = some (r1, r2) := hq_ hy243 H
     have Ny243 := am_ hy243
     clear hy243
     simp only [Option.some.injEq, Prod.mk.injEq] at H
     obtain ⟨rfl, rfl⟩ := H
     go_enter Try.func63, Try.ntmps63
     try go_wp2_with (first | (refine be_ 2 28 #[.int .i64 a0_0, .slice A0_1 l0_1.length c0_1] ?_; intro gb232 hg w10 hbox hb; have n_ := ba0_ HB hbox hb hg; clear  HB hb hbox hg; obtain ⟨HB, BK232, GW232, GE232⟩ := n_) | (refine be_ 3 44 #[.int .i64 a1_0, .int .i64 a1_1, .int .i64 a1_2, .slice A1_3 l1_3.length c1_3] ?_; intro gb233 hg w11 hbox hb; have n_ := ba1_ BK232 HB hbox hb hg; clear BK232 HB hb hbox hg; obtain ⟨BK232, HB, BK233, GW233, GE233, NB232_233, NB233_232⟩ := n_) | (refine be_ 4 28 #[.int .i64 0, .slice none 0 0] ?_; intro gb234 hg w12 hbox hb; have n_ := ba2_ BK232 BK233 HB hbox hb hg; clear BK232 BK233 HB hb hbox hg; obtain ⟨BK232, BK233, HB, BK234, GW234, GE234, NB232_234, NB234_232, NB233_234, NB234_233⟩ := n_))
     have n0_ := am_ (blk_drew BK232.out)
     have n1_ := am_ (blk_drew BK233.out)
     have n2_ := am_ (blk_drew BK234.out)
     have n3_ := am_ (below_drew1 HB.out)
     clear BK232 BK233 BK234 HB; revert n0_ n1_ n2_ n3_; intro BK232 BK233 BK234 HB
     refine start_ (n := 8) (S := fun w' => w'.cell? ⟨gb232, 0, none⟩ = some (.int .i64 a0_0) ∧ w'.cell? ⟨gb232, 1, none⟩ = some (.slice A0_1 l0_1.length c0_1)) (ds := []) (bA_ 8 0) (by kernel_rfl) rfl (by kernel_rfl) ⟨bc_ BK232 0, bc_ BK232 1⟩ (fun hHeld => ?_); refine with_tabW spec_l04Move.tab1 spec_l04Move.bits1 (fun HT_ HW_ => ?_)
     generalize w12.drew = w13 at BK232 BK233 BK234 HB hHeld ⊢
     refine pz_ 0 8 (bA_ 8 1) HT_ ?_
     refine pz_ 2 10 (bA_ 8 5) HT_ ?_
     refine tz_ 1 9 (bA_ 8 7) HT_ HW_ hHeld ?_
     refine tz_ 3 11 (bA_ 8 15) HT_ HW_ hHeld ?_
     refine join_ (σ := Value × Nat) 1 (bA_ 8 127) (fun s_ => [(12, s_.1), (5, .pointer (some ⟨s_.2, 0, none⟩)), (13, .agg #[.int .i64 a0_0, s_.1])]) (fun s_ w' => (w'.cell? ⟨gb232, 0, none⟩ = some (.int .i64 a0_0) ∧ w'.cell? ⟨gb232, 1, none⟩ = some (.slice A0_1 l0_1.length c0_1)) ∧ (Kd.N (Kd.slice 2 (Kd.int .i64)) 39 w' w.heap.size (fun k_ => (w.heap.size ≤ k_) ∧ k_ ≠ gb232 ∧ k_ ≠ gb233 ∧ k_ ≠ gb234 ∧ k_ ≠ s_.2) s_.1 t235) ∧ (w'.heap[gb232]? = some (.cells #[.int .i64 a0_0, .slice A0_1 l0_1.length c0_1] 28 (0, 0))) ∧ (w'.heap[gb233]? = some (.cells #[.int .i64 a1_0, .int .i64 a1_1, .int .i64 a1_2, .slice A1_3 l1_3.length c1_3] 44 (0, 0))) ∧ (w'.heap[gb234]? = some (.cells #[.int .i64 0, .slice none 0 0] 28 (0, 0))) ∧ (w'.heap[s_.2]? = some (.cells #[.int .i64 0, .slice none 0 0] 28 (0, 0))) ∧ (w.heap.size ≤ s_.2) ∧ (w.heap.size ≤ s_.2) ∧ (gb232 ≠ s_.2) ∧ (s_.2 ≠ gb232) ∧ (gb233 ≠ s_.2) ∧ (s_.2 ≠ gb233) ∧ (gb234 ≠ s_.2) ∧ (s_.2 ≠ gb234) ∧ (Below w.heap.size w w')) ?_ ?_
     rotate_left
     ·intro hCont
      refine two_ (i := 4) (j := 6) (Ni := some 12) (Nj := some 5) (bA_ 8 31) (bA_ 8 79) rfl rfl rfl rfl (two_of HT_.out (by kernel_rfl)) (by decide) (by decide) (fun K hK => ?_) (fun K hK => ?_)
      ·skip
       refine goes_ Try.func40 (by kernel_rfl) rfl #[.slice A0_1 l0_1.length c0_1, .int .i64 (-1)] (by rfl) rfl rfl lm_ ?_
       with_reducible refine (spec_l04Copy.calls k _ _ l0_1 (-1) t235 _ ?side1 ?side2 A3.out).mono ?_
       (case side1 => exact cb_ HR0_1 HB)
       (case side2 => exact HC0_1.out)
       rintro e w14 ⟨v236, rfl, ho0, hb⟩
       refine ⟨_, rfl, ?_⟩
       have n0_ := am_ (Kd.N_lower (Kd.N_mono (ok' := fun k_ => (w.heap.size ≤ k_) ∧ k_ ≠ gb232 ∧ k_ ≠ gb233 ∧ k_ ≠ gb234) (Kd.S_N (Kd.S_bound ho0)) (fun k_ hk_ => ⟨(Nat.le_trans (below_size (bb_ HB.out)) hk_.2.1), (Kd.freshB (g := gb232) (o := .cells #[.int .i64 a0_0, .slice A0_1 l0_1.length c0_1] 28 (0, 0)) (bk_ BK232.out) k_ hk_.2.1), (Kd.freshB (g := gb233) (o := .cells #[.int .i64 a1_0, .int .i64 a1_1, .int .i64 a1_2, .slice A1_3 l1_3.length c1_3] 44 (0, 0)) (bk_ BK233.out) k_ hk_.2.1), (Kd.freshB (g := gb234) (o := .cells #[.int .i64 0, .slice none 0 0] 28 (0, 0)) (bk_ BK234.out) k_ hk_.2.1)⟩)) (below_size (bb_ HB.out)))
       have n1_ := am_ (bw_ BK232 hb)
       have n2_ := am_ (bw_ BK233 hb)
       have n3_ := am_ (bw_ BK234 hb)
       have n4_ := am_ (below_step (bb_ HB.out) hb)
       clear BK232 BK233 BK234 HB; revert n0_ n1_ n2_ n3_ n4_; intro HO237 BK232 BK233 BK234 HB
       (try clear hb)
       (try clear hb2)
       (try clear hk)
       (try clear hi)
       (try clear ho0)
       obtain ⟨Ao15, co15, eo15⟩ := Kd.N_slice HO237.out
       (first | subst eo15 | (injection eo15 with f1_ f2_ f3_; have f4_ := f1_.symm; have f5_ := f3_.symm; clear f1_ f2_ f3_; subst f4_; subst f5_))
       refine hK.out _ _ ⟨bc_ BK232 0, bc_ BK232 1⟩ (fun hHeld => ?_)
       clear hK K
       refine nm_ 12 ?_
       refine pz_ 5 13 (bA_ 8 63) HT_ ?_
       refine oz_ 6 5 (bA_ 8 127) HT_ (fun K hK => ?_)
       refine box_step ?hg (N := 5) ?hd (cs := #[.int .i64 0, .slice none 0 0]) (t := 28) ?hr ?_; (case hd => rfl); (case hg => rfl); (case hr => first | (go_simp; done) | (go_simp; rfl))
       intro gb238 hg w16 hbox hb
       have n0_ := am_ (Kd.N_below (Kd.N_elderB (Nx_ HO237.out) gb238 (Nat.le_of_eq hg.symm)) hb)
       have n1_ := am_ (bw_ BK232 hb)
       have n2_ := am_ (bw_ BK233 hb)
       have n3_ := am_ (bw_ BK234 hb)
       have n4_ := am_ (below_step (bb_ HB.out) hb)
       have n5_ := am_ (hbox)
       have n6_ := gs_ HB hg
       have n7_ := gs_ HB hg
       have n8_ := am_ (nl_ BK232 hg)
       have n9_ := am_ (ng_ BK232 hg)
       have n10_ := am_ (nl_ BK233 hg)
       have n11_ := am_ (ng_ BK233 hg)
       have n12_ := am_ (nl_ BK234 hg)
       have n13_ := am_ (ng_ BK234 hg)
       clear HO237 BK232 BK233 BK234 HB; revert n0_ n1_ n2_ n3_ n4_ n5_ n6_ n7_ n8_ n9_ n10_ n11_ n12_ n13_; intro HO237 BK232 BK233 BK234 HB BK238 GW238 GE238 NB232_238 NB238_232 NB233_238 NB238_233 NB234_238 NB238_234
       clear hb hbox hg
       refine hK.out _ _ ⟨bc_ BK232 0, bc_ BK232 1⟩ (fun hHeld => ?_)
       clear hK K
       refine nm_ 5 ?_
       exact norm_ (by simp only [putAll, Act.put, List.setIfInBounds_toArray, List.set_cons_zero, List.set_cons_succ]) (hCont (.slice Ao15 t235.length co15, gb238) _ ⟨hHeld, (Nx_ (Kd.N_mono HO237.out (fun _ hk => ⟨hk.1.1, ⟨hk.1.2.1, ⟨hk.1.2.2.1, ⟨hk.1.2.2.2, hk.2⟩⟩⟩⟩))), (bk_ BK232.out), (bk_ BK233.out), (bk_ BK234.out), (bk_ BK238.out), GW238.out, GE238.out, NB232_238.out, NB238_232.out, NB233_238.out, NB238_233.out, NB234_238.out, NB238_234.out, (bb_ HB.out)⟩)
      ·skip
       refine box_step ?hg (N := 5) ?hd (cs := #[.int .i64 0, .slice none 0 0]) (t := 28) ?hr ?_; (case hd => rfl); (case hg => rfl); (case hr => first | (go_simp; done) | (go_simp; rfl))
       intro gb238 hg w14 hbox hb
       have n0_ := am_ (bw_ BK232 hb)
       have n1_ := am_ (bw_ BK233 hb)
       have n2_ := am_ (bw_ BK234 hb)
       have n3_ := am_ (below_step (bb_ HB.out) hb)
       have n4_ := am_ (hbox)
       have n5_ := gs_ HB hg
       have n6_ := gs_ HB hg
       have n7_ := am_ (nl_ BK232 hg)
       have n8_ := am_ (ng_ BK232 hg)
       have n9_ := am_ (nl_ BK233 hg)
       have n10_ := am_ (ng_ BK233 hg)
       have n11_ := am_ (nl_ BK234 hg)
       have n12_ := am_ (ng_ BK234 hg)
       clear BK232 BK233 BK234 HB; revert n0_ n1_ n2_ n3_ n4_ n5_ n6_ n7_ n8_ n9_ n10_ n11_ n12_; intro BK232 BK233 BK234 HB BK238 GW238 GE238 NB232_238 NB238_232 NB233_238 NB238_233 NB234_238 NB238_234
       clear hb hbox hg
       refine hK.out _ _ ⟨bc_ BK232 0, bc_ BK232 1⟩ (fun hHeld => ?_)
       clear hK K
       refine nm_ 5 ?_
       refine oz_ 4 12 (bA_ 8 95) HT_ (fun K hK => ?_)
       refine goes_ Try.func40 (by kernel_rfl) rfl #[.slice A0_1 l0_1.length c0_1, .int .i64 (-1)] (by rfl) rfl rfl lm_ ?_
       with_reducible refine (spec_l04Copy.calls k _ _ l0_1 (-1) t235 _ ?side1 ?side2 A3.out).mono ?_
       (case side1 => exact cb_ HR0_1 HB)
       (case side2 => exact HC0_1.out)
       rintro e w15 ⟨v236, rfl, ho0, hb⟩
       refine ⟨_, rfl, ?_⟩
       have n0_ := am_ (Kd.N_lower (Kd.N_mono (ok' := fun k_ => (w.heap.size ≤ k_) ∧ k_ ≠ gb232 ∧ k_ ≠ gb233 ∧ k_ ≠ gb234 ∧ k_ ≠ gb238) (Kd.S_N (Kd.S_bound ho0)) (fun k_ hk_ => ⟨(Nat.le_trans (below_size (bb_ HB.out)) hk_.2.1), (Kd.freshB (g := gb232) (o := .cells #[.int .i64 a0_0, .slice A0_1 l0_1.length c0_1] 28 (0, 0)) (bk_ BK232.out) k_ hk_.2.1), (Kd.freshB (g := gb233) (o := .cells #[.int .i64 a1_0, .int .i64 a1_1, .int .i64 a1_2, .slice A1_3 l1_3.length c1_3] 44 (0, 0)) (bk_ BK233.out) k_ hk_.2.1), (Kd.freshB (g := gb234) (o := .cells #[.int .i64 0, .slice none 0 0] 28 (0, 0)) (bk_ BK234.out) k_ hk_.2.1), (Kd.freshB (g := gb238) (o := .cells #[.int .i64 0, .slice none 0 0] 28 (0, 0)) (bk_ BK238.out) k_ hk_.2.1)⟩)) (below_size (bb_ HB.out)))
       have n1_ := am_ (bw_ BK232 hb)
       have n2_ := am_ (bw_ BK233 hb)
       have n3_ := am_ (bw_ BK234 hb)
       have n4_ := am_ (bw_ BK238 hb)
       have n5_ := am_ (below_step (bb_ HB.out) hb)
       clear BK232 BK233 BK234 BK238 HB; revert n0_ n1_ n2_ n3_ n4_ n5_; intro HO237 BK232 BK233 BK234 BK238 HB
       (try clear hb)
       (try clear hb2)
       (try clear hk)
       (try clear hi)
       (try clear ho0)
       obtain ⟨Ao16, co16, eo16⟩ := Kd.N_slice HO237.out
       (first | subst eo16 | (injection eo16 with f1_ f2_ f3_; have f4_ := f1_.symm; have f5_ := f3_.symm; clear f1_ f2_ f3_; subst f4_; subst f5_))
       refine hK.out _ _ ⟨bc_ BK232 0, bc_ BK232 1⟩ (fun hHeld => ?_)
       clear hK K
       refine nm_ 12 ?_
       refine pz_ 5 13 (bA_ 8 127) HT_ ?_
       exact norm_ (by simp only [putAll, Act.put, List.setIfInBounds_toArray, List.set_cons_zero, List.set_cons_succ]) (hCont (.slice Ao16 t235.length co16, gb238) _ ⟨hHeld, (Nx_ HO237.out), (bk_ BK232.out), (bk_ BK233.out), (bk_ BK234.out), (bk_ BK238.out), GW238.out, GE238.out, NB232_238.out, NB238_232.out, NB233_238.out, NB238_233.out, NB234_238.out, NB238_234.out, (bb_ HB.out)⟩)
     rintro ⟨v236, gb238⟩ w17 ⟨hS_, h0_, h1_, h2_, h3_, h4_, h5_, h6_, h7_, h8_, h9_, h10_, h11_, h12_, h13_⟩
     have n0_ : Aside0 (Kd.N (Kd.slice 2 (Kd.int .i64)) 39 w17 w.heap.size (fun k_ => (w.heap.size ≤ k_) ∧ k_ ≠ gb232 ∧ k_ ≠ gb233 ∧ k_ ≠ gb234 ∧ k_ ≠ gb238) v236 t235) := ⟨h0_⟩
     have n1_ : Aside0 (w17.heap[gb232]? = some (.cells #[.int .i64 a0_0, .slice A0_1 l0_1.length c0_1] 28 (0, 0))) := ⟨h1_⟩
     have n2_ : Aside0 (w17.heap[gb233]? = some (.cells #[.int .i64 a1_0, .int .i64 a1_1, .int .i64 a1_2, .slice A1_3 l1_3.length c1_3] 44 (0, 0))) := ⟨h2_⟩
     have n3_ : Aside0 (w17.heap[gb234]? = some (.cells #[.int .i64 0, .slice none 0 0] 28 (0, 0))) := ⟨h3_⟩
     have n4_ : Aside0 (w17.heap[gb238]? = some (.cells #[.int .i64 0, .slice none 0 0] 28 (0, 0))) := ⟨h4_⟩
     have n5_ : Aside0 (w.heap.size ≤ gb238) := ⟨h5_⟩
     have n6_ : Aside0 (w.heap.size ≤ gb238) := ⟨h6_⟩
     have n7_ : Aside0 (gb232 ≠ gb238) := ⟨h7_⟩
     have n8_ : Aside0 (gb238 ≠ gb232) := ⟨h8_⟩
     have n9_ : Aside0 (gb233 ≠ gb238) := ⟨h9_⟩
     have n10_ : Aside0 (gb238 ≠ gb233) := ⟨h10_⟩
     have n11_ : Aside0 (gb234 ≠ gb238) := ⟨h11_⟩
     have n12_ : Aside0 (gb238 ≠ gb234) := ⟨h12_⟩
     have n13_ : Aside0 (Below w.heap.size w w17) := ⟨h13_⟩
     clear BK232
     clear BK233
     clear BK234
     clear HB
     clear h0_ h1_ h2_ h3_ h4_ h5_ h6_ h7_ h8_ h9_ h10_ h11_ h12_ h13_
     have HO237 := n0_
     have BK232 := n1_
     have BK233 := n2_
     have BK234 := n3_
     have BK238 := n4_
     have GW238 := n5_
     have GE238 := n6_
     have NB232_238 := n7_
     have NB238_232 := n8_
     have NB233_238 := n9_
     have NB238_233 := n10_
     have NB234_238 := n11_
     have NB238_234 := n12_
     have HB := n13_
     clear n0_ n1_ n2_ n3_ n4_ n5_ n6_ n7_ n8_ n9_ n10_ n11_ n12_ n13_
     have hHeld : w17.cell? ⟨gb232, 0, none⟩ = some (.int .i64 a0_0) ∧ w17.cell? ⟨gb232, 1, none⟩ = some (.slice A0_1 l0_1.length c0_1) := hS_
     obtain ⟨Ao18, co18, eo18⟩ := Kd.N_slice HO237.out
     (first | subst eo18 | (injection eo18 with f1_ f2_ f3_; have f4_ := f1_.symm; have f5_ := f3_.symm; clear f1_ f2_ f3_; subst f4_; subst f5_))
     refine norm_ (a' := ?_) ?_ ?_
     rotate_left
     ·simp only [putAll, Act.put, List.setIfInBounds_toArray, List.set_cons_zero, List.set_cons_succ]
      rfl
     refine one_ (i := 7) (N := none) (bA_ 8 255) rfl rfl (one_of HT_.out (by kernel_rfl)) (by decide) (fun K hK => ?_)
     have hs19 : w17.cell? ⟨gb238, 0, none⟩ = some (.int .i64 0) := bc_ BK238 0
     have hfs19 := blk_frozen BK238.out 0
     have hns19_0 := NB232_238.out
     have hns19_1 := NB233_238.out
     have hns19_2 := NB234_238.out
     have hms19_0 := NB238_232.out
     have hms19_1 := NB238_233.out
     have hms19_2 := NB238_234.out
     have hs20 : w17.cell? ⟨gb238, 1, none⟩ = some (.slice none 0 0) := bc_ BK238 1
     have hfs20 := blk_frozen BK238.out 1
     have hns20_0 := NB232_238.out
     have hns20_1 := NB233_238.out
     have hns20_2 := NB234_238.out
     have hms20_0 := NB238_232.out
     have hms20_1 := NB238_233.out
     have hms20_2 := NB238_234.out
     refine skip_ (w1 := ?_) (by rfl) rfl ?_ ?_
     rotate_left
     ·go_simp
      rfl
     refine hK.out _ _ ⟨((cell_far (p := ⟨gb238, _, none⟩) NB232_238.out _).trans (((cell_far (p := ⟨gb238, _, none⟩) NB232_238.out _).trans (hHeld.1)))), ((cell_far (p := ⟨gb238, _, none⟩) NB232_238.out _).trans (((cell_far (p := ⟨gb238, _, none⟩) NB232_238.out _).trans (hHeld.2))))⟩ (fun hHeld => ?_)
     clear hK K
     refine done_ (done_of HT_.out (by kernel_rfl)) ?_
     have hnb21 := NB233_232.out
     have hnc21 := NB232_233.out
     have hnb22 := NB233_234.out
     have hnc22 := NB234_233.out
     have hnb23 := NB233_238.out
     have hnc23 := NB238_233.out
     obtain ⟨hcz24_0, hcz24_1, hcz24_2, hcz24_3, hfz24_0, hfz24_1, hfz24_2, hfz24_3⟩ := bx4_ BK233
     try go_wp2
     have n0_ : Aside0 (Kd.N (Kd.slice 2 (Kd.int .i64)) 39 ((w17.setCell ⟨gb238, 0, none⟩ (.int .i64 a0_0)).setCell ⟨gb238, 1, none⟩ (.slice Ao18 t235.length co18)) w.heap.size (fun k_ => (w.heap.size ≤ k_) ∧ k_ ≠ gb232 ∧ k_ ≠ gb233 ∧ k_ ≠ gb234 ∧ k_ ≠ gb238) (.slice Ao18 t235.length co18) t235) := ⟨Nx_ (Kd.N_mono (Kd.N_far (p := ⟨gb238, 1, none⟩) (Kd.N_far (p := ⟨gb238, 0, none⟩) (Kd.N_mono HO237.out (fun k_ hk => (⟨hk, hk.2.2.2.2⟩ : _ ∧ k_ ≠ gb238))) (fun _ hk => hk.2) (.int .i64 a0_0)) (fun _ hk => hk.2) (.slice Ao18 t235.length co18)) (fun _ hk => ⟨hk.1.1, ⟨hk.1.2.1, ⟨hk.1.2.2.1, ⟨hk.1.2.2.2.1, hk.1.2.2.2.2⟩⟩⟩⟩))⟩
     have n1_ : Aside0 (((w17.setCell ⟨gb238, 0, none⟩ (.int .i64 a0_0)).setCell ⟨gb238, 1, none⟩ (.slice Ao18 t235.length co18)).heap[gb232]? = some (.cells #[.int .i64 a0_0, .slice A0_1 l0_1.length c0_1] 28 (0, 0))) := ⟨bk_ BK232.out⟩
     have n2_ : Aside0 (((w17.setCell ⟨gb238, 0, none⟩ (.int .i64 a0_0)).setCell ⟨gb238, 1, none⟩ (.slice Ao18 t235.length co18)).heap[gb233]? = some (.cells #[.int .i64 a1_0, .int .i64 a1_1, .int .i64 a1_2, .slice A1_3 l1_3.length c1_3] 44 (0, 0))) := ⟨bk_ BK233.out⟩
     have n3_ : Aside0 (((w17.setCell ⟨gb238, 0, none⟩ (.int .i64 a0_0)).setCell ⟨gb238, 1, none⟩ (.slice Ao18 t235.length co18)).heap[gb234]? = some (.cells #[.int .i64 0, .slice none 0 0] 28 (0, 0))) := ⟨bk_ BK234.out⟩
     have n4_ : Aside0 (((w17.setCell ⟨gb238, 0, none⟩ (.int .i64 a0_0)).setCell ⟨gb238, 1, none⟩ (.slice Ao18 t235.length co18)).heap[gb238]? = some (.cells #[.int .i64 a0_0, .slice Ao18 t235.length co18] 28 (0, 0))) := ⟨pu2_ BK238⟩
     have n5_ : Aside0 (Below w.heap.size w ((w17.setCell ⟨gb238, 0, none⟩ (.int .i64 a0_0)).setCell ⟨gb238, 1, none⟩ (.slice Ao18 t235.length co18))) := ⟨bb_ HB.out⟩
     (try clear HO237)
     (try clear BK232)
     (try clear BK233)
     (try clear BK234)
     (try clear BK238)
     (try clear HB)
     generalize ((w17.setCell ⟨gb238, 0, none⟩ (.int .i64 a0_0)).setCell ⟨gb238, 1, none⟩ (.slice Ao18 t235.length co18)) = w25 at n0_ n1_ n2_ n3_ n4_ n5_ ⊢
     have HO237 := n0_
     have BK232 := n1_
     have BK233 := n2_
     have BK234 := n3_
     have BK238 := n4_
     have HB := n5_
     clear n0_ n1_ n2_ n3_ n4_ n5_
     have n0_ := am_ (Kd.N_drew HO237.out)
     have n1_ := am_ (blk_drew BK232.out)
     have n2_ := am_ (blk_drew BK233.out)
     have n3_ := am_ (blk_drew BK234.out)
     have n4_ := am_ (blk_drew BK238.out)
     have n5_ := am_ (below_drew1 HB.out)
     clear HO237 BK232 BK233 BK234 BK238 HB; revert n0_ n1_ n2_ n3_ n4_ n5_; intro HO237 BK232 BK233 BK234 BK238 HB
     have p239 : 0 ≤ (a1_1 : Int) := da_
     have q239 : a1_1 < (l0_1.length : Int) := da_
     obtain ⟨ad239, A239_0, c239_0, e239, hx239_0, hl239_0, hi239_0⟩ := at_L1 HR0_1.out a1_1 p239 q239
     have hw239_0 := hx239_0
     cases e239
     replace hx239_0 := ce_ HB hx239_0
     have HR239_0 := am_ hi239_0
     have HC239_0 := am_ hl239_0
     clear hi239_0 hl239_0
     replace p239 := eq_true p239
     replace q239 := eq_true q239
     refine start_ (n := 13) (S := fun w' => w'.cell? ⟨gb238, 0, none⟩ = some (.int .i64 a0_0) ∧ w'.cell? ⟨gb238, 1, none⟩ = some (.slice Ao18 t235.length co18) ∧ w'.cell? ⟨gb233, 0, none⟩ = some (.int .i64 a1_0) ∧ w'.cell? ⟨gb233, 1, none⟩ = some (.int .i64 a1_1) ∧ w'.cell? ⟨gb233, 2, none⟩ = some (.int .i64 a1_2) ∧ w'.cell? ⟨gb233, 3, none⟩ = some (.slice A1_3 l1_3.length c1_3) ∧ w'.cell? ⟨gb232, 0, none⟩ = some (.int .i64 a0_0) ∧ w'.cell? ⟨gb232, 1, none⟩ = some (.slice (some ad239) l0_1.length c0_1) ∧ w'.cell? (ad239.add (a1_1).toNat) = some (.slice A239_0 (rd_L1 l0_1 a1_1).length c239_0)) (ds := [12]) (bA_ 13 0) (by kernel_rfl) rfl (by kernel_rfl) ⟨bc_ BK238 0, bc_ BK238 1, bc_ BK233 0, bc_ BK233 1, bc_ BK233 2, bc_ BK233 3, bc_ BK232 0, bc_ BK232 1, (cf_ HB hw239_0)⟩ (fun hHeld => ?_); refine with_tabW spec_l04Move.tab6 spec_l04Move.bits6 (fun HT_ HW_ => ?_)
     generalize w25.drew = w26 at HO237 BK232 BK233 BK234 BK238 HB HR239_0 hx239_0 hHeld ⊢
     refine pz_ 0 33 (bA_ 13 1) HT_ ?_
     refine pz_ 2 35 (bA_ 13 5) HT_ ?_
     refine pz_ 4 37 (bA_ 13 21) HT_ ?_
     refine pz_ 6 39 (bA_ 13 85) HT_ ?_
     refine tz_ 1 34 (bA_ 13 87) HT_ HW_ hHeld ?_
     refine tz_ 3 36 (bA_ 13 95) HT_ HW_ hHeld ?_
     refine tz_ 5 38 (bA_ 13 127) HT_ HW_ hHeld ?_
     refine tz_ 7 40 (bA_ 13 255) HT_ HW_ hHeld ?_
     refine pz_ 8 41 (bA_ 13 511) HT_ ?_
     refine tz_ 9 42 (bA_ 13 1023) HT_ HW_ hHeld ?_
     refine oz_ 10 43 (bA_ 13 2047) HT_ (fun K hK => ?_)
     refine goes_ Try.func96 (by kernel_rfl) rfl #[.slice A239_0 (rd_L1 l0_1 a1_1).length c239_0] (by rfl) rfl rfl lm_ ?_
     with_reducible refine (spec_l04Inverse.calls k _ _ (rd_L1 l0_1 a1_1) t240 _ ?side1 ?side2 A7.out).mono ?_
     (case side1 => exact cb_ HR239_0 HB)
     (case side2 => exact HC239_0.out)
     rintro e w27 ⟨v241, rfl, ho0, hb⟩
     refine ⟨_, rfl, ?_⟩
     have n0_ := am_ (Kd.N_elder' (Nx_ HO237.out) (Kd.R_base ho0) hb)
     have n1_ := am_ (Kd.R_lower (Kd.R_newM (M := fun k_ => (w.heap.size ≤ k_)) ho0 (below_size (bb_ HB.out)) (fun k_ h_ => h_)) (below_size (bb_ HB.out)))
     have n2_ := am_ (bw_ BK232 hb)
     have n3_ := am_ (bw_ BK233 hb)
     have n4_ := am_ (bw_ BK234 hb)
     have n5_ := am_ (bw_ BK238 hb)
     have n6_ := am_ (below_step (bb_ HB.out) hb)
     clear HO237 BK232 BK233 BK234 BK238 HB; revert n0_ n1_ n2_ n3_ n4_ n5_ n6_; intro HO237 HO242 BK232 BK233 BK234 BK238 HB
     (try clear hb)
     (try clear hb2)
     (try clear hk)
     (try clear hi)
     (try clear ho0)
     have p9 : 0 ≤ (a1_1 : Int) := da_
     have q9 : (a1_1 : Int) < ((t235.length : Int) : Int) := da_
     obtain ⟨go9, co9, eo9, gb9, gl9, cl9, HG9⟩ := Kd.N_form HO237.out (by omega)
     (first | cases eo9 | (injection eo9 with ea_ en_ ec_; (first | subst ea_ | (injection ea_ with ea_; subst ea_)); subst ec_; clear en_))
     have GB9 := am_ gb9
     have GG9 := am_ HG9
     clear gb9 gl9 HG9
     obtain ⟨ce9, hcl9, hM9, hcc9, hfr9⟩ := Kd.N_elem HO237.out [] (a1_1 : Int) p9 q9
     obtain ⟨ua9_0, uc9_0, rfl, ul9_0, ge9_0⟩ := Kd.FK_slice_open hM9
     have hx9_0 := hcc9 0 _ rfl
     have hf9_0 := hfr9 0
     (try simp only [show ((Kd.slice 2 (Kd.int .i64))).sz = 1 from rfl, Nat.mul_one, Nat.add_zero] at hx9_0)
     (try simp only [show ((Kd.slice 2 (Kd.int .i64))).sz = 1 from rfl, Nat.mul_one, Nat.add_zero] at hf9_0)
     (try clear hcl9); (try clear hcc9); (try clear hfr9); (try clear hM9)
     replace p9 := eq_true p9
     replace q9 := eq_true q9
     obtain ⟨Az241_, cz241_, ez241_⟩ := Kd.R_slice HO242.out
     subst ez241_
     have HX28 := am_ (show Kd.N (Kd.slice 2 (Kd.int .i64)) 39 _ w.heap.size (fun k_ => (w.heap.size ≤ k_) ∧ some k_ ≠ ((.slice Az241_ t240.length cz241_) : Value).ownBlock ∧ k_ ≠ gb232 ∧ k_ ≠ gb233 ∧ k_ ≠ gb234 ∧ k_ ≠ gb238) (.slice (some ⟨go9, 0, none⟩) t235.length co18) t235 from (Kd.N_mono (HO237.out) (fun k_ hk => ⟨hk.1.1, ⟨hk.2, ⟨hk.1.2.1, ⟨hk.1.2.2.1, ⟨hk.1.2.2.2.1, hk.1.2.2.2.2⟩⟩⟩⟩⟩)))
     replace HX28 := am_ (show Kd.N (Kd.slice 2 (Kd.int .i64)) 39 _ w.heap.size (fun k_ => (w.heap.size ≤ k_) ∧ k_ ≠ gb232 ∧ k_ ≠ gb233 ∧ k_ ≠ gb234 ∧ k_ ≠ gb238) (.slice (some ⟨go9, 0, none⟩) t235.length co18) t235 from Kd.N_mono HX28.out (fun k_ hk => ⟨hk.1, ⟨hk.2.2.1, ⟨hk.2.2.2.1, ⟨hk.2.2.2.2.1, hk.2.2.2.2.2⟩⟩⟩⟩))
     obtain ⟨ce28, hcl28, hM28, hcc28, hfr28⟩ := Kd.N_elem HX28.out [] (a1_1 : Int) da_ (by have h_ : (a1_1 : Int) < ((t235.length : Int) : Int) := da_; first | exact h_ | (have e_ := (Kd.N_reads' HO237.out).1; omega) | simpa using h_)
     obtain ⟨ua28_0, uc28_0, rfl, ul28_0, ge28_0⟩ := Kd.FK_slice_open hM28
     have HP28 := (Kd.N_seg HX28.out (a1_1 : Int) da_ (by have h_ : (a1_1 : Int) < ((t235.length : Int) : Int) := da_; first | exact h_ | (have e_ := (Kd.N_reads' HO237.out).1; omega) | simpa using h_) (seg := [(.slice Az241_ t240.length cz241_)]) (j := 0) hcl28 hcc28 (show 1 ≤ 1 from by decide) (x' := t240) (Kd.FK_slice_mk (Kd.R_reads' (Kd.R_mono (ok' := (fun k_ => ((fun k_ => (w.heap.size ≤ k_) ∧ k_ ≠ gb232 ∧ k_ ≠ gb233 ∧ k_ ≠ gb234 ∧ k_ ≠ gb238)) k_ ∧ k_ ≠ go9)) (Kd.R_types (Kd.R_types (Kd.R_types (Kd.R_types (Kd.R_apart' (HO242.out) (Kd.N_typed HO237.out) (by decide)) BK232.out (by decide)) BK233.out (by decide)) BK234.out (by decide)) BK238.out (by decide)) (fun k_ hk => ⟨⟨hk.1.1.1.1.1.1, ⟨hk.1.1.1.2, ⟨hk.1.1.2, ⟨hk.1.2, hk.2⟩⟩⟩⟩, fun e_ => (hk.1.1.1.1.2) (by rw [e_]; rfl)⟩))).2.1 (Kd.R_F (Kd.R_mono (ok' := (fun k_ => ((fun k_ => (w.heap.size ≤ k_) ∧ k_ ≠ gb232 ∧ k_ ≠ gb233 ∧ k_ ≠ gb234 ∧ k_ ≠ gb238)) k_ ∧ k_ ≠ go9)) (Kd.R_types (Kd.R_types (Kd.R_types (Kd.R_types (Kd.R_apart' (HO242.out) (Kd.N_typed HO237.out) (by decide)) BK232.out (by decide)) BK233.out (by decide)) BK234.out (by decide)) BK238.out (by decide)) (fun k_ hk => ⟨⟨hk.1.1.1.1.1.1, ⟨hk.1.1.1.2, ⟨hk.1.1.2, ⟨hk.1.2, hk.2⟩⟩⟩⟩, fun e_ => (hk.1.1.1.1.2) (by rw [e_]; rfl)⟩)))) (fun _ hk => hk)).1
     (try simp only [show ((Kd.slice 2 (Kd.int .i64))).sz = 1 from rfl, Nat.mul_one, Nat.add_zero] at HP28)
     rw [← Ny243.out] at HP28
     have HQ28 := am_ HP28
     (try clear hcl28); (try clear hcc28); (try clear hfr28); (try clear hM28); (try clear HP28)
     refine hK.out _ _ ⟨bc_ BK238 0, bc_ BK238 1, bc_ BK233 0, bc_ BK233 1, bc_ BK233 2, bc_ BK233 3, bc_ BK232 0, bc_ BK232 1, (cf_ HB hw239_0)⟩ (fun hHeld => ?_)
     clear hK K
     refine nm_ 43 ?_
     refine pz_ 11 44 (bA_ 13 4095) HT_ ?_
     refine last_ (i := 12) (N := none) (bA_ 13 8191) rfl rfl (one_of HT_.out (by kernel_rfl)) (by decide) (fun K hK => ?_)
     refine skip_ (w1 := ?_) (by rfl) rfl ?_ ?_
     rotate_left
     ·go_simp
      rfl
     refine hK.out _ _ ?_
     clear hK K
     refine done_ (done_of HT_.out (by kernel_rfl)) ?_
     have n0_ : Aside0 (Kd.N (Kd.slice 2 (Kd.int .i64)) 39 (w27.setCell ⟨go9, (a1_1 : Int).toNat, none⟩ ((.slice Az241_ t240.length cz241_))) w.heap.size (fun k_ => (w.heap.size ≤ k_) ∧ k_ ≠ gb232 ∧ k_ ≠ gb233 ∧ k_ ≠ gb234 ∧ k_ ≠ gb238) (.slice (some ⟨go9, 0, none⟩) t235.length co18) y243) := ⟨Nx_ HQ28.out⟩
     have n1_ : Aside0 ((w27.setCell ⟨go9, (a1_1 : Int).toNat, none⟩ ((.slice Az241_ t240.length cz241_))).heap[gb232]? = some (.cells #[.int .i64 a0_0, .slice (some ad239) l0_1.length c0_1] 28 (0, 0))) := ⟨by (with_reducible repeat (first | refine blk_drewN ?_ _ | refine blk_drew ?_ | refine blk_alloc ?_ _)); refine blk_far ?_ (by have h_ := Kd.N_away (g := gb232) HO237.out (fun _ hk => by first | exact hk.2.1 | exact hk.1.2.1 | exact hk.1.1.2.1 | exact hk.1.1.1.2.1 | (simp [hk]; done)); intro e_; exact h_ (by rw [e_]; rfl)) _; (with_reducible repeat (first | refine blk_drewN ?_ _ | refine blk_drew ?_ | refine blk_alloc ?_ _)); exact BK232.out⟩
     have n2_ : Aside0 ((w27.setCell ⟨go9, (a1_1 : Int).toNat, none⟩ ((.slice Az241_ t240.length cz241_))).heap[gb233]? = some (.cells #[.int .i64 a1_0, .int .i64 a1_1, .int .i64 a1_2, .slice A1_3 l1_3.length c1_3] 44 (0, 0))) := ⟨by (with_reducible repeat (first | refine blk_drewN ?_ _ | refine blk_drew ?_ | refine blk_alloc ?_ _)); refine blk_far ?_ (by have h_ := Kd.N_away (g := gb233) HO237.out (fun _ hk => by first | exact hk.2.2.1 | exact hk.1.2.2.1 | exact hk.1.1.2.2.1 | exact hk.1.1.1.2.2.1 | (simp [hk]; done)); intro e_; exact h_ (by rw [e_]; rfl)) _; (with_reducible repeat (first | refine blk_drewN ?_ _ | refine blk_drew ?_ | refine blk_alloc ?_ _)); exact BK233.out⟩
     have n3_ : Aside0 ((w27.setCell ⟨go9, (a1_1 : Int).toNat, none⟩ ((.slice Az241_ t240.length cz241_))).heap[gb234]? = some (.cells #[.int .i64 0, .slice none 0 0] 28 (0, 0))) := ⟨by (with_reducible repeat (first | refine blk_drewN ?_ _ | refine blk_drew ?_ | refine blk_alloc ?_ _)); refine blk_far ?_ (by have h_ := Kd.N_away (g := gb234) HO237.out (fun _ hk => by first | exact hk.2.2.2.1 | exact hk.1.2.2.2.1 | exact hk.1.1.2.2.2.1 | exact hk.1.1.1.2.2.2.1 | (simp [hk]; done)); intro e_; exact h_ (by rw [e_]; rfl)) _; (with_reducible repeat (first | refine blk_drewN ?_ _ | refine blk_drew ?_ | refine blk_alloc ?_ _)); exact BK234.out⟩
     have n4_ : Aside0 ((w27.setCell ⟨go9, (a1_1 : Int).toNat, none⟩ ((.slice Az241_ t240.length cz241_))).heap[gb238]? = some (.cells #[.int .i64 a0_0, .slice (some ⟨go9, 0, none⟩) t235.length co18] 28 (0, 0))) := ⟨by (with_reducible repeat (first | refine blk_drewN ?_ _ | refine blk_drew ?_ | refine blk_alloc ?_ _)); refine blk_far ?_ (by have h_ := Kd.N_away (g := gb238) HO237.out (fun _ hk => by first | exact hk.2.2.2.2 | exact hk.1.2.2.2.2 | exact hk.1.1.2.2.2.2 | exact hk.1.1.1.2.2.2.2 | (simp [hk]; done)); intro e_; exact h_ (by rw [e_]; rfl)) _; (with_reducible repeat (first | refine blk_drewN ?_ _ | refine blk_drew ?_ | refine blk_alloc ?_ _)); exact BK238.out⟩
     have n5_ : Aside0 (Below w.heap.size w (w27.setCell ⟨go9, (a1_1 : Int).toNat, none⟩ ((.slice Az241_ t240.length cz241_)))) := ⟨bb_ HB.out⟩
     (try clear HO237)
     (try clear BK232)
     (try clear BK233)
     (try clear BK234)
     (try clear BK238)
     (try clear HB)
     generalize (w27.setCell ⟨go9, (a1_1 : Int).toNat, none⟩ ((.slice Az241_ t240.length cz241_))) = w29 at n0_ n1_ n2_ n3_ n4_ n5_ ⊢
     have HO237 := n0_
     have BK232 := n1_
     have BK233 := n2_
     have BK234 := n3_
     have BK238 := n4_
     have HB := n5_
     clear n0_ n1_ n2_ n3_ n4_ n5_
     have hnb30 := NB238_232.out
     have hnc30 := NB232_238.out
     have hnb31 := NB238_234.out
     have hnc31 := NB234_238.out
     obtain ⟨hcz32_0, hcz32_1, hfz32_0, hfz32_1⟩ := bx2_ BK238
     have hnb33 := NB234_232.out
     have hnc33 := NB232_234.out
     obtain ⟨hcz34_0, hcz34_1, hfz34_0, hfz34_1⟩ := bx2_ BK234
     try go_wp2
     refine bodyPost_ret (results_cell_row rfl _ _ gb234 28 #[.int .i64 a0_0, .slice (some ⟨go9, 0, none⟩) t235.length co18] (0, 0) _ rfl (pu2_ BK234) Try.underlying28 rfl (by kernel_rfl)) rfl ?_
     exact ⟨_, er_, Nx_ (Kd.N_mono (Kd.N_far (p := ⟨gb234, 1, none⟩) (Kd.N_far (p := ⟨gb234, 0, none⟩) (Kd.N_mono HO237.out (fun k_ hk => (⟨hk, hk.2.2.2.1⟩ : _ ∧ k_ ≠ gb234))) (fun _ hk => hk.2) (.int .i64 a0_0)) (fun _ hk => hk.2) (.slice (some ⟨go9, 0, none⟩) t235.length co18)) (fun _ hk => hk.1.1)), bb_ HB.out⟩
    ·rw [if_neg c8] at H
     exact absurd H (by simp)
   ·rw [if_neg c6] at H
    exact absurd H (by simp)
  ·rw [if_neg c5] at H
   exact absurd H (by simp)
 ·rw [if_neg c4] at H
  have c4b0 : (a1_0 == 1) = false := beq_eq_false_iff_ne.mpr c4
  have c4b1 : (a1_0 != 1) = true := bne_iff_ne.mpr c4
  by_cases c35 : a1_0 = 2
  · exact absurd c35 (by have g_ := G_.out; clear H; omega)
  ·rw [if_neg c35] at H
   have c35b0 : (a1_0 == 2) = false := beq_eq_false_iff_ne.mpr c35
   have c35b1 : (a1_0 != 2) = true := bne_iff_ne.mpr c35
   by_cases c103 : a1_0 = 3
   ·rw [if_pos c103] at H
    have c103b0 : (a1_0 == 3) = true := beq_iff_eq.mpr c103
    have c103b1 : (a1_0 != 3) = false := bne_eq_false_iff_eq.mpr c103
    clear c103
    obtain ⟨y263, hy263⟩ : ∃ y_ : List Int, y_ = (([] : List Int)) := ⟨_, rfl⟩
    replace H : (if 0 ≤ a1_1 then (if a1_1 < (l0_1.length : Int) then (if y263.length + (rd_L1 l0_1 a1_1).length < 17592186044416 then ((some (y263 ++ (rd_L1 l0_1 a1_1) : List Int)).bind fun y267 => (if 0 ≤ a1_2 then (if a1_2 < (l0_1.length : Int) then (if y267.length + (rd_L1 l0_1 a1_2).length < 17592186044416 then ((spec_l04Reduce.f k (y267 ++ (rd_L1 l0_1 a1_2))).bind fun t274 => (if a1_1 < (t235.length : Int) then (some (a0_0, (t235.set (a1_1 : Int).toNat t274))) else (none))) else (none)) else (none)) else (none))) else (none)) else (none)) else (none)) = some (r1, r2) := hq_ hy263 H
    have Ny263 := am_ hy263
    clear hy263
    by_cases c104 : 0 ≤ a1_1
    ·rw [if_pos c104] at H
     have c104b0 : decide (0 ≤ a1_1) = true := decide_eq_true c104
     clear c104
     by_cases c105 : a1_1 < (l0_1.length : Int)
     ·rw [if_pos c105] at H
      have c105b0 : decide (a1_1 < (l0_1.length : Int)) = true := decide_eq_true c105
      clear c105
      by_cases c106 : y263.length + (rd_L1 l0_1 a1_1).length < 17592186044416
      ·rw [if_pos c106] at H
       have LMc106 := am_ c106
       clear c106
       obtain ⟨y267, hy267⟩ : ∃ y_ : List Int, y_ = (y263 ++ (rd_L1 l0_1 a1_1)) := ⟨_, rfl⟩
       replace H : (if 0 ≤ a1_2 then (if a1_2 < (l0_1.length : Int) then (if y267.length + (rd_L1 l0_1 a1_2).length < 17592186044416 then ((spec_l04Reduce.f k (y267 ++ (rd_L1 l0_1 a1_2))).bind fun t274 => (if a1_1 < (t235.length : Int) then (some (a0_0, (t235.set (a1_1 : Int).toNat t274))) else (none))) else (none)) else (none)) else (none)) = some (r1, r2) := hq_ hy267 H
       have Ny267 := am_ hy267
       clear hy267
       by_cases c107 : 0 ≤ a1_2
       ·rw [if_pos c107] at H
        have c107b0 : decide (0 ≤ a1_2) = true := decide_eq_true c107
        clear c107
        by_cases c108 : a1_2 < (l0_1.length : Int)
        ·rw [if_pos c108] at H
         have c108b0 : decide (a1_2 < (l0_1.length : Int)) = true := decide_eq_true c108
         clear c108
         by_cases c109 : y267.length + (rd_L1 l0_1 a1_2).length < 17592186044416
         ·rw [if_pos c109] at H
          have LMc109 := am_ c109
          clear c109
          obtain ⟨y271, hy271⟩ : ∃ y_ : List Int, y_ = (y267 ++ (rd_L1 l0_1 a1_2)) := ⟨_, rfl⟩
          replace H : ((spec_l04Reduce.f k y271).bind fun t274 => (if a1_1 < (t235.length : Int) then (some (a0_0, (t235.set (a1_1 : Int).toNat t274))) else (none))) = some (r1, r2) := hq_ hy271 H
          have Ny271 := am_ hy271
          clear hy271
          replace H := Option.bind_eq_some_iff.mp H
          obtain ⟨t274, A1100, H⟩ := H
          replace H : (if a1_1 < (t235.length : Int) then (some (a0_0, (t235.set (a1_1 : Int).toNat t274))) else (none)) = some (r1, r2) := H
          have A110 := am_ A1100
          clear A1100
          by_cases c111 : a1_1 < (t235.length : Int)
          ·rw [if_pos c111] at H
           have c111b0 : decide (a1_1 < (t235.length : Int)) = true := decide_eq_true c111
           clear c111
           obtain ⟨y277, hy277⟩ : ∃ y_ : List (List Int), y_ = (t235.set (a1_1 : Int).toNat t274) := ⟨_, rfl⟩
           replace H : (some (a0_0, y277)) = some (r1, r2) := hq_ hy277 H
           have Ny277 := am_ hy277
           clear hy277
           simp only [Option.some.injEq, Prod.mk.injEq] at H
           obtain ⟨rfl, rfl⟩ := H
           go_enter Try.func63, Try.ntmps63
           try go_wp2_with (first | (refine be_ 2 28 #[.int .i64 a0_0, .slice A0_1 l0_1.length c0_1] ?_; intro gb232 hg w113 hbox hb; have n_ := ba0_ HB hbox hb hg; clear  HB hb hbox hg; obtain ⟨HB, BK232, GW232, GE232⟩ := n_) | (refine be_ 3 44 #[.int .i64 a1_0, .int .i64 a1_1, .int .i64 a1_2, .slice A1_3 l1_3.length c1_3] ?_; intro gb233 hg w114 hbox hb; have n_ := ba1_ BK232 HB hbox hb hg; clear BK232 HB hb hbox hg; obtain ⟨BK232, HB, BK233, GW233, GE233, NB232_233, NB233_232⟩ := n_) | (refine be_ 4 28 #[.int .i64 0, .slice none 0 0] ?_; intro gb234 hg w115 hbox hb; have n_ := ba2_ BK232 BK233 HB hbox hb hg; clear BK232 BK233 HB hb hbox hg; obtain ⟨BK232, BK233, HB, BK234, GW234, GE234, NB232_234, NB234_232, NB233_234, NB234_233⟩ := n_))
           have n0_ := am_ (blk_drew BK232.out)
           have n1_ := am_ (blk_drew BK233.out)
           have n2_ := am_ (blk_drew BK234.out)
           have n3_ := am_ (below_drew1 HB.out)
           clear BK232 BK233 BK234 HB; revert n0_ n1_ n2_ n3_; intro BK232 BK233 BK234 HB
           refine start_ (n := 8) (S := fun w' => w'.cell? ⟨gb232, 0, none⟩ = some (.int .i64 a0_0) ∧ w'.cell? ⟨gb232, 1, none⟩ = some (.slice A0_1 l0_1.length c0_1)) (ds := []) (bA_ 8 0) (by kernel_rfl) rfl (by kernel_rfl) ⟨bc_ BK232 0, bc_ BK232 1⟩ (fun hHeld => ?_); refine with_tabW spec_l04Move.tab1 spec_l04Move.bits1 (fun HT_ HW_ => ?_)
           generalize w115.drew = w116 at BK232 BK233 BK234 HB hHeld ⊢
           refine pz_ 0 8 (bA_ 8 1) HT_ ?_
           refine pz_ 2 10 (bA_ 8 5) HT_ ?_
           refine tz_ 1 9 (bA_ 8 7) HT_ HW_ hHeld ?_
           refine tz_ 3 11 (bA_ 8 15) HT_ HW_ hHeld ?_
           refine join_ (σ := Value × Nat) 1 (bA_ 8 127) (fun s_ => [(12, s_.1), (5, .pointer (some ⟨s_.2, 0, none⟩)), (13, .agg #[.int .i64 a0_0, s_.1])]) (fun s_ w' => (w'.cell? ⟨gb232, 0, none⟩ = some (.int .i64 a0_0) ∧ w'.cell? ⟨gb232, 1, none⟩ = some (.slice A0_1 l0_1.length c0_1)) ∧ (Kd.N (Kd.slice 2 (Kd.int .i64)) 39 w' w.heap.size (fun k_ => (w.heap.size ≤ k_) ∧ k_ ≠ gb232 ∧ k_ ≠ gb233 ∧ k_ ≠ gb234 ∧ k_ ≠ s_.2) s_.1 t235) ∧ (w'.heap[gb232]? = some (.cells #[.int .i64 a0_0, .slice A0_1 l0_1.length c0_1] 28 (0, 0))) ∧ (w'.heap[gb233]? = some (.cells #[.int .i64 a1_0, .int .i64 a1_1, .int .i64 a1_2, .slice A1_3 l1_3.length c1_3] 44 (0, 0))) ∧ (w'.heap[gb234]? = some (.cells #[.int .i64 0, .slice none 0 0] 28 (0, 0))) ∧ (w'.heap[s_.2]? = some (.cells #[.int .i64 0, .slice none 0 0] 28 (0, 0))) ∧ (w.heap.size ≤ s_.2) ∧ (w.heap.size ≤ s_.2) ∧ (gb232 ≠ s_.2) ∧ (s_.2 ≠ gb232) ∧ (gb233 ≠ s_.2) ∧ (s_.2 ≠ gb233) ∧ (gb234 ≠ s_.2) ∧ (s_.2 ≠ gb234) ∧ (Below w.heap.size w w')) ?_ ?_
           rotate_left
           ·intro hCont
            refine two_ (i := 4) (j := 6) (Ni := some 12) (Nj := some 5) (bA_ 8 31) (bA_ 8 79) rfl rfl rfl rfl (two_of HT_.out (by kernel_rfl)) (by decide) (by decide) (fun K hK => ?_) (fun K hK => ?_)
            ·skip
             refine goes_ Try.func40 (by kernel_rfl) rfl #[.slice A0_1 l0_1.length c0_1, .int .i64 (-1)] (by rfl) rfl rfl lm_ ?_
             with_reducible refine (spec_l04Copy.calls k _ _ l0_1 (-1) t235 _ ?side1 ?side2 A3.out).mono ?_
             (case side1 => exact cb_ HR0_1 HB)
             (case side2 => exact HC0_1.out)
             rintro e w117 ⟨v236, rfl, ho0, hb⟩
             refine ⟨_, rfl, ?_⟩
             have n0_ := am_ (Kd.N_lower (Kd.N_mono (ok' := fun k_ => (w.heap.size ≤ k_) ∧ k_ ≠ gb232 ∧ k_ ≠ gb233 ∧ k_ ≠ gb234) (Kd.S_N (Kd.S_bound ho0)) (fun k_ hk_ => ⟨(Nat.le_trans (below_size (bb_ HB.out)) hk_.2.1), (Kd.freshB (g := gb232) (o := .cells #[.int .i64 a0_0, .slice A0_1 l0_1.length c0_1] 28 (0, 0)) (bk_ BK232.out) k_ hk_.2.1), (Kd.freshB (g := gb233) (o := .cells #[.int .i64 a1_0, .int .i64 a1_1, .int .i64 a1_2, .slice A1_3 l1_3.length c1_3] 44 (0, 0)) (bk_ BK233.out) k_ hk_.2.1), (Kd.freshB (g := gb234) (o := .cells #[.int .i64 0, .slice none 0 0] 28 (0, 0)) (bk_ BK234.out) k_ hk_.2.1)⟩)) (below_size (bb_ HB.out)))
             have n1_ := am_ (bw_ BK232 hb)
             have n2_ := am_ (bw_ BK233 hb)
             have n3_ := am_ (bw_ BK234 hb)
             have n4_ := am_ (below_step (bb_ HB.out) hb)
             clear BK232 BK233 BK234 HB; revert n0_ n1_ n2_ n3_ n4_; intro HO237 BK232 BK233 BK234 HB
             (try clear hb)
             (try clear hb2)
             (try clear hk)
             (try clear hi)
             (try clear ho0)
             obtain ⟨Ao118, co118, eo118⟩ := Kd.N_slice HO237.out
             (first | subst eo118 | (injection eo118 with f1_ f2_ f3_; have f4_ := f1_.symm; have f5_ := f3_.symm; clear f1_ f2_ f3_; subst f4_; subst f5_))
             refine hK.out _ _ ⟨bc_ BK232 0, bc_ BK232 1⟩ (fun hHeld => ?_)
             clear hK K
             refine nm_ 12 ?_
             refine pz_ 5 13 (bA_ 8 63) HT_ ?_
             refine oz_ 6 5 (bA_ 8 127) HT_ (fun K hK => ?_)
             refine box_step ?hg (N := 5) ?hd (cs := #[.int .i64 0, .slice none 0 0]) (t := 28) ?hr ?_; (case hd => rfl); (case hg => rfl); (case hr => first | (go_simp; done) | (go_simp; rfl))
             intro gb238 hg w119 hbox hb
             have n0_ := am_ (Kd.N_below (Kd.N_elderB (Nx_ HO237.out) gb238 (Nat.le_of_eq hg.symm)) hb)
             have n1_ := am_ (bw_ BK232 hb)
             have n2_ := am_ (bw_ BK233 hb)
             have n3_ := am_ (bw_ BK234 hb)
             have n4_ := am_ (below_step (bb_ HB.out) hb)
             have n5_ := am_ (hbox)
             have n6_ := gs_ HB hg
             have n7_ := gs_ HB hg
             have n8_ := am_ (nl_ BK232 hg)
             have n9_ := am_ (ng_ BK232 hg)
             have n10_ := am_ (nl_ BK233 hg)
             have n11_ := am_ (ng_ BK233 hg)
             have n12_ := am_ (nl_ BK234 hg)
             have n13_ := am_ (ng_ BK234 hg)
             clear HO237 BK232 BK233 BK234 HB; revert n0_ n1_ n2_ n3_ n4_ n5_ n6_ n7_ n8_ n9_ n10_ n11_ n12_ n13_; intro HO237 BK232 BK233 BK234 HB BK238 GW238 GE238 NB232_238 NB238_232 NB233_238 NB238_233 NB234_238 NB238_234
             clear hb hbox hg
             refine hK.out _ _ ⟨bc_ BK232 0, bc_ BK232 1⟩ (fun hHeld => ?_)
             clear hK K
             refine nm_ 5 ?_
             exact norm_ (by simp only [putAll, Act.put, List.setIfInBounds_toArray, List.set_cons_zero, List.set_cons_succ]) (hCont (.slice Ao118 t235.length co118, gb238) _ ⟨hHeld, (Nx_ (Kd.N_mono HO237.out (fun _ hk => ⟨hk.1.1, ⟨hk.1.2.1, ⟨hk.1.2.2.1, ⟨hk.1.2.2.2, hk.2⟩⟩⟩⟩))), (bk_ BK232.out), (bk_ BK233.out), (bk_ BK234.out), (bk_ BK238.out), GW238.out, GE238.out, NB232_238.out, NB238_232.out, NB233_238.out, NB238_233.out, NB234_238.out, NB238_234.out, (bb_ HB.out)⟩)
            ·skip
             refine box_step ?hg (N := 5) ?hd (cs := #[.int .i64 0, .slice none 0 0]) (t := 28) ?hr ?_; (case hd => rfl); (case hg => rfl); (case hr => first | (go_simp; done) | (go_simp; rfl))
             intro gb238 hg w117 hbox hb
             have n0_ := am_ (bw_ BK232 hb)
             have n1_ := am_ (bw_ BK233 hb)
             have n2_ := am_ (bw_ BK234 hb)
             have n3_ := am_ (below_step (bb_ HB.out) hb)
             have n4_ := am_ (hbox)
             have n5_ := gs_ HB hg
             have n6_ := gs_ HB hg
             have n7_ := am_ (nl_ BK232 hg)
             have n8_ := am_ (ng_ BK232 hg)
             have n9_ := am_ (nl_ BK233 hg)
             have n10_ := am_ (ng_ BK233 hg)
             have n11_ := am_ (nl_ BK234 hg)
             have n12_ := am_ (ng_ BK234 hg)
             clear BK232 BK233 BK234 HB; revert n0_ n1_ n2_ n3_ n4_ n5_ n6_ n7_ n8_ n9_ n10_ n11_ n12_; intro BK232 BK233 BK234 HB BK238 GW238 GE238 NB232_238 NB238_232 NB233_238 NB238_233 NB234_238 NB238_234
             clear hb hbox hg
             refine hK.out _ _ ⟨bc_ BK232 0, bc_ BK232 1⟩ (fun hHeld => ?_)
             clear hK K
             refine nm_ 5 ?_
             refine oz_ 4 12 (bA_ 8 95) HT_ (fun K hK => ?_)
             refine goes_ Try.func40 (by kernel_rfl) rfl #[.slice A0_1 l0_1.length c0_1, .int .i64 (-1)] (by rfl) rfl rfl lm_ ?_
             with_reducible refine (spec_l04Copy.calls k _ _ l0_1 (-1) t235 _ ?side1 ?side2 A3.out).mono ?_
             (case side1 => exact cb_ HR0_1 HB)
             (case side2 => exact HC0_1.out)
             rintro e w118 ⟨v236, rfl, ho0, hb⟩
             refine ⟨_, rfl, ?_⟩
             have n0_ := am_ (Kd.N_lower (Kd.N_mono (ok' := fun k_ => (w.heap.size ≤ k_) ∧ k_ ≠ gb232 ∧ k_ ≠ gb233 ∧ k_ ≠ gb234 ∧ k_ ≠ gb238) (Kd.S_N (Kd.S_bound ho0)) (fun k_ hk_ => ⟨(Nat.le_trans (below_size (bb_ HB.out)) hk_.2.1), (Kd.freshB (g := gb232) (o := .cells #[.int .i64 a0_0, .slice A0_1 l0_1.length c0_1] 28 (0, 0)) (bk_ BK232.out) k_ hk_.2.1), (Kd.freshB (g := gb233) (o := .cells #[.int .i64 a1_0, .int .i64 a1_1, .int .i64 a1_2, .slice A1_3 l1_3.length c1_3] 44 (0, 0)) (bk_ BK233.out) k_ hk_.2.1), (Kd.freshB (g := gb234) (o := .cells #[.int .i64 0, .slice none 0 0] 28 (0, 0)) (bk_ BK234.out) k_ hk_.2.1), (Kd.freshB (g := gb238) (o := .cells #[.int .i64 0, .slice none 0 0] 28 (0, 0)) (bk_ BK238.out) k_ hk_.2.1)⟩)) (below_size (bb_ HB.out)))
             have n1_ := am_ (bw_ BK232 hb)
             have n2_ := am_ (bw_ BK233 hb)
             have n3_ := am_ (bw_ BK234 hb)
             have n4_ := am_ (bw_ BK238 hb)
             have n5_ := am_ (below_step (bb_ HB.out) hb)
             clear BK232 BK233 BK234 BK238 HB; revert n0_ n1_ n2_ n3_ n4_ n5_; intro HO237 BK232 BK233 BK234 BK238 HB
             (try clear hb)
             (try clear hb2)
             (try clear hk)
             (try clear hi)
             (try clear ho0)
             obtain ⟨Ao119, co119, eo119⟩ := Kd.N_slice HO237.out
             (first | subst eo119 | (injection eo119 with f1_ f2_ f3_; have f4_ := f1_.symm; have f5_ := f3_.symm; clear f1_ f2_ f3_; subst f4_; subst f5_))
             refine hK.out _ _ ⟨bc_ BK232 0, bc_ BK232 1⟩ (fun hHeld => ?_)
             clear hK K
             refine nm_ 12 ?_
             refine pz_ 5 13 (bA_ 8 127) HT_ ?_
             exact norm_ (by simp only [putAll, Act.put, List.setIfInBounds_toArray, List.set_cons_zero, List.set_cons_succ]) (hCont (.slice Ao119 t235.length co119, gb238) _ ⟨hHeld, (Nx_ HO237.out), (bk_ BK232.out), (bk_ BK233.out), (bk_ BK234.out), (bk_ BK238.out), GW238.out, GE238.out, NB232_238.out, NB238_232.out, NB233_238.out, NB238_233.out, NB234_238.out, NB238_234.out, (bb_ HB.out)⟩)
           rintro ⟨v236, gb238⟩ w120 ⟨hS_, h0_, h1_, h2_, h3_, h4_, h5_, h6_, h7_, h8_, h9_, h10_, h11_, h12_, h13_⟩
           have n0_ : Aside0 (Kd.N (Kd.slice 2 (Kd.int .i64)) 39 w120 w.heap.size (fun k_ => (w.heap.size ≤ k_) ∧ k_ ≠ gb232 ∧ k_ ≠ gb233 ∧ k_ ≠ gb234 ∧ k_ ≠ gb238) v236 t235) := ⟨h0_⟩
           have n1_ : Aside0 (w120.heap[gb232]? = some (.cells #[.int .i64 a0_0, .slice A0_1 l0_1.length c0_1] 28 (0, 0))) := ⟨h1_⟩
           have n2_ : Aside0 (w120.heap[gb233]? = some (.cells #[.int .i64 a1_0, .int .i64 a1_1, .int .i64 a1_2, .slice A1_3 l1_3.length c1_3] 44 (0, 0))) := ⟨h2_⟩
           have n3_ : Aside0 (w120.heap[gb234]? = some (.cells #[.int .i64 0, .slice none 0 0] 28 (0, 0))) := ⟨h3_⟩
           have n4_ : Aside0 (w120.heap[gb238]? = some (.cells #[.int .i64 0, .slice none 0 0] 28 (0, 0))) := ⟨h4_⟩
           have n5_ : Aside0 (w.heap.size ≤ gb238) := ⟨h5_⟩
           have n6_ : Aside0 (w.heap.size ≤ gb238) := ⟨h6_⟩
           have n7_ : Aside0 (gb232 ≠ gb238) := ⟨h7_⟩
           have n8_ : Aside0 (gb238 ≠ gb232) := ⟨h8_⟩
           have n9_ : Aside0 (gb233 ≠ gb238) := ⟨h9_⟩
           have n10_ : Aside0 (gb238 ≠ gb233) := ⟨h10_⟩
           have n11_ : Aside0 (gb234 ≠ gb238) := ⟨h11_⟩
           have n12_ : Aside0 (gb238 ≠ gb234) := ⟨h12_⟩
           have n13_ : Aside0 (Below w.heap.size w w120) := ⟨h13_⟩
           clear BK232
           clear BK233
           clear BK234
           clear HB
           clear h0_ h1_ h2_ h3_ h4_ h5_ h6_ h7_ h8_ h9_ h10_ h11_ h12_ h13_
           have HO237 := n0_
           have BK232 := n1_
           have BK233 := n2_
           have BK234 := n3_
           have BK238 := n4_
           have GW238 := n5_
           have GE238 := n6_
           have NB232_238 := n7_
           have NB238_232 := n8_
           have NB233_238 := n9_
           have NB238_233 := n10_
           have NB234_238 := n11_
           have NB238_234 := n12_
           have HB := n13_
           clear n0_ n1_ n2_ n3_ n4_ n5_ n6_ n7_ n8_ n9_ n10_ n11_ n12_ n13_
           have hHeld : w120.cell? ⟨gb232, 0, none⟩ = some (.int .i64 a0_0) ∧ w120.cell? ⟨gb232, 1, none⟩ = some (.slice A0_1 l0_1.length c0_1) := hS_
           obtain ⟨Ao121, co121, eo121⟩ := Kd.N_slice HO237.out
           (first | subst eo121 | (injection eo121 with f1_ f2_ f3_; have f4_ := f1_.symm; have f5_ := f3_.symm; clear f1_ f2_ f3_; subst f4_; subst f5_))
           refine norm_ (a' := ?_) ?_ ?_
           rotate_left
           ·simp only [putAll, Act.put, List.setIfInBounds_toArray, List.set_cons_zero, List.set_cons_succ]
            rfl
           refine one_ (i := 7) (N := none) (bA_ 8 255) rfl rfl (one_of HT_.out (by kernel_rfl)) (by decide) (fun K hK => ?_)
           have hs122 : w120.cell? ⟨gb238, 0, none⟩ = some (.int .i64 0) := bc_ BK238 0
           have hfs122 := blk_frozen BK238.out 0
           have hns122_0 := NB232_238.out
           have hns122_1 := NB233_238.out
           have hns122_2 := NB234_238.out
           have hms122_0 := NB238_232.out
           have hms122_1 := NB238_233.out
           have hms122_2 := NB238_234.out
           have hs123 : w120.cell? ⟨gb238, 1, none⟩ = some (.slice none 0 0) := bc_ BK238 1
           have hfs123 := blk_frozen BK238.out 1
           have hns123_0 := NB232_238.out
           have hns123_1 := NB233_238.out
           have hns123_2 := NB234_238.out
           have hms123_0 := NB238_232.out
           have hms123_1 := NB238_233.out
           have hms123_2 := NB238_234.out
           refine skip_ (w1 := ?_) (by rfl) rfl ?_ ?_
           rotate_left
           ·go_simp
            rfl
           refine hK.out _ _ ⟨((cell_far (p := ⟨gb238, _, none⟩) NB232_238.out _).trans (((cell_far (p := ⟨gb238, _, none⟩) NB232_238.out _).trans (hHeld.1)))), ((cell_far (p := ⟨gb238, _, none⟩) NB232_238.out _).trans (((cell_far (p := ⟨gb238, _, none⟩) NB232_238.out _).trans (hHeld.2))))⟩ (fun hHeld => ?_)
           clear hK K
           refine done_ (done_of HT_.out (by kernel_rfl)) ?_
           have hnb124 := NB233_232.out
           have hnc124 := NB232_233.out
           have hnb125 := NB233_234.out
           have hnc125 := NB234_233.out
           have hnb126 := NB233_238.out
           have hnc126 := NB238_233.out
           obtain ⟨hcz127_0, hcz127_1, hcz127_2, hcz127_3, hfz127_0, hfz127_1, hfz127_2, hfz127_3⟩ := bx4_ BK233
           try go_wp2
           have n0_ : Aside0 (Kd.N (Kd.slice 2 (Kd.int .i64)) 39 ((w120.setCell ⟨gb238, 0, none⟩ (.int .i64 a0_0)).setCell ⟨gb238, 1, none⟩ (.slice Ao121 t235.length co121)) w.heap.size (fun k_ => (w.heap.size ≤ k_) ∧ k_ ≠ gb232 ∧ k_ ≠ gb233 ∧ k_ ≠ gb234 ∧ k_ ≠ gb238) (.slice Ao121 t235.length co121) t235) := ⟨Nx_ (Kd.N_mono (Kd.N_far (p := ⟨gb238, 1, none⟩) (Kd.N_far (p := ⟨gb238, 0, none⟩) (Kd.N_mono HO237.out (fun k_ hk => (⟨hk, hk.2.2.2.2⟩ : _ ∧ k_ ≠ gb238))) (fun _ hk => hk.2) (.int .i64 a0_0)) (fun _ hk => hk.2) (.slice Ao121 t235.length co121)) (fun _ hk => ⟨hk.1.1, ⟨hk.1.2.1, ⟨hk.1.2.2.1, ⟨hk.1.2.2.2.1, hk.1.2.2.2.2⟩⟩⟩⟩))⟩
           have n1_ : Aside0 (((w120.setCell ⟨gb238, 0, none⟩ (.int .i64 a0_0)).setCell ⟨gb238, 1, none⟩ (.slice Ao121 t235.length co121)).heap[gb232]? = some (.cells #[.int .i64 a0_0, .slice A0_1 l0_1.length c0_1] 28 (0, 0))) := ⟨bk_ BK232.out⟩
           have n2_ : Aside0 (((w120.setCell ⟨gb238, 0, none⟩ (.int .i64 a0_0)).setCell ⟨gb238, 1, none⟩ (.slice Ao121 t235.length co121)).heap[gb233]? = some (.cells #[.int .i64 a1_0, .int .i64 a1_1, .int .i64 a1_2, .slice A1_3 l1_3.length c1_3] 44 (0, 0))) := ⟨bk_ BK233.out⟩
           have n3_ : Aside0 (((w120.setCell ⟨gb238, 0, none⟩ (.int .i64 a0_0)).setCell ⟨gb238, 1, none⟩ (.slice Ao121 t235.length co121)).heap[gb234]? = some (.cells #[.int .i64 0, .slice none 0 0] 28 (0, 0))) := ⟨bk_ BK234.out⟩
           have n4_ : Aside0 (((w120.setCell ⟨gb238, 0, none⟩ (.int .i64 a0_0)).setCell ⟨gb238, 1, none⟩ (.slice Ao121 t235.length co121)).heap[gb238]? = some (.cells #[.int .i64 a0_0, .slice Ao121 t235.length co121] 28 (0, 0))) := ⟨pu2_ BK238⟩
           have n5_ : Aside0 (Below w.heap.size w ((w120.setCell ⟨gb238, 0, none⟩ (.int .i64 a0_0)).setCell ⟨gb238, 1, none⟩ (.slice Ao121 t235.length co121))) := ⟨bb_ HB.out⟩
           (try clear HO237)
           (try clear BK232)
           (try clear BK233)
           (try clear BK234)
           (try clear BK238)
           (try clear HB)
           generalize ((w120.setCell ⟨gb238, 0, none⟩ (.int .i64 a0_0)).setCell ⟨gb238, 1, none⟩ (.slice Ao121 t235.length co121)) = w128 at n0_ n1_ n2_ n3_ n4_ n5_ ⊢
           have HO237 := n0_
           have BK232 := n1_
           have BK233 := n2_
           have BK234 := n3_
           have BK238 := n4_
           have HB := n5_
           clear n0_ n1_ n2_ n3_ n4_ n5_
           have n0_ := am_ (Kd.N_drew HO237.out)
           have n1_ := am_ (blk_drew BK232.out)
           have n2_ := am_ (blk_drew BK233.out)
           have n3_ := am_ (blk_drew BK234.out)
           have n4_ := am_ (blk_drew BK238.out)
           have n5_ := am_ (below_drew1 HB.out)
           clear HO237 BK232 BK233 BK234 BK238 HB; revert n0_ n1_ n2_ n3_ n4_ n5_; intro HO237 BK232 BK233 BK234 BK238 HB
           have p266 : 0 ≤ (a1_1 : Int) := da_
           have q266 : a1_1 < (l0_1.length : Int) := da_
           obtain ⟨ad266, A266_0, c266_0, e266, hx266_0, hl266_0, hi266_0⟩ := at_L1 HR0_1.out a1_1 p266 q266
           have hw266_0 := hx266_0
           cases e266
           replace hx266_0 := ce_ HB hx266_0
           have HR266_0 := am_ hi266_0
           have HC266_0 := am_ hl266_0
           clear hi266_0 hl266_0
           replace p266 := eq_true p266
           replace q266 := eq_true q266
           have p270 : 0 ≤ (a1_2 : Int) := da_
           have q270 : a1_2 < (l0_1.length : Int) := da_
           obtain ⟨ad270, A270_0, c270_0, e270, hx270_0, hl270_0, hi270_0⟩ := at_L1 HR0_1.out a1_2 p270 q270
           have hw270_0 := hx270_0
           obtain rfl : ad266 = ad270 := (by injection e270)
           replace hx270_0 := ce_ HB hx270_0
           have HR270_0 := am_ hi270_0
           have HC270_0 := am_ hl270_0
           clear hi270_0 hl270_0
           replace p270 := eq_true p270
           replace q270 := eq_true q270
           refine start_ (n := 22) (S := fun w' => w'.cell? ⟨gb238, 0, none⟩ = some (.int .i64 a0_0) ∧ w'.cell? ⟨gb238, 1, none⟩ = some (.slice Ao121 t235.length co121) ∧ w'.cell? ⟨gb233, 0, none⟩ = some (.int .i64 a1_0) ∧ w'.cell? ⟨gb233, 1, none⟩ = some (.int .i64 a1_1) ∧ w'.cell? ⟨gb233, 2, none⟩ = some (.int .i64 a1_2) ∧ w'.cell? ⟨gb233, 3, none⟩ = some (.slice A1_3 l1_3.length c1_3) ∧ w'.cell? ⟨gb232, 0, none⟩ = some (.int .i64 a0_0) ∧ w'.cell? ⟨gb232, 1, none⟩ = some (.slice (some ad266) l0_1.length c0_1) ∧ w'.cell? (ad266.add (a1_1).toNat) = some (.slice A266_0 (rd_L1 l0_1 a1_1).length c266_0) ∧ w'.cell? (ad266.add (a1_2).toNat) = some (.slice A270_0 (rd_L1 l0_1 a1_2).length c270_0)) (ds := [21]) (bA_ 22 0) (by kernel_rfl) rfl (by kernel_rfl) ⟨bc_ BK238 0, bc_ BK238 1, bc_ BK233 0, bc_ BK233 1, bc_ BK233 2, bc_ BK233 3, bc_ BK232 0, bc_ BK232 1, (cf_ HB hw266_0), (cf_ HB hw270_0)⟩ (fun hHeld => ?_); refine with_tabW spec_l04Move.tab12 spec_l04Move.bits12 (fun HT_ HW_ => ?_)
           generalize w128.drew = w129 at HO237 BK232 BK233 BK234 BK238 HB HR266_0 HR270_0 hx266_0 hx270_0 hHeld ⊢
           refine pz_ 0 73 (bA_ 22 1) HT_ ?_
           refine pz_ 2 75 (bA_ 22 5) HT_ ?_
           refine pz_ 5 78 (bA_ 22 37) HT_ ?_
           refine pz_ 7 80 (bA_ 22 165) HT_ ?_
           refine pz_ 12 85 (bA_ 22 4261) HT_ ?_
           refine pz_ 14 87 (bA_ 22 20645) HT_ ?_
           refine tz_ 1 74 (bA_ 22 20647) HT_ HW_ hHeld ?_
           refine tz_ 3 76 (bA_ 22 20655) HT_ HW_ hHeld ?_
           refine tz_ 6 79 (bA_ 22 20719) HT_ HW_ hHeld ?_
           refine tz_ 8 81 (bA_ 22 20975) HT_ HW_ hHeld ?_
           refine pz_ 9 82 (bA_ 22 21487) HT_ ?_
           refine tz_ 10 83 (bA_ 22 22511) HT_ HW_ hHeld ?_
           refine tz_ 13 86 (bA_ 22 30703) HT_ HW_ hHeld ?_
           refine tz_ 15 88 (bA_ 22 63471) HT_ HW_ hHeld ?_
           refine pz_ 16 89 (bA_ 22 129007) HT_ ?_
           refine tz_ 17 90 (bA_ 22 260079) HT_ HW_ hHeld ?_
           refine oz_ 4 77 (bA_ 22 260095) HT_ (fun K hK => ?_)
           refine Kd.R_lit_step (Kd.int .i64) _ 2 ?hg (N := 77) ?hd (xs := ([] : List Int)) (inner := []) (ok := fun _ => True) (okp := fun _ => True) ?hr ?hp (fun _ hk => hk) trivial (Below.refl _ _) (Nat.le_refl _) (by simp) ?_; (case hd => rfl); (case hg => rfl); (case hr => first | (go_simp; done) | (go_simp; rfl)); (case hp => exact (Reps.none _ _))
           intro v264 w130 ho131 hb hg_ hnew_
           clear hg_ hnew_
           (first | rw [← Ny263.out] at ho131 | (simp only [Int.reduceToNat] at ho131; rw [← Ny263.out] at ho131))
           have n0_ := am_ (Kd.N_elder' (Nx_ HO237.out) (Kd.R_base ho131) hb)
           have n1_ := am_ (Kd.R_lower (Kd.R_newM (M := fun k_ => (w.heap.size ≤ k_)) ho131 (below_size (bb_ HB.out)) (fun k_ h_ => h_)) (below_size (bb_ HB.out)))
           have n2_ := am_ (bw_ BK232 hb)
           have n3_ := am_ (bw_ BK233 hb)
           have n4_ := am_ (bw_ BK234 hb)
           have n5_ := am_ (bw_ BK238 hb)
           have n6_ := am_ (below_step (bb_ HB.out) hb)
           clear HO237 BK232 BK233 BK234 BK238 HB; revert n0_ n1_ n2_ n3_ n4_ n5_ n6_; intro HO237 HO265 BK232 BK233 BK234 BK238 HB
           clear hb ho131
           refine hK.out _ _ ⟨bc_ BK238 0, bc_ BK238 1, bc_ BK233 0, bc_ BK233 1, bc_ BK233 2, bc_ BK233 3, bc_ BK232 0, bc_ BK232 1, (cf_ HB hw266_0), (cf_ HB hw270_0)⟩ (fun hHeld => ?_)
           clear hK K
           refine nm_ 77 ?_
           refine oz_ 11 84 (bA_ 22 262143) HT_ (fun K hK => ?_)
           refine Kd.R_append_rows_step (Kd.int .i64) (w0 := w) w.heap.size (by rfl) (.tmp 77) (.tmp 83) 39 2 (.int .i64 0) 8 rfl Try.underlying39 info2 rfl (by decide) (by omega) v264 y263 (rd_L1 l0_1 a1_1) _ _ _ (fun k_ => (w.heap.size ≤ k_)) (fun _ => False) rfl rfl ?aO ?aR (fun _ _ h => h) (fun _ h => h.elim) ?aF ?aB ?aS ?aL ?_
           (case aR => exact cb_ HR266_0 HB)
           (case aB => exact (bb_ HB.out))
           (case aF => exact (fun k_ hk => (Nat.le_trans (below_size (bb_ HB.out)) hk)))
           (case aO => exact (rm_ HO265.out (fun _ hk => hk.1)))
           (case aS => exact (below_size (bb_ HB.out)))
           (case aL => have := LMc106.out; omega)
           intro v268 w132 ho hb hg hat
           rw [← Ny267.out] at ho
           have n0_ := am_ (blk_grown (g := gb232) (o := .cells #[.int .i64 a0_0, .slice (some ad266) l0_1.length c0_1] 28 (0, 0)) (bk_ BK232.out) hg (Kd.R_ne HO265.out BK232.out (by decide)))
           have n1_ := am_ (blk_grown (g := gb233) (o := .cells #[.int .i64 a1_0, .int .i64 a1_1, .int .i64 a1_2, .slice A1_3 l1_3.length c1_3] 44 (0, 0)) (bk_ BK233.out) hg (Kd.R_ne HO265.out BK233.out (by decide)))
           have n2_ := am_ (blk_grown (g := gb234) (o := .cells #[.int .i64 0, .slice none 0 0] 28 (0, 0)) (bk_ BK234.out) hg (Kd.R_ne HO265.out BK234.out (by decide)))
           have n3_ := am_ (Kd.N_afterv (ok := (fun k_ => (w.heap.size ≤ k_) ∧ k_ ≠ gb232 ∧ k_ ≠ gb233 ∧ k_ ≠ gb234 ∧ k_ ≠ gb238)) (Nx_ HO237.out) hg hat)
           have n4_ := am_ (blk_grown (g := gb238) (o := .cells #[.int .i64 a0_0, .slice Ao121 t235.length co121] 28 (0, 0)) (bk_ BK238.out) hg (Kd.R_ne HO265.out BK238.out (by decide)))
           have n5_ := am_ (hb)
           have n6_ := am_ (ho)
           clear BK232 BK233 BK234 HO237 BK238 HB HO265; revert n0_ n1_ n2_ n3_ n4_ n5_ n6_; intro BK232 BK233 BK234 HO237 BK238 HB HO269
           clear ho hb hg hat
           refine hK.out _ _ ⟨bc_ BK238 0, bc_ BK238 1, bc_ BK233 0, bc_ BK233 1, bc_ BK233 2, bc_ BK233 3, bc_ BK232 0, bc_ BK232 1, (cf_ HB hw266_0), (cf_ HB hw270_0)⟩ (fun hHeld => ?_)
           clear hK K
           refine nm_ 84 ?_
           refine oz_ 18 91 (bA_ 22 524287) HT_ (fun K hK => ?_)
           refine Kd.R_append_rows_step (Kd.int .i64) (w0 := w) w.heap.size (by rfl) (.tmp 84) (.tmp 90) 39 2 (.int .i64 0) 8 rfl Try.underlying39 info2 rfl (by decide) (by omega) v268 y267 (rd_L1 l0_1 a1_2) _ _ _ (fun k_ => (w.heap.size ≤ k_)) (fun _ => False) rfl rfl ?aO ?aR (fun _ _ h => h) (fun _ h => h.elim) ?aF ?aB ?aS ?aL ?_
           (case aR => exact cb_ HR270_0 HB)
           (case aB => exact (bb_ HB.out))
           (case aF => exact (fun k_ hk => (Nat.le_trans (below_size (bb_ HB.out)) hk)))
           (case aO => exact (rk_ HO269.out))
           (case aS => exact (below_size (bb_ HB.out)))
           (case aL => have := LMc109.out; omega)
           intro v272 w133 ho hb hg hat
           rw [← Ny271.out] at ho
           have n0_ := am_ (blk_grown (g := gb232) (o := .cells #[.int .i64 a0_0, .slice (some ad266) l0_1.length c0_1] 28 (0, 0)) (bk_ BK232.out) hg (Kd.R_ne HO269.out BK232.out (by decide)))
           have n1_ := am_ (blk_grown (g := gb233) (o := .cells #[.int .i64 a1_0, .int .i64 a1_1, .int .i64 a1_2, .slice A1_3 l1_3.length c1_3] 44 (0, 0)) (bk_ BK233.out) hg (Kd.R_ne HO269.out BK233.out (by decide)))
           have n2_ := am_ (blk_grown (g := gb234) (o := .cells #[.int .i64 0, .slice none 0 0] 28 (0, 0)) (bk_ BK234.out) hg (Kd.R_ne HO269.out BK234.out (by decide)))
           have n3_ := am_ (Kd.N_afterv (ok := (fun k_ => (w.heap.size ≤ k_) ∧ k_ ≠ gb232 ∧ k_ ≠ gb233 ∧ k_ ≠ gb234 ∧ k_ ≠ gb238)) (Nx_ HO237.out) hg hat)
           have n4_ := am_ (blk_grown (g := gb238) (o := .cells #[.int .i64 a0_0, .slice Ao121 t235.length co121] 28 (0, 0)) (bk_ BK238.out) hg (Kd.R_ne HO269.out BK238.out (by decide)))
           have n5_ := am_ (hb)
           have n6_ := am_ (ho)
           clear BK232 BK233 BK234 HO237 BK238 HB HO269; revert n0_ n1_ n2_ n3_ n4_ n5_ n6_; intro BK232 BK233 BK234 HO237 BK238 HB HO273
           clear ho hb hg hat
           obtain ⟨Ao134, co134, eo134⟩ := Kd.R_slice HO273.out
           (first | subst eo134 | (injection eo134 with f1_ f2_ f3_; have f4_ := f1_.symm; have f5_ := f3_.symm; clear f1_ f2_ f3_; subst f4_; subst f5_))
           refine hK.out _ _ ⟨bc_ BK238 0, bc_ BK238 1, bc_ BK233 0, bc_ BK233 1, bc_ BK233 2, bc_ BK233 3, bc_ BK232 0, bc_ BK232 1, (cf_ HB hw266_0), (cf_ HB hw270_0)⟩ (fun hHeld => ?_)
           clear hK K
           refine nm_ 91 ?_
           refine oz_ 19 92 (bA_ 22 1048575) HT_ (fun K hK => ?_)
           refine goes_ Try.func87 (by kernel_rfl) rfl #[.slice Ao134 y271.length co134] (by rfl) rfl rfl lm_ ?_
           with_reducible refine (spec_l04Reduce.calls k _ _ y271 t274 _ ?side1 ?side2 A110.out).mono ?_
           (case side1 => exact cz_ (Kd.R_reads' HO273.out).2.2)
           (case side2 => exact (Kd.R_reads' HO273.out).2.1)
           rintro e w135 ⟨v275, rfl, ho0, hb⟩
           refine ⟨_, rfl, ?_⟩
           have n0_ := am_ (Kd.N_elder' (Nx_ HO237.out) (Kd.R_base ho0) hb)
           have n1_ := am_ (Kd.R_elder' (rk_ HO273.out) (Kd.R_base ho0) hb)
           have n2_ := am_ (Kd.R_lower (Kd.R_new' (Kd.R_newM (M := fun k_ => (w.heap.size ≤ k_)) ho0 (below_size (bb_ HB.out)) (fun k_ h_ => h_)) (Kd.R_lt (rk_ HO273.out))) (below_size (bb_ HB.out)))
           have n3_ := am_ (bw_ BK232 hb)
           have n4_ := am_ (bw_ BK233 hb)
           have n5_ := am_ (bw_ BK234 hb)
           have n6_ := am_ (bw_ BK238 hb)
           have n7_ := am_ (below_step (bb_ HB.out) hb)
           clear HO237 HO273 BK232 BK233 BK234 BK238 HB; revert n0_ n1_ n2_ n3_ n4_ n5_ n6_ n7_; intro HO237 HO273 HO276 BK232 BK233 BK234 BK238 HB
           (try clear hb)
           (try clear hb2)
           (try clear hk)
           (try clear hi)
           (try clear ho0)
           have p112 : 0 ≤ (a1_1 : Int) := da_
           have q112 : (a1_1 : Int) < ((t235.length : Int) : Int) := da_
           obtain ⟨go112, co112, eo112, gb112, gl112, cl112, HG112⟩ := Kd.N_form HO237.out (by omega)
           (first | cases eo112 | (injection eo112 with ea_ en_ ec_; (first | subst ea_ | (injection ea_ with ea_; subst ea_)); subst ec_; clear en_))
           have GB112 := am_ gb112
           have GG112 := am_ HG112
           clear gb112 gl112 HG112
           obtain ⟨ce112, hcl112, hM112, hcc112, hfr112⟩ := Kd.N_elem HO237.out [] (a1_1 : Int) p112 q112
           obtain ⟨ua112_0, uc112_0, rfl, ul112_0, ge112_0⟩ := Kd.FK_slice_open hM112
           have hx112_0 := hcc112 0 _ rfl
           have hf112_0 := hfr112 0
           (try simp only [show ((Kd.slice 2 (Kd.int .i64))).sz = 1 from rfl, Nat.mul_one, Nat.add_zero] at hx112_0)
           (try simp only [show ((Kd.slice 2 (Kd.int .i64))).sz = 1 from rfl, Nat.mul_one, Nat.add_zero] at hf112_0)
           (try clear hcl112); (try clear hcc112); (try clear hfr112); (try clear hM112)
           replace p112 := eq_true p112
           replace q112 := eq_true q112
           obtain ⟨Az275_, cz275_, ez275_⟩ := Kd.R_slice HO276.out
           subst ez275_
           have HX136 := am_ (show Kd.N (Kd.slice 2 (Kd.int .i64)) 39 _ w.heap.size (fun k_ => (w.heap.size ≤ k_) ∧ some k_ ≠ (.slice Ao134 y271.length co134 : Value).ownBlock ∧ some k_ ≠ ((.slice Az275_ t274.length cz275_) : Value).ownBlock ∧ k_ ≠ gb232 ∧ k_ ≠ gb233 ∧ k_ ≠ gb234 ∧ k_ ≠ gb238) (.slice (some ⟨go112, 0, none⟩) t235.length co121) t235 from (Kd.N_mono (HO237.out) (fun k_ hk => ⟨hk.1.1.1, ⟨hk.1.2, ⟨hk.2, ⟨hk.1.1.2.1, ⟨hk.1.1.2.2.1, ⟨hk.1.1.2.2.2.1, hk.1.1.2.2.2.2⟩⟩⟩⟩⟩⟩)))
           replace HX136 := am_ (show Kd.N (Kd.slice 2 (Kd.int .i64)) 39 _ w.heap.size (fun k_ => (w.heap.size ≤ k_) ∧ some k_ ≠ (.slice Ao134 y271.length co134 : Value).ownBlock ∧ k_ ≠ gb232 ∧ k_ ≠ gb233 ∧ k_ ≠ gb234 ∧ k_ ≠ gb238) (.slice (some ⟨go112, 0, none⟩) t235.length co121) t235 from Kd.N_mono HX136.out (fun k_ hk => ⟨hk.1, ⟨hk.2.1, ⟨hk.2.2.2.1, ⟨hk.2.2.2.2.1, ⟨hk.2.2.2.2.2.1, hk.2.2.2.2.2.2⟩⟩⟩⟩⟩))
           obtain ⟨ce136, hcl136, hM136, hcc136, hfr136⟩ := Kd.N_elem HX136.out [] (a1_1 : Int) da_ (by have h_ : (a1_1 : Int) < ((t235.length : Int) : Int) := da_; first | exact h_ | (have e_ := (Kd.N_reads' HO237.out).1; omega) | simpa using h_)
           obtain ⟨ua136_0, uc136_0, rfl, ul136_0, ge136_0⟩ := Kd.FK_slice_open hM136
           have HP136 := (Kd.N_seg HX136.out (a1_1 : Int) da_ (by have h_ : (a1_1 : Int) < ((t235.length : Int) : Int) := da_; first | exact h_ | (have e_ := (Kd.N_reads' HO237.out).1; omega) | simpa using h_) (seg := [(.slice Az275_ t274.length cz275_)]) (j := 0) hcl136 hcc136 (show 1 ≤ 1 from by decide) (x' := t274) (Kd.FK_slice_mk (Kd.R_reads' (Kd.R_mono (ok' := (fun k_ => ((fun k_ => (w.heap.size ≤ k_) ∧ some k_ ≠ (.slice Ao134 y271.length co134 : Value).ownBlock ∧ k_ ≠ gb232 ∧ k_ ≠ gb233 ∧ k_ ≠ gb234 ∧ k_ ≠ gb238)) k_ ∧ k_ ≠ go112)) (Kd.R_types (Kd.R_types (Kd.R_types (Kd.R_types (Kd.R_apart' (HO276.out) (Kd.N_typed HO237.out) (by decide)) BK232.out (by decide)) BK233.out (by decide)) BK234.out (by decide)) BK238.out (by decide)) (fun k_ hk => ⟨⟨hk.1.1.1.1.1.1.1, ⟨hk.1.1.1.1.1.2, ⟨hk.1.1.1.2, ⟨hk.1.1.2, ⟨hk.1.2, hk.2⟩⟩⟩⟩⟩, fun e_ => (hk.1.1.1.1.2) (by rw [e_]; rfl)⟩))).2.1 (Kd.R_F (Kd.R_mono (ok' := (fun k_ => ((fun k_ => (w.heap.size ≤ k_) ∧ some k_ ≠ (.slice Ao134 y271.length co134 : Value).ownBlock ∧ k_ ≠ gb232 ∧ k_ ≠ gb233 ∧ k_ ≠ gb234 ∧ k_ ≠ gb238)) k_ ∧ k_ ≠ go112)) (Kd.R_types (Kd.R_types (Kd.R_types (Kd.R_types (Kd.R_apart' (HO276.out) (Kd.N_typed HO237.out) (by decide)) BK232.out (by decide)) BK233.out (by decide)) BK234.out (by decide)) BK238.out (by decide)) (fun k_ hk => ⟨⟨hk.1.1.1.1.1.1.1, ⟨hk.1.1.1.1.1.2, ⟨hk.1.1.1.2, ⟨hk.1.1.2, ⟨hk.1.2, hk.2⟩⟩⟩⟩⟩, fun e_ => (hk.1.1.1.1.2) (by rw [e_]; rfl)⟩)))) (fun _ hk => hk)).1
           (try simp only [show ((Kd.slice 2 (Kd.int .i64))).sz = 1 from rfl, Nat.mul_one, Nat.add_zero] at HP136)
           rw [← Ny277.out] at HP136
           have HQ136 := am_ HP136
           (try clear hcl136); (try clear hcc136); (try clear hfr136); (try clear hM136); (try clear HP136)
           refine hK.out _ _ ⟨bc_ BK238 0, bc_ BK238 1, bc_ BK233 0, bc_ BK233 1, bc_ BK233 2, bc_ BK233 3, bc_ BK232 0, bc_ BK232 1, (cf_ HB hw266_0), (cf_ HB hw270_0)⟩ (fun hHeld => ?_)
           clear hK K
           refine nm_ 92 ?_
           refine pz_ 20 93 (bA_ 22 2097151) HT_ ?_
           refine last_ (i := 21) (N := none) (bA_ 22 4194303) rfl rfl (one_of HT_.out (by kernel_rfl)) (by decide) (fun K hK => ?_)
           refine skip_ (w1 := ?_) (by rfl) rfl ?_ ?_
           rotate_left
           ·go_simp
            rfl
           refine hK.out _ _ ?_
           clear hK K
           refine done_ (done_of HT_.out (by kernel_rfl)) ?_
           have n0_ : Aside0 (Kd.N (Kd.slice 2 (Kd.int .i64)) 39 (w135.setCell ⟨go112, (a1_1 : Int).toNat, none⟩ ((.slice Az275_ t274.length cz275_))) w.heap.size (fun k_ => (w.heap.size ≤ k_) ∧ some k_ ≠ (.slice Ao134 y271.length co134 : Value).ownBlock ∧ k_ ≠ gb232 ∧ k_ ≠ gb233 ∧ k_ ≠ gb234 ∧ k_ ≠ gb238) (.slice (some ⟨go112, 0, none⟩) t235.length co121) y277) := ⟨Nx_ HQ136.out⟩
           have n1_ : Aside0 (Kd.R (Kd.int .i64) 2 (w135.setCell ⟨go112, (a1_1 : Int).toNat, none⟩ ((.slice Az275_ t274.length cz275_))) w.heap.size (fun k_ => (w.heap.size ≤ k_)) (.slice Ao134 y271.length co134) y271) := ⟨rm_ (Kd.R_far (p := ⟨go112, (a1_1 : Int).toNat, none⟩) (Kd.R_types HO273.out GG112.out (by decide)) (fun _ hk => hk.2) ((.slice Az275_ t274.length cz275_))) (fun _ hk => hk.1.1)⟩
           have n2_ : Aside0 ((w135.setCell ⟨go112, (a1_1 : Int).toNat, none⟩ ((.slice Az275_ t274.length cz275_))).heap[gb232]? = some (.cells #[.int .i64 a0_0, .slice (some ad266) l0_1.length c0_1] 28 (0, 0))) := ⟨by (with_reducible repeat (first | refine blk_drewN ?_ _ | refine blk_drew ?_ | refine blk_alloc ?_ _)); refine blk_far ?_ (by have h_ := Kd.N_away (g := gb232) HO237.out (fun _ hk => by first | exact hk.2.2.1 | exact hk.1.2.2.1 | exact hk.1.1.2.2.1 | exact hk.1.1.1.2.2.1 | (simp [hk]; done)); intro e_; exact h_ (by rw [e_]; rfl)) _; (with_reducible repeat (first | refine blk_drewN ?_ _ | refine blk_drew ?_ | refine blk_alloc ?_ _)); exact BK232.out⟩
           have n3_ : Aside0 ((w135.setCell ⟨go112, (a1_1 : Int).toNat, none⟩ ((.slice Az275_ t274.length cz275_))).heap[gb233]? = some (.cells #[.int .i64 a1_0, .int .i64 a1_1, .int .i64 a1_2, .slice A1_3 l1_3.length c1_3] 44 (0, 0))) := ⟨by (with_reducible repeat (first | refine blk_drewN ?_ _ | refine blk_drew ?_ | refine blk_alloc ?_ _)); refine blk_far ?_ (by have h_ := Kd.N_away (g := gb233) HO237.out (fun _ hk => by first | exact hk.2.2.2.1 | exact hk.1.2.2.2.1 | exact hk.1.1.2.2.2.1 | exact hk.1.1.1.2.2.2.1 | (simp [hk]; done)); intro e_; exact h_ (by rw [e_]; rfl)) _; (with_reducible repeat (first | refine blk_drewN ?_ _ | refine blk_drew ?_ | refine blk_alloc ?_ _)); exact BK233.out⟩
           have n4_ : Aside0 ((w135.setCell ⟨go112, (a1_1 : Int).toNat, none⟩ ((.slice Az275_ t274.length cz275_))).heap[gb234]? = some (.cells #[.int .i64 0, .slice none 0 0] 28 (0, 0))) := ⟨by (with_reducible repeat (first | refine blk_drewN ?_ _ | refine blk_drew ?_ | refine blk_alloc ?_ _)); refine blk_far ?_ (by have h_ := Kd.N_away (g := gb234) HO237.out (fun _ hk => by first | exact hk.2.2.2.2.1 | exact hk.1.2.2.2.2.1 | exact hk.1.1.2.2.2.2.1 | exact hk.1.1.1.2.2.2.2.1 | (simp [hk]; done)); intro e_; exact h_ (by rw [e_]; rfl)) _; (with_reducible repeat (first | refine blk_drewN ?_ _ | refine blk_drew ?_ | refine blk_alloc ?_ _)); exact BK234.out⟩
           have n5_ : Aside0 ((w135.setCell ⟨go112, (a1_1 : Int).toNat, none⟩ ((.slice Az275_ t274.length cz275_))).heap[gb238]? = some (.cells #[.int .i64 a0_0, .slice (some ⟨go112, 0, none⟩) t235.length co121] 28 (0, 0))) := ⟨by (with_reducible repeat (first | refine blk_drewN ?_ _ | refine blk_drew ?_ | refine blk_alloc ?_ _)); refine blk_far ?_ (by have h_ := Kd.N_away (g := gb238) HO237.out (fun _ hk => by first | exact hk.2.2.2.2.2 | exact hk.1.2.2.2.2.2 | exact hk.1.1.2.2.2.2.2 | exact hk.1.1.1.2.2.2.2.2 | (simp [hk]; done)); intro e_; exact h_ (by rw [e_]; rfl)) _; (with_reducible repeat (first | refine blk_drewN ?_ _ | refine blk_drew ?_ | refine blk_alloc ?_ _)); exact BK238.out⟩
           have n6_ : Aside0 (Below w.heap.size w (w135.setCell ⟨go112, (a1_1 : Int).toNat, none⟩ ((.slice Az275_ t274.length cz275_)))) := ⟨bb_ HB.out⟩
           (try clear HO237)
           (try clear HO273)
           (try clear BK232)
           (try clear BK233)
           (try clear BK234)
           (try clear BK238)
           (try clear HB)
           generalize (w135.setCell ⟨go112, (a1_1 : Int).toNat, none⟩ ((.slice Az275_ t274.length cz275_))) = w137 at n0_ n1_ n2_ n3_ n4_ n5_ n6_ ⊢
           have HO237 := n0_
           have HO273 := n1_
           have BK232 := n2_
           have BK233 := n3_
           have BK234 := n4_
           have BK238 := n5_
           have HB := n6_
           clear n0_ n1_ n2_ n3_ n4_ n5_ n6_
           have hnb138 := NB238_232.out
           have hnc138 := NB232_238.out
           have hnb139 := NB238_234.out
           have hnc139 := NB234_238.out
           obtain ⟨hcz140_0, hcz140_1, hfz140_0, hfz140_1⟩ := bx2_ BK238
           have hnb141 := NB234_232.out
           have hnc141 := NB232_234.out
           obtain ⟨hcz142_0, hcz142_1, hfz142_0, hfz142_1⟩ := bx2_ BK234
           try go_wp2
           refine bodyPost_ret (results_cell_row rfl _ _ gb234 28 #[.int .i64 a0_0, .slice (some ⟨go112, 0, none⟩) t235.length co121] (0, 0) _ rfl (pu2_ BK234) Try.underlying28 rfl (by kernel_rfl)) rfl ?_
           exact ⟨_, er_, Nx_ (Kd.N_mono (Kd.N_far (p := ⟨gb234, 1, none⟩) (Kd.N_far (p := ⟨gb234, 0, none⟩) (Kd.N_mono HO237.out (fun k_ hk => (⟨hk, hk.2.2.2.2.1⟩ : _ ∧ k_ ≠ gb234))) (fun _ hk => hk.2) (.int .i64 a0_0)) (fun _ hk => hk.2) (.slice (some ⟨go112, 0, none⟩) t235.length co121)) (fun _ hk => hk.1.1)), bb_ HB.out⟩
          ·rw [if_neg c111] at H
           exact absurd H (by simp)
         ·rw [if_neg c109] at H
          exact absurd H (by simp)
        ·rw [if_neg c108] at H
         exact absurd H (by simp)
       ·rw [if_neg c107] at H
        exact absurd H (by simp)
      ·rw [if_neg c106] at H
       exact absurd H (by simp)
     ·rw [if_neg c105] at H
      exact absurd H (by simp)
    ·rw [if_neg c104] at H
     exact absurd H (by simp)
   · exact absurd G_.out (by clear H; omega)

end Go.Proofs.Ytbcdngjajjgmkaa.PFnSimplify
