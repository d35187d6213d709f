/- Written by this session's program out of the kit's print and this session's contracts. -/
import Derived.Test.YtbcdngjajjgmkaaVFnSimplifyPx0
import Derived.Test.YtbcdngjajjgmkaaVFnSimplifyPx2
import Derived.Test.YtbcdngjajjgmkaaVFnSimplifyPx3
import Derived.Test.YtbcdngjajjgmkaaVFnSimplifyPx4
import Derived.Test.YtbcdngjajjgmkaaVFnSimplifyPx5
import Derived.Test.YtbcdngjajjgmkaaVFnSimplifyPx6
namespace Go.Proofs.Ytbcdngjajjgmkaa.PFnSimplify
open Go.RowKit Go.Proofs.YtbcdngjajjgmkaaW.PrintWords Go.Proofs.YtbcdngjajjgmkaaW.PrintLast Go.Proofs.YtbcdngjajjgmkaaW.PrintMore
set_option linter.unusedVariables false
set_option linter.unusedSimpArgs false

/-! ### spec_l04Move: part 2 -/
set_option maxHeartbeats 8000000 in
set_option maxRecDepth 100000 in
theorem spec_l04Move.calls_2 (k : Nat) (a0_0 : Int) (A0_1 : Option Addr) (c0_1 : Nat) (l0_1 : List (List Int)) (a1_0 : Int) (a1_1 : Int) (a1_2 : Int) (A1_3 : Option Addr) (c1_3 : Nat) (l1_3 : List Int) (r1 : Int) (r2 : List (List Int)) (w : World) (hr0_1 : Kd.C (Kd.slice 2 (Kd.int .i64)) w A0_1 l0_1.length l0_1) (hc0_1 : l0_1.length ≤ c0_1) (hr1_3 : Kd.C (Kd.int .i64) w A1_3 l1_3.length l1_3) (hc1_3 : l1_3.length ≤ c1_3) (h : spec_l04Move.f k a0_0 l0_1 a1_0 a1_1 a1_2 l1_3 = some (r1, r2)) (G_ : Aside0 (¬ a1_0 = 2 ∧ ¬ a1_0 = 1 ∧ ¬ a1_0 = 3)) :
  Calls Try.prog 63 #[.agg #[.int .i64 a0_0, .slice A0_1 l0_1.length c0_1], .agg #[.int .i64 a1_0, .int .i64 a1_1, .int .i64 a1_2, .slice A1_3 l1_3.length c1_3]] w fun e w' => ∃ v1_ : Value, e = .returned (.agg #[.int .i64 r1, v1_]) ∧ Kd.N (Kd.slice 2 (Kd.int .i64)) 39 w' w.heap.size (fun k_ => (w.heap.size ≤ k_)) v1_ r2 ∧ Below w.heap.size w w' := by
 have hu28 := Try.underlying28
 have hu44 := Try.underlying44
 have HR0_1 := am_ hr0_1
 have HC0_1 := am_ hc0_1
 clear hr0_1 hc0_1
 have HR1_3 := am_ hr1_3
 have HC1_3 := am_ hc1_3
 clear hr1_3 hc1_3
 have HB := am_ (Below.refl w.heap.size w)
 have H := h
 unfold spec_l04Move.f at H
 clear h
 replace H := Option.bind_eq_some_iff.mp H
 obtain ⟨t235, A30, H⟩ := H
 replace H : (if a1_0 = 1 then (if 0 ≤ a1_1 then (if a1_1 < (l0_1.length : Int) then ((spec_l04Inverse.f k (rd_L1 l0_1 a1_1)).bind fun t240 => (if a1_1 < (t235.length : Int) then (some (a0_0, (t235.set (a1_1 : Int).toNat t240))) else (none))) else (none)) else (none)) else (if a1_0 = 2 then (if 0 ≤ a1_1 then (if a1_1 < (l0_1.length : Int) then (if ((rd_L1 l0_1 a1_1).length : Int) > 0 then ((some (([] : List Int) : List Int)).bind fun y245 => (if 1 ≤ ((rd_L1 l0_1 a1_1).length : Int) then (if y245.length + ((rd_L1 l0_1 a1_1).drop 1).length < 17592186044416 then ((some (y245 ++ ((rd_L1 l0_1 a1_1).drop 1) : List Int)).bind fun y249 => (if 0 < ((rd_L1 l0_1 a1_1).length : Int) then ((some (([rd (rd_L1 l0_1 a1_1) 0] : List Int) : List Int)).bind fun y253 => (if y249.length + y253.length < 17592186044416 then ((spec_l04Reduce.f k (y249 ++ y253)).bind fun t259 => (if a1_1 < (t235.length : Int) then (some (a0_0, (t235.set (a1_1 : Int).toNat t259))) else (none))) else (none))) else (none))) else (none)) else (none))) else (some (a0_0, t235))) else (none)) else (none)) else (if a1_0 = 3 then ((some (([] : List Int) : List Int)).bind fun y263 => (if 0 ≤ a1_1 then (if a1_1 < (l0_1.length : Int) then (if y263.length + (rd_L1 l0_1 a1_1).length < 17592186044416 then ((some (y263 ++ (rd_L1 l0_1 a1_1) : List Int)).bind fun y267 => (if 0 ≤ a1_2 then (if a1_2 < (l0_1.length : Int) then (if y267.length + (rd_L1 l0_1 a1_2).length < 17592186044416 then ((spec_l04Reduce.f k (y267 ++ (rd_L1 l0_1 a1_2))).bind fun t274 => (if a1_1 < (t235.length : Int) then (some (a0_0, (t235.set (a1_1 : Int).toNat t274))) else (none))) else (none)) else (none)) else (none))) else (none)) else (none)) else (none))) else (if a1_0 = 4 then ((spec_l04Copy.f k l0_1 a1_1).bind fun t278 => (some (a0_0, t278))) else (if a1_0 = 5 then ((spec_l04Remove.f k a0_0 l0_1 a1_1 a1_2).bind fun bt281 => (some (bt281.1, bt281.2))) else ((some (([wrap64 (-(wrap64 (a0_0 + 1)))] : List Int) : List Int)).bind fun y285 => (if y285.length + l1_3.length < 17592186044416 then ((some (([(y285 ++ l1_3)] : List (List Int)) : List (List Int))).bind fun y291 => (if t235.length + y291.length < 5864062014805 then (some (wrap64 (a0_0 + 1), (t235 ++ y291))) else (none))) else (none)))))))) = some (r1, r2) := H
 have A3 := am_ A30
 clear A30
 by_cases c4 : a1_0 = 1
 · exact absurd c4 (by have g_ := G_.out; clear H; omega)
 ·rw [if_neg c4] at H
  have c4b0 : (a1_0 == 1) = false := beq_eq_false_iff_ne.mpr c4
  have c4b1 : (a1_0 != 1) = true := bne_iff_ne.mpr c4
  by_cases c35 : a1_0 = 2
  · exact absurd c35 (by have g_ := G_.out; clear H; omega)
  ·rw [if_neg c35] at H
   have c35b0 : (a1_0 == 2) = false := beq_eq_false_iff_ne.mpr c35
   have c35b1 : (a1_0 != 2) = true := bne_iff_ne.mpr c35
   by_cases c103 : a1_0 = 3
   · exact absurd c103 (by have g_ := G_.out; clear H; omega)
   ·rw [if_neg c103] at H
    have c103b0 : (a1_0 == 3) = false := beq_eq_false_iff_ne.mpr c103
    have c103b1 : (a1_0 != 3) = true := bne_iff_ne.mpr c103
    by_cases c143 : a1_0 = 4
    ·rw [if_pos c143] at H
     have c143b0 : (a1_0 == 4) = true := beq_iff_eq.mpr c143
     have c143b1 : (a1_0 != 4) = false := bne_eq_false_iff_eq.mpr c143
     clear c143
     replace H := Option.bind_eq_some_iff.mp H
     obtain ⟨t278, A1440, H⟩ := H
     replace H : (some (a0_0, t278)) = some (r1, r2) := H
     have A144 := am_ A1440
     clear A1440
     simp only [Option.some.injEq, Prod.mk.injEq] at H
     obtain ⟨rfl, rfl⟩ := H
     go_enter Try.func63, Try.ntmps63
     try go_wp2_with (first | (refine be_ 2 28 #[.int .i64 a0_0, .slice A0_1 l0_1.length c0_1] ?_; intro gb232 hg w145 hbox hb; have n_ := ba0_ HB hbox hb hg; clear  HB hb hbox hg; obtain ⟨HB, BK232, GW232, GE232⟩ := n_) | (refine be_ 3 44 #[.int .i64 a1_0, .int .i64 a1_1, .int .i64 a1_2, .slice A1_3 l1_3.length c1_3] ?_; intro gb233 hg w146 hbox hb; have n_ := ba1_ BK232 HB hbox hb hg; clear BK232 HB hb hbox hg; obtain ⟨BK232, HB, BK233, GW233, GE233, NB232_233, NB233_232⟩ := n_) | (refine be_ 4 28 #[.int .i64 0, .slice none 0 0] ?_; intro gb234 hg w147 hbox hb; have n_ := ba2_ BK232 BK233 HB hbox hb hg; clear BK232 BK233 HB hb hbox hg; obtain ⟨BK232, BK233, HB, BK234, GW234, GE234, NB232_234, NB234_232, NB233_234, NB234_233⟩ := n_))
     have n0_ := am_ (blk_drew BK232.out)
     have n1_ := am_ (blk_drew BK233.out)
     have n2_ := am_ (blk_drew BK234.out)
     have n3_ := am_ (below_drew1 HB.out)
     clear BK232 BK233 BK234 HB; revert n0_ n1_ n2_ n3_; intro BK232 BK233 BK234 HB
     refine start_ (n := 8) (S := fun w' => w'.cell? ⟨gb232, 0, none⟩ = some (.int .i64 a0_0) ∧ w'.cell? ⟨gb232, 1, none⟩ = some (.slice A0_1 l0_1.length c0_1)) (ds := []) (bA_ 8 0) (by kernel_rfl) rfl (by kernel_rfl) ⟨bc_ BK232 0, bc_ BK232 1⟩ (fun hHeld => ?_); refine with_tabW spec_l04Move.tab1 spec_l04Move.bits1 (fun HT_ HW_ => ?_)
     generalize w147.drew = w148 at BK232 BK233 BK234 HB hHeld ⊢
     refine pz_ 0 8 (bA_ 8 1) HT_ ?_
     refine pz_ 2 10 (bA_ 8 5) HT_ ?_
     refine tz_ 1 9 (bA_ 8 7) HT_ HW_ hHeld ?_
     refine tz_ 3 11 (bA_ 8 15) HT_ HW_ hHeld ?_
     refine join_ (σ := Value × Nat) 1 (bA_ 8 127) (fun s_ => [(12, s_.1), (5, .pointer (some ⟨s_.2, 0, none⟩)), (13, .agg #[.int .i64 a0_0, s_.1])]) (fun s_ w' => (w'.cell? ⟨gb232, 0, none⟩ = some (.int .i64 a0_0) ∧ w'.cell? ⟨gb232, 1, none⟩ = some (.slice A0_1 l0_1.length c0_1)) ∧ (Kd.N (Kd.slice 2 (Kd.int .i64)) 39 w' w.heap.size (fun k_ => (w.heap.size ≤ k_) ∧ k_ ≠ gb232 ∧ k_ ≠ gb233 ∧ k_ ≠ gb234 ∧ k_ ≠ s_.2) s_.1 t235) ∧ (w'.heap[gb232]? = some (.cells #[.int .i64 a0_0, .slice A0_1 l0_1.length c0_1] 28 (0, 0))) ∧ (w'.heap[gb233]? = some (.cells #[.int .i64 a1_0, .int .i64 a1_1, .int .i64 a1_2, .slice A1_3 l1_3.length c1_3] 44 (0, 0))) ∧ (w'.heap[gb234]? = some (.cells #[.int .i64 0, .slice none 0 0] 28 (0, 0))) ∧ (w'.heap[s_.2]? = some (.cells #[.int .i64 0, .slice none 0 0] 28 (0, 0))) ∧ (w.heap.size ≤ s_.2) ∧ (w.heap.size ≤ s_.2) ∧ (gb232 ≠ s_.2) ∧ (s_.2 ≠ gb232) ∧ (gb233 ≠ s_.2) ∧ (s_.2 ≠ gb233) ∧ (gb234 ≠ s_.2) ∧ (s_.2 ≠ gb234) ∧ (Below w.heap.size w w')) ?_ ?_
     rotate_left
     ·intro hCont
      refine two_ (i := 4) (j := 6) (Ni := some 12) (Nj := some 5) (bA_ 8 31) (bA_ 8 79) rfl rfl rfl rfl (two_of HT_.out (by kernel_rfl)) (by decide) (by decide) (fun K hK => ?_) (fun K hK => ?_)
      ·skip
       refine goes_ Try.func40 (by kernel_rfl) rfl #[.slice A0_1 l0_1.length c0_1, .int .i64 (-1)] (by rfl) rfl rfl lm_ ?_
       with_reducible refine (spec_l04Copy.calls k _ _ l0_1 (-1) t235 _ ?side1 ?side2 A3.out).mono ?_
       (case side1 => exact cb_ HR0_1 HB)
       (case side2 => exact HC0_1.out)
       rintro e w149 ⟨v236, rfl, ho0, hb⟩
       refine ⟨_, rfl, ?_⟩
       have n0_ := am_ (Kd.N_lower (Kd.N_mono (ok' := fun k_ => (w.heap.size ≤ k_) ∧ k_ ≠ gb232 ∧ k_ ≠ gb233 ∧ k_ ≠ gb234) (Kd.S_N (Kd.S_bound ho0)) (fun k_ hk_ => ⟨(Nat.le_trans (below_size (bb_ HB.out)) hk_.2.1), (Kd.freshB (g := gb232) (o := .cells #[.int .i64 a0_0, .slice A0_1 l0_1.length c0_1] 28 (0, 0)) (bk_ BK232.out) k_ hk_.2.1), (Kd.freshB (g := gb233) (o := .cells #[.int .i64 a1_0, .int .i64 a1_1, .int .i64 a1_2, .slice A1_3 l1_3.length c1_3] 44 (0, 0)) (bk_ BK233.out) k_ hk_.2.1), (Kd.freshB (g := gb234) (o := .cells #[.int .i64 0, .slice none 0 0] 28 (0, 0)) (bk_ BK234.out) k_ hk_.2.1)⟩)) (below_size (bb_ HB.out)))
       have n1_ := am_ (bw_ BK232 hb)
       have n2_ := am_ (bw_ BK233 hb)
       have n3_ := am_ (bw_ BK234 hb)
       have n4_ := am_ (below_step (bb_ HB.out) hb)
       clear BK232 BK233 BK234 HB; revert n0_ n1_ n2_ n3_ n4_; intro HO237 BK232 BK233 BK234 HB
       (try clear hb)
       (try clear hb2)
       (try clear hk)
       (try clear hi)
       (try clear ho0)
       obtain ⟨Ao150, co150, eo150⟩ := Kd.N_slice HO237.out
       (first | subst eo150 | (injection eo150 with f1_ f2_ f3_; have f4_ := f1_.symm; have f5_ := f3_.symm; clear f1_ f2_ f3_; subst f4_; subst f5_))
       refine hK.out _ _ ⟨bc_ BK232 0, bc_ BK232 1⟩ (fun hHeld => ?_)
       clear hK K
       refine nm_ 12 ?_
       refine pz_ 5 13 (bA_ 8 63) HT_ ?_
       refine oz_ 6 5 (bA_ 8 127) HT_ (fun K hK => ?_)
       refine box_step ?hg (N := 5) ?hd (cs := #[.int .i64 0, .slice none 0 0]) (t := 28) ?hr ?_; (case hd => rfl); (case hg => rfl); (case hr => first | (go_simp; done) | (go_simp; rfl))
       intro gb238 hg w151 hbox hb
       have n0_ := am_ (Kd.N_below (Kd.N_elderB (Nx_ HO237.out) gb238 (Nat.le_of_eq hg.symm)) hb)
       have n1_ := am_ (bw_ BK232 hb)
       have n2_ := am_ (bw_ BK233 hb)
       have n3_ := am_ (bw_ BK234 hb)
       have n4_ := am_ (below_step (bb_ HB.out) hb)
       have n5_ := am_ (hbox)
       have n6_ := gs_ HB hg
       have n7_ := gs_ HB hg
       have n8_ := am_ (nl_ BK232 hg)
       have n9_ := am_ (ng_ BK232 hg)
       have n10_ := am_ (nl_ BK233 hg)
       have n11_ := am_ (ng_ BK233 hg)
       have n12_ := am_ (nl_ BK234 hg)
       have n13_ := am_ (ng_ BK234 hg)
       clear HO237 BK232 BK233 BK234 HB; revert n0_ n1_ n2_ n3_ n4_ n5_ n6_ n7_ n8_ n9_ n10_ n11_ n12_ n13_; intro HO237 BK232 BK233 BK234 HB BK238 GW238 GE238 NB232_238 NB238_232 NB233_238 NB238_233 NB234_238 NB238_234
       clear hb hbox hg
       refine hK.out _ _ ⟨bc_ BK232 0, bc_ BK232 1⟩ (fun hHeld => ?_)
       clear hK K
       refine nm_ 5 ?_
       exact norm_ (by simp only [putAll, Act.put, List.setIfInBounds_toArray, List.set_cons_zero, List.set_cons_succ]) (hCont (.slice Ao150 t235.length co150, gb238) _ ⟨hHeld, (Nx_ (Kd.N_mono HO237.out (fun _ hk => ⟨hk.1.1, ⟨hk.1.2.1, ⟨hk.1.2.2.1, ⟨hk.1.2.2.2, hk.2⟩⟩⟩⟩))), (bk_ BK232.out), (bk_ BK233.out), (bk_ BK234.out), (bk_ BK238.out), GW238.out, GE238.out, NB232_238.out, NB238_232.out, NB233_238.out, NB238_233.out, NB234_238.out, NB238_234.out, (bb_ HB.out)⟩)
      ·skip
       refine box_step ?hg (N := 5) ?hd (cs := #[.int .i64 0, .slice none 0 0]) (t := 28) ?hr ?_; (case hd => rfl); (case hg => rfl); (case hr => first | (go_simp; done) | (go_simp; rfl))
       intro gb238 hg w149 hbox hb
       have n0_ := am_ (bw_ BK232 hb)
       have n1_ := am_ (bw_ BK233 hb)
       have n2_ := am_ (bw_ BK234 hb)
       have n3_ := am_ (below_step (bb_ HB.out) hb)
       have n4_ := am_ (hbox)
       have n5_ := gs_ HB hg
       have n6_ := gs_ HB hg
       have n7_ := am_ (nl_ BK232 hg)
       have n8_ := am_ (ng_ BK232 hg)
       have n9_ := am_ (nl_ BK233 hg)
       have n10_ := am_ (ng_ BK233 hg)
       have n11_ := am_ (nl_ BK234 hg)
       have n12_ := am_ (ng_ BK234 hg)
       clear BK232 BK233 BK234 HB; revert n0_ n1_ n2_ n3_ n4_ n5_ n6_ n7_ n8_ n9_ n10_ n11_ n12_; intro BK232 BK233 BK234 HB BK238 GW238 GE238 NB232_238 NB238_232 NB233_238 NB238_233 NB234_238 NB238_234
       clear hb hbox hg
       refine hK.out _ _ ⟨bc_ BK232 0, bc_ BK232 1⟩ (fun hHeld => ?_)
       clear hK K
       refine nm_ 5 ?_
       refine oz_ 4 12 (bA_ 8 95) HT_ (fun K hK => ?_)
       refine goes_ Try.func40 (by kernel_rfl) rfl #[.slice A0_1 l0_1.length c0_1, .int .i64 (-1)] (by rfl) rfl rfl lm_ ?_
       with_reducible refine (spec_l04Copy.calls k _ _ l0_1 (-1) t235 _ ?side1 ?side2 A3.out).mono ?_
       (case side1 => exact cb_ HR0_1 HB)
       (case side2 => exact HC0_1.out)
       rintro e w150 ⟨v236, rfl, ho0, hb⟩
       refine ⟨_, rfl, ?_⟩
       have n0_ := am_ (Kd.N_lower (Kd.N_mono (ok' := fun k_ => (w.heap.size ≤ k_) ∧ k_ ≠ gb232 ∧ k_ ≠ gb233 ∧ k_ ≠ gb234 ∧ k_ ≠ gb238) (Kd.S_N (Kd.S_bound ho0)) (fun k_ hk_ => ⟨(Nat.le_trans (below_size (bb_ HB.out)) hk_.2.1), (Kd.freshB (g := gb232) (o := .cells #[.int .i64 a0_0, .slice A0_1 l0_1.length c0_1] 28 (0, 0)) (bk_ BK232.out) k_ hk_.2.1), (Kd.freshB (g := gb233) (o := .cells #[.int .i64 a1_0, .int .i64 a1_1, .int .i64 a1_2, .slice A1_3 l1_3.length c1_3] 44 (0, 0)) (bk_ BK233.out) k_ hk_.2.1), (Kd.freshB (g := gb234) (o := .cells #[.int .i64 0, .slice none 0 0] 28 (0, 0)) (bk_ BK234.out) k_ hk_.2.1), (Kd.freshB (g := gb238) (o := .cells #[.int .i64 0, .slice none 0 0] 28 (0, 0)) (bk_ BK238.out) k_ hk_.2.1)⟩)) (below_size (bb_ HB.out)))
       have n1_ := am_ (bw_ BK232 hb)
       have n2_ := am_ (bw_ BK233 hb)
       have n3_ := am_ (bw_ BK234 hb)
       have n4_ := am_ (bw_ BK238 hb)
       have n5_ := am_ (below_step (bb_ HB.out) hb)
       clear BK232 BK233 BK234 BK238 HB; revert n0_ n1_ n2_ n3_ n4_ n5_; intro HO237 BK232 BK233 BK234 BK238 HB
       (try clear hb)
       (try clear hb2)
       (try clear hk)
       (try clear hi)
       (try clear ho0)
       obtain ⟨Ao151, co151, eo151⟩ := Kd.N_slice HO237.out
       (first | subst eo151 | (injection eo151 with f1_ f2_ f3_; have f4_ := f1_.symm; have f5_ := f3_.symm; clear f1_ f2_ f3_; subst f4_; subst f5_))
       refine hK.out _ _ ⟨bc_ BK232 0, bc_ BK232 1⟩ (fun hHeld => ?_)
       clear hK K
       refine nm_ 12 ?_
       refine pz_ 5 13 (bA_ 8 127) HT_ ?_
       exact norm_ (by simp only [putAll, Act.put, List.setIfInBounds_toArray, List.set_cons_zero, List.set_cons_succ]) (hCont (.slice Ao151 t235.length co151, gb238) _ ⟨hHeld, (Nx_ HO237.out), (bk_ BK232.out), (bk_ BK233.out), (bk_ BK234.out), (bk_ BK238.out), GW238.out, GE238.out, NB232_238.out, NB238_232.out, NB233_238.out, NB238_233.out, NB234_238.out, NB238_234.out, (bb_ HB.out)⟩)
     rintro ⟨v236, gb238⟩ w152 ⟨hS_, h0_, h1_, h2_, h3_, h4_, h5_, h6_, h7_, h8_, h9_, h10_, h11_, h12_, h13_⟩
     have n0_ : Aside0 (Kd.N (Kd.slice 2 (Kd.int .i64)) 39 w152 w.heap.size (fun k_ => (w.heap.size ≤ k_) ∧ k_ ≠ gb232 ∧ k_ ≠ gb233 ∧ k_ ≠ gb234 ∧ k_ ≠ gb238) v236 t235) := ⟨h0_⟩
     have n1_ : Aside0 (w152.heap[gb232]? = some (.cells #[.int .i64 a0_0, .slice A0_1 l0_1.length c0_1] 28 (0, 0))) := ⟨h1_⟩
     have n2_ : Aside0 (w152.heap[gb233]? = some (.cells #[.int .i64 a1_0, .int .i64 a1_1, .int .i64 a1_2, .slice A1_3 l1_3.length c1_3] 44 (0, 0))) := ⟨h2_⟩
     have n3_ : Aside0 (w152.heap[gb234]? = some (.cells #[.int .i64 0, .slice none 0 0] 28 (0, 0))) := ⟨h3_⟩
     have n4_ : Aside0 (w152.heap[gb238]? = some (.cells #[.int .i64 0, .slice none 0 0] 28 (0, 0))) := ⟨h4_⟩
     have n5_ : Aside0 (w.heap.size ≤ gb238) := ⟨h5_⟩
     have n6_ : Aside0 (w.heap.size ≤ gb238) := ⟨h6_⟩
     have n7_ : Aside0 (gb232 ≠ gb238) := ⟨h7_⟩
     have n8_ : Aside0 (gb238 ≠ gb232) := ⟨h8_⟩
     have n9_ : Aside0 (gb233 ≠ gb238) := ⟨h9_⟩
     have n10_ : Aside0 (gb238 ≠ gb233) := ⟨h10_⟩
     have n11_ : Aside0 (gb234 ≠ gb238) := ⟨h11_⟩
     have n12_ : Aside0 (gb238 ≠ gb234) := ⟨h12_⟩
     have n13_ : Aside0 (Below w.heap.size w w152) := ⟨h13_⟩
     clear BK232
     clear BK233
     clear BK234
     clear HB
     clear h0_ h1_ h2_ h3_ h4_ h5_ h6_ h7_ h8_ h9_ h10_ h11_ h12_ h13_
     have HO237 := n0_
     have BK232 := n1_
     have BK233 := n2_
     have BK234 := n3_
     have BK238 := n4_
     have GW238 := n5_
     have GE238 := n6_
     have NB232_238 := n7_
     have NB238_232 := n8_
     have NB233_238 := n9_
     have NB238_233 := n10_
     have NB234_238 := n11_
     have NB238_234 := n12_
     have HB := n13_
     clear n0_ n1_ n2_ n3_ n4_ n5_ n6_ n7_ n8_ n9_ n10_ n11_ n12_ n13_
     have hHeld : w152.cell? ⟨gb232, 0, none⟩ = some (.int .i64 a0_0) ∧ w152.cell? ⟨gb232, 1, none⟩ = some (.slice A0_1 l0_1.length c0_1) := hS_
     obtain ⟨Ao153, co153, eo153⟩ := Kd.N_slice HO237.out
     (first | subst eo153 | (injection eo153 with f1_ f2_ f3_; have f4_ := f1_.symm; have f5_ := f3_.symm; clear f1_ f2_ f3_; subst f4_; subst f5_))
     refine norm_ (a' := ?_) ?_ ?_
     rotate_left
     ·simp only [putAll, Act.put, List.setIfInBounds_toArray, List.set_cons_zero, List.set_cons_succ]
      rfl
     refine one_ (i := 7) (N := none) (bA_ 8 255) rfl rfl (one_of HT_.out (by kernel_rfl)) (by decide) (fun K hK => ?_)
     have hs154 : w152.cell? ⟨gb238, 0, none⟩ = some (.int .i64 0) := bc_ BK238 0
     have hfs154 := blk_frozen BK238.out 0
     have hns154_0 := NB232_238.out
     have hns154_1 := NB233_238.out
     have hns154_2 := NB234_238.out
     have hms154_0 := NB238_232.out
     have hms154_1 := NB238_233.out
     have hms154_2 := NB238_234.out
     have hs155 : w152.cell? ⟨gb238, 1, none⟩ = some (.slice none 0 0) := bc_ BK238 1
     have hfs155 := blk_frozen BK238.out 1
     have hns155_0 := NB232_238.out
     have hns155_1 := NB233_238.out
     have hns155_2 := NB234_238.out
     have hms155_0 := NB238_232.out
     have hms155_1 := NB238_233.out
     have hms155_2 := NB238_234.out
     refine skip_ (w1 := ?_) (by rfl) rfl ?_ ?_
     rotate_left
     ·go_simp
      rfl
     refine hK.out _ _ ⟨((cell_far (p := ⟨gb238, _, none⟩) NB232_238.out _).trans (((cell_far (p := ⟨gb238, _, none⟩) NB232_238.out _).trans (hHeld.1)))), ((cell_far (p := ⟨gb238, _, none⟩) NB232_238.out _).trans (((cell_far (p := ⟨gb238, _, none⟩) NB232_238.out _).trans (hHeld.2))))⟩ (fun hHeld => ?_)
     clear hK K
     refine done_ (done_of HT_.out (by kernel_rfl)) ?_
     have hnb156 := NB233_232.out
     have hnc156 := NB232_233.out
     have hnb157 := NB233_234.out
     have hnc157 := NB234_233.out
     have hnb158 := NB233_238.out
     have hnc158 := NB238_233.out
     obtain ⟨hcz159_0, hcz159_1, hcz159_2, hcz159_3, hfz159_0, hfz159_1, hfz159_2, hfz159_3⟩ := bx4_ BK233
     try go_wp2
     have n0_ : Aside0 (Kd.N (Kd.slice 2 (Kd.int .i64)) 39 ((w152.setCell ⟨gb238, 0, none⟩ (.int .i64 a0_0)).setCell ⟨gb238, 1, none⟩ (.slice Ao153 t235.length co153)) w.heap.size (fun k_ => (w.heap.size ≤ k_) ∧ k_ ≠ gb232 ∧ k_ ≠ gb233 ∧ k_ ≠ gb234 ∧ k_ ≠ gb238) (.slice Ao153 t235.length co153) t235) := ⟨Nx_ (Kd.N_mono (Kd.N_far (p := ⟨gb238, 1, none⟩) (Kd.N_far (p := ⟨gb238, 0, none⟩) (Kd.N_mono HO237.out (fun k_ hk => (⟨hk, hk.2.2.2.2⟩ : _ ∧ k_ ≠ gb238))) (fun _ hk => hk.2) (.int .i64 a0_0)) (fun _ hk => hk.2) (.slice Ao153 t235.length co153)) (fun _ hk => ⟨hk.1.1, ⟨hk.1.2.1, ⟨hk.1.2.2.1, ⟨hk.1.2.2.2.1, hk.1.2.2.2.2⟩⟩⟩⟩))⟩
     have n1_ : Aside0 (((w152.setCell ⟨gb238, 0, none⟩ (.int .i64 a0_0)).setCell ⟨gb238, 1, none⟩ (.slice Ao153 t235.length co153)).heap[gb232]? = some (.cells #[.int .i64 a0_0, .slice A0_1 l0_1.length c0_1] 28 (0, 0))) := ⟨bk_ BK232.out⟩
     have n2_ : Aside0 (((w152.setCell ⟨gb238, 0, none⟩ (.int .i64 a0_0)).setCell ⟨gb238, 1, none⟩ (.slice Ao153 t235.length co153)).heap[gb233]? = some (.cells #[.int .i64 a1_0, .int .i64 a1_1, .int .i64 a1_2, .slice A1_3 l1_3.length c1_3] 44 (0, 0))) := ⟨bk_ BK233.out⟩
     have n3_ : Aside0 (((w152.setCell ⟨gb238, 0, none⟩ (.int .i64 a0_0)).setCell ⟨gb238, 1, none⟩ (.slice Ao153 t235.length co153)).heap[gb234]? = some (.cells #[.int .i64 0, .slice none 0 0] 28 (0, 0))) := ⟨bk_ BK234.out⟩
     have n4_ : Aside0 (((w152.setCell ⟨gb238, 0, none⟩ (.int .i64 a0_0)).setCell ⟨gb238, 1, none⟩ (.slice Ao153 t235.length co153)).heap[gb238]? = some (.cells #[.int .i64 a0_0, .slice Ao153 t235.length co153] 28 (0, 0))) := ⟨pu2_ BK238⟩
     have n5_ : Aside0 (Below w.heap.size w ((w152.setCell ⟨gb238, 0, none⟩ (.int .i64 a0_0)).setCell ⟨gb238, 1, none⟩ (.slice Ao153 t235.length co153))) := ⟨bb_ HB.out⟩
     (try clear HO237)
     (try clear BK232)
     (try clear BK233)
     (try clear BK234)
     (try clear BK238)
     (try clear HB)
     generalize ((w152.setCell ⟨gb238, 0, none⟩ (.int .i64 a0_0)).setCell ⟨gb238, 1, none⟩ (.slice Ao153 t235.length co153)) = w160 at n0_ n1_ n2_ n3_ n4_ n5_ ⊢
     have HO237 := n0_
     have BK232 := n1_
     have BK233 := n2_
     have BK234 := n3_
     have BK238 := n4_
     have HB := n5_
     clear n0_ n1_ n2_ n3_ n4_ n5_
     have n0_ := am_ (Kd.N_drew HO237.out)
     have n1_ := am_ (blk_drew BK232.out)
     have n2_ := am_ (blk_drew BK233.out)
     have n3_ := am_ (blk_drew BK234.out)
     have n4_ := am_ (blk_drew BK238.out)
     have n5_ := am_ (below_drew1 HB.out)
     clear HO237 BK232 BK233 BK234 BK238 HB; revert n0_ n1_ n2_ n3_ n4_ n5_; intro HO237 BK232 BK233 BK234 BK238 HB
     refine start_ (n := 9) (S := fun w' => w'.cell? ⟨gb232, 0, none⟩ = some (.int .i64 a0_0) ∧ w'.cell? ⟨gb232, 1, none⟩ = some (.slice A0_1 l0_1.length c0_1) ∧ w'.cell? ⟨gb233, 0, none⟩ = some (.int .i64 a1_0) ∧ w'.cell? ⟨gb233, 1, none⟩ = some (.int .i64 a1_1) ∧ w'.cell? ⟨gb233, 2, none⟩ = some (.int .i64 a1_2) ∧ w'.cell? ⟨gb233, 3, none⟩ = some (.slice A1_3 l1_3.length c1_3)) (ds := []) (bA_ 9 0) (by kernel_rfl) rfl (by kernel_rfl) ⟨bc_ BK232 0, bc_ BK232 1, bc_ BK233 0, bc_ BK233 1, bc_ BK233 2, bc_ BK233 3⟩ (fun hHeld => ?_); refine with_tabW spec_l04Move.tab14 spec_l04Move.bits14 (fun HT_ HW_ => ?_)
     generalize w160.drew = w161 at HO237 BK232 BK233 BK234 BK238 HB hHeld ⊢
     refine pz_ 0 96 (bA_ 9 1) HT_ ?_
     refine pz_ 2 98 (bA_ 9 5) HT_ ?_
     refine pz_ 4 100 (bA_ 9 21) HT_ ?_
     refine tz_ 1 97 (bA_ 9 23) HT_ HW_ hHeld ?_
     refine tz_ 3 99 (bA_ 9 31) HT_ HW_ hHeld ?_
     refine tz_ 5 101 (bA_ 9 63) HT_ HW_ hHeld ?_
     refine oz_ 6 102 (bA_ 9 127) HT_ (fun K hK => ?_)
     refine goes_ Try.func40 (by kernel_rfl) rfl #[.slice A0_1 l0_1.length c0_1, .int .i64 a1_1] (by rfl) rfl rfl lm_ ?_
     with_reducible refine (spec_l04Copy.calls k _ _ l0_1 a1_1 t278 _ ?side1 ?side2 A144.out).mono ?_
     (case side1 => exact cb_ HR0_1 HB)
     (case side2 => exact HC0_1.out)
     rintro e w162 ⟨v279, rfl, ho0, hb⟩
     refine ⟨_, rfl, ?_⟩
     have n0_ := am_ (Kd.N_elder' (Nx_ HO237.out) (by first | exact Kd.N_base ho0 | exact Kd.S_base ho0 | exact Kd.R_base ho0) hb)
     have n1_ := am_ (Kd.N_lower (Kd.N_mono (ok' := fun k_ => (w.heap.size ≤ k_) ∧ some k_ ≠ (.slice Ao153 t235.length co153 : Value).ownBlock ∧ k_ ≠ gb232 ∧ k_ ≠ gb233 ∧ k_ ≠ gb234 ∧ k_ ≠ gb238) (Kd.S_N (Kd.S_bound ho0)) (fun k_ hk_ => ⟨(Nat.le_trans (below_size (bb_ HB.out)) hk_.2.1), (Kd.fresh' (Kd.N_lt (Nx_ HO237.out)) k_ hk_.2.1), (Kd.freshB (g := gb232) (o := .cells #[.int .i64 a0_0, .slice A0_1 l0_1.length c0_1] 28 (0, 0)) (bk_ BK232.out) k_ hk_.2.1), (Kd.freshB (g := gb233) (o := .cells #[.int .i64 a1_0, .int .i64 a1_1, .int .i64 a1_2, .slice A1_3 l1_3.length c1_3] 44 (0, 0)) (bk_ BK233.out) k_ hk_.2.1), (Kd.freshB (g := gb234) (o := .cells #[.int .i64 0, .slice none 0 0] 28 (0, 0)) (bk_ BK234.out) k_ hk_.2.1), (Kd.freshB (g := gb238) (o := .cells #[.int .i64 a0_0, .slice Ao153 t235.length co153] 28 (0, 0)) (bk_ BK238.out) k_ hk_.2.1)⟩)) (below_size (bb_ HB.out)))
     have n2_ := am_ (bw_ BK232 hb)
     have n3_ := am_ (bw_ BK233 hb)
     have n4_ := am_ (bw_ BK234 hb)
     have n5_ := am_ (bw_ BK238 hb)
     have n6_ := am_ (below_step (bb_ HB.out) hb)
     clear HO237 BK232 BK233 BK234 BK238 HB; revert n0_ n1_ n2_ n3_ n4_ n5_ n6_; intro HO237 HO280 BK232 BK233 BK234 BK238 HB
     (try clear hb)
     (try clear hb2)
     (try clear hk)
     (try clear hi)
     (try clear ho0)
     obtain ⟨Ao163, co163, eo163⟩ := Kd.N_slice HO280.out
     (first | subst eo163 | (injection eo163 with f1_ f2_ f3_; have f4_ := f1_.symm; have f5_ := f3_.symm; clear f1_ f2_ f3_; subst f4_; subst f5_))
     refine hK.out _ _ ⟨bc_ BK232 0, bc_ BK232 1, bc_ BK233 0, bc_ BK233 1, bc_ BK233 2, bc_ BK233 3⟩ (fun hHeld => ?_)
     clear hK K
     refine nm_ 102 ?_
     refine pz_ 7 103 (bA_ 9 255) HT_ ?_
     refine one_ (i := 8) (N := none) (bA_ 9 511) rfl rfl (one_of HT_.out (by kernel_rfl)) (by decide) (fun K hK => ?_)
     have hs164 : w162.cell? ⟨gb234, 0, none⟩ = some (.int .i64 0) := bc_ BK234 0
     have hfs164 := blk_frozen BK234.out 0
     have hns164_0 := NB232_234.out
     have hns164_1 := NB233_234.out
     have hns164_3 := NB238_234.out
     have hms164_0 := NB234_232.out
     have hms164_1 := NB234_233.out
     have hms164_3 := NB234_238.out
     have hs165 : w162.cell? ⟨gb234, 1, none⟩ = some (.slice none 0 0) := bc_ BK234 1
     have hfs165 := blk_frozen BK234.out 1
     have hns165_0 := NB232_234.out
     have hns165_1 := NB233_234.out
     have hns165_3 := NB238_234.out
     have hms165_0 := NB234_232.out
     have hms165_1 := NB234_233.out
     have hms165_3 := NB234_238.out
     refine skip_ (w1 := ?_) (by rfl) rfl ?_ ?_
     rotate_left
     ·go_simp
      rfl
     refine hK.out _ _ ⟨((cell_far (p := ⟨gb234, _, none⟩) NB232_234.out _).trans (((cell_far (p := ⟨gb234, _, none⟩) NB232_234.out _).trans (hHeld.1)))), ((cell_far (p := ⟨gb234, _, none⟩) NB232_234.out _).trans (((cell_far (p := ⟨gb234, _, none⟩) NB232_234.out _).trans (hHeld.2.1)))), ((cell_far (p := ⟨gb234, _, none⟩) NB233_234.out _).trans (((cell_far (p := ⟨gb234, _, none⟩) NB233_234.out _).trans (hHeld.2.2.1)))), ((cell_far (p := ⟨gb234, _, none⟩) NB233_234.out _).trans (((cell_far (p := ⟨gb234, _, none⟩) NB233_234.out _).trans (hHeld.2.2.2.1)))), ((cell_far (p := ⟨gb234, _, none⟩) NB233_234.out _).trans (((cell_far (p := ⟨gb234, _, none⟩) NB233_234.out _).trans (hHeld.2.2.2.2.1)))), ((cell_far (p := ⟨gb234, _, none⟩) NB233_234.out _).trans (((cell_far (p := ⟨gb234, _, none⟩) NB233_234.out _).trans (hHeld.2.2.2.2.2))))⟩ (fun hHeld => ?_)
     clear hK K
     refine done_ (done_of HT_.out (by kernel_rfl)) ?_
     try go_wp2
     refine bodyPost_ret (results_cell_row rfl _ _ gb234 28 #[.int .i64 a0_0, .slice Ao163 t278.length co163] (0, 0) _ rfl (pu2_ BK234) Try.underlying28 rfl (by kernel_rfl)) rfl ?_
     exact ⟨_, er_, Nx_ (Kd.N_mono (Kd.N_far (p := ⟨gb234, 1, none⟩) (Kd.N_far (p := ⟨gb234, 0, none⟩) (Kd.N_mono HO280.out (fun k_ hk => (⟨hk, hk.2.2.2.2.1⟩ : _ ∧ k_ ≠ gb234))) (fun _ hk => hk.2) (.int .i64 a0_0)) (fun _ hk => hk.2) (.slice Ao163 t278.length co163)) (fun _ hk => hk.1.1)), bb_ HB.out⟩
    ·rw [if_neg c143] at H
     have c143b0 : (a1_0 == 4) = false := beq_eq_false_iff_ne.mpr c143
     have c143b1 : (a1_0 != 4) = true := bne_iff_ne.mpr c143
     by_cases c166 : a1_0 = 5
     ·rw [if_pos c166] at H
      have c166b0 : (a1_0 == 5) = true := beq_iff_eq.mpr c166
      have c166b1 : (a1_0 != 5) = false := bne_eq_false_iff_eq.mpr c166
      clear c166
      replace H := Option.bind_eq_some_iff.mp H
      obtain ⟨⟨t281, t282⟩, A1670, H⟩ := H
      replace H : (some (t281, t282)) = some (r1, r2) := H
      have A167 := am_ A1670
      clear A1670
      simp only [Option.some.injEq, Prod.mk.injEq] at H
      obtain ⟨rfl, rfl⟩ := H
      go_enter Try.func63, Try.ntmps63
      try go_wp2_with (first | (refine be_ 2 28 #[.int .i64 a0_0, .slice A0_1 l0_1.length c0_1] ?_; intro gb232 hg w168 hbox hb; have n_ := ba0_ HB hbox hb hg; clear  HB hb hbox hg; obtain ⟨HB, BK232, GW232, GE232⟩ := n_) | (refine be_ 3 44 #[.int .i64 a1_0, .int .i64 a1_1, .int .i64 a1_2, .slice A1_3 l1_3.length c1_3] ?_; intro gb233 hg w169 hbox hb; have n_ := ba1_ BK232 HB hbox hb hg; clear BK232 HB hb hbox hg; obtain ⟨BK232, HB, BK233, GW233, GE233, NB232_233, NB233_232⟩ := n_) | (refine be_ 4 28 #[.int .i64 0, .slice none 0 0] ?_; intro gb234 hg w170 hbox hb; have n_ := ba2_ BK232 BK233 HB hbox hb hg; clear BK232 BK233 HB hb hbox hg; obtain ⟨BK232, BK233, HB, BK234, GW234, GE234, NB232_234, NB234_232, NB233_234, NB234_233⟩ := n_))
      have n0_ := am_ (blk_drew BK232.out)
      have n1_ := am_ (blk_drew BK233.out)
      have n2_ := am_ (blk_drew BK234.out)
      have n3_ := am_ (below_drew1 HB.out)
      clear BK232 BK233 BK234 HB; revert n0_ n1_ n2_ n3_; intro BK232 BK233 BK234 HB
      refine start_ (n := 8) (S := fun w' => w'.cell? ⟨gb232, 0, none⟩ = some (.int .i64 a0_0) ∧ w'.cell? ⟨gb232, 1, none⟩ = some (.slice A0_1 l0_1.length c0_1)) (ds := []) (bA_ 8 0) (by kernel_rfl) rfl (by kernel_rfl) ⟨bc_ BK232 0, bc_ BK232 1⟩ (fun hHeld => ?_); refine with_tabW spec_l04Move.tab1 spec_l04Move.bits1 (fun HT_ HW_ => ?_)
      generalize w170.drew = w171 at BK232 BK233 BK234 HB hHeld ⊢
      refine pz_ 0 8 (bA_ 8 1) HT_ ?_
      refine pz_ 2 10 (bA_ 8 5) HT_ ?_
      refine tz_ 1 9 (bA_ 8 7) HT_ HW_ hHeld ?_
      refine tz_ 3 11 (bA_ 8 15) HT_ HW_ hHeld ?_
      refine join_ (σ := Value × Nat) 1 (bA_ 8 127) (fun s_ => [(12, s_.1), (5, .pointer (some ⟨s_.2, 0, none⟩)), (13, .agg #[.int .i64 a0_0, s_.1])]) (fun s_ w' => (w'.cell? ⟨gb232, 0, none⟩ = some (.int .i64 a0_0) ∧ w'.cell? ⟨gb232, 1, none⟩ = some (.slice A0_1 l0_1.length c0_1)) ∧ (Kd.N (Kd.slice 2 (Kd.int .i64)) 39 w' w.heap.size (fun k_ => (w.heap.size ≤ k_) ∧ k_ ≠ gb232 ∧ k_ ≠ gb233 ∧ k_ ≠ gb234 ∧ k_ ≠ s_.2) s_.1 t235) ∧ (w'.heap[gb232]? = some (.cells #[.int .i64 a0_0, .slice A0_1 l0_1.length c0_1] 28 (0, 0))) ∧ (w'.heap[gb233]? = some (.cells #[.int .i64 a1_0, .int .i64 a1_1, .int .i64 a1_2, .slice A1_3 l1_3.length c1_3] 44 (0, 0))) ∧ (w'.heap[gb234]? = some (.cells #[.int .i64 0, .slice none 0 0] 28 (0, 0))) ∧ (w'.heap[s_.2]? = some (.cells #[.int .i64 0, .slice none 0 0] 28 (0, 0))) ∧ (w.heap.size ≤ s_.2) ∧ (w.heap.size ≤ s_.2) ∧ (gb232 ≠ s_.2) ∧ (s_.2 ≠ gb232) ∧ (gb233 ≠ s_.2) ∧ (s_.2 ≠ gb233) ∧ (gb234 ≠ s_.2) ∧ (s_.2 ≠ gb234) ∧ (Below w.heap.size w w')) ?_ ?_
      rotate_left
      ·intro hCont
       refine two_ (i := 4) (j := 6) (Ni := some 12) (Nj := some 5) (bA_ 8 31) (bA_ 8 79) rfl rfl rfl rfl (two_of HT_.out (by kernel_rfl)) (by decide) (by decide) (fun K hK => ?_) (fun K hK => ?_)
       ·skip
        refine goes_ Try.func40 (by kernel_rfl) rfl #[.slice A0_1 l0_1.length c0_1, .int .i64 (-1)] (by rfl) rfl rfl lm_ ?_
        with_reducible refine (spec_l04Copy.calls k _ _ l0_1 (-1) t235 _ ?side1 ?side2 A3.out).mono ?_
        (case side1 => exact cb_ HR0_1 HB)
        (case side2 => exact HC0_1.out)
        rintro e w172 ⟨v236, rfl, ho0, hb⟩
        refine ⟨_, rfl, ?_⟩
        have n0_ := am_ (Kd.N_lower (Kd.N_mono (ok' := fun k_ => (w.heap.size ≤ k_) ∧ k_ ≠ gb232 ∧ k_ ≠ gb233 ∧ k_ ≠ gb234) (Kd.S_N (Kd.S_bound ho0)) (fun k_ hk_ => ⟨(Nat.le_trans (below_size (bb_ HB.out)) hk_.2.1), (Kd.freshB (g := gb232) (o := .cells #[.int .i64 a0_0, .slice A0_1 l0_1.length c0_1] 28 (0, 0)) (bk_ BK232.out) k_ hk_.2.1), (Kd.freshB (g := gb233) (o := .cells #[.int .i64 a1_0, .int .i64 a1_1, .int .i64 a1_2, .slice A1_3 l1_3.length c1_3] 44 (0, 0)) (bk_ BK233.out) k_ hk_.2.1), (Kd.freshB (g := gb234) (o := .cells #[.int .i64 0, .slice none 0 0] 28 (0, 0)) (bk_ BK234.out) k_ hk_.2.1)⟩)) (below_size (bb_ HB.out)))
        have n1_ := am_ (bw_ BK232 hb)
        have n2_ := am_ (bw_ BK233 hb)
        have n3_ := am_ (bw_ BK234 hb)
        have n4_ := am_ (below_step (bb_ HB.out) hb)
        clear BK232 BK233 BK234 HB; revert n0_ n1_ n2_ n3_ n4_; intro HO237 BK232 BK233 BK234 HB
        (try clear hb)
        (try clear hb2)
        (try clear hk)
        (try clear hi)
        (try clear ho0)
        obtain ⟨Ao173, co173, eo173⟩ := Kd.N_slice HO237.out
        (first | subst eo173 | (injection eo173 with f1_ f2_ f3_; have f4_ := f1_.symm; have f5_ := f3_.symm; clear f1_ f2_ f3_; subst f4_; subst f5_))
        refine hK.out _ _ ⟨bc_ BK232 0, bc_ BK232 1⟩ (fun hHeld => ?_)
        clear hK K
        refine nm_ 12 ?_
        refine pz_ 5 13 (bA_ 8 63) HT_ ?_
        refine oz_ 6 5 (bA_ 8 127) HT_ (fun K hK => ?_)
        refine box_step ?hg (N := 5) ?hd (cs := #[.int .i64 0, .slice none 0 0]) (t := 28) ?hr ?_; (case hd => rfl); (case hg => rfl); (case hr => first | (go_simp; done) | (go_simp; rfl))
        intro gb238 hg w174 hbox hb
        have n0_ := am_ (Kd.N_below (Kd.N_elderB (Nx_ HO237.out) gb238 (Nat.le_of_eq hg.symm)) hb)
        have n1_ := am_ (bw_ BK232 hb)
        have n2_ := am_ (bw_ BK233 hb)
        have n3_ := am_ (bw_ BK234 hb)
        have n4_ := am_ (below_step (bb_ HB.out) hb)
        have n5_ := am_ (hbox)
        have n6_ := gs_ HB hg
        have n7_ := gs_ HB hg
        have n8_ := am_ (nl_ BK232 hg)
        have n9_ := am_ (ng_ BK232 hg)
        have n10_ := am_ (nl_ BK233 hg)
        have n11_ := am_ (ng_ BK233 hg)
        have n12_ := am_ (nl_ BK234 hg)
        have n13_ := am_ (ng_ BK234 hg)
        clear HO237 BK232 BK233 BK234 HB; revert n0_ n1_ n2_ n3_ n4_ n5_ n6_ n7_ n8_ n9_ n10_ n11_ n12_ n13_; intro HO237 BK232 BK233 BK234 HB BK238 GW238 GE238 NB232_238 NB238_232 NB233_238 NB238_233 NB234_238 NB238_234
        clear hb hbox hg
        refine hK.out _ _ ⟨bc_ BK232 0, bc_ BK232 1⟩ (fun hHeld => ?_)
        clear hK K
        refine nm_ 5 ?_
        exact norm_ (by simp only [putAll, Act.put, List.setIfInBounds_toArray, List.set_cons_zero, List.set_cons_succ]) (hCont (.slice Ao173 t235.length co173, gb238) _ ⟨hHeld, (Nx_ (Kd.N_mono HO237.out (fun _ hk => ⟨hk.1.1, ⟨hk.1.2.1, ⟨hk.1.2.2.1, ⟨hk.1.2.2.2, hk.2⟩⟩⟩⟩))), (bk_ BK232.out), (bk_ BK233.out), (bk_ BK234.out), (bk_ BK238.out), GW238.out, GE238.out, NB232_238.out, NB238_232.out, NB233_238.out, NB238_233.out, NB234_238.out, NB238_234.out, (bb_ HB.out)⟩)
       ·skip
        refine box_step ?hg (N := 5) ?hd (cs := #[.int .i64 0, .slice none 0 0]) (t := 28) ?hr ?_; (case hd => rfl); (case hg => rfl); (case hr => first | (go_simp; done) | (go_simp; rfl))
        intro gb238 hg w172 hbox hb
        have n0_ := am_ (bw_ BK232 hb)
        have n1_ := am_ (bw_ BK233 hb)
        have n2_ := am_ (bw_ BK234 hb)
        have n3_ := am_ (below_step (bb_ HB.out) hb)
        have n4_ := am_ (hbox)
        have n5_ := gs_ HB hg
        have n6_ := gs_ HB hg
        have n7_ := am_ (nl_ BK232 hg)
        have n8_ := am_ (ng_ BK232 hg)
        have n9_ := am_ (nl_ BK233 hg)
        have n10_ := am_ (ng_ BK233 hg)
        have n11_ := am_ (nl_ BK234 hg)
        have n12_ := am_ (ng_ BK234 hg)
        clear BK232 BK233 BK234 HB; revert n0_ n1_ n2_ n3_ n4_ n5_ n6_ n7_ n8_ n9_ n10_ n11_ n12_; intro BK232 BK233 BK234 HB BK238 GW238 GE238 NB232_238 NB238_232 NB233_238 NB238_233 NB234_238 NB238_234
        clear hb hbox hg
        refine hK.out _ _ ⟨bc_ BK232 0, bc_ BK232 1⟩ (fun hHeld => ?_)
        clear hK K
        refine nm_ 5 ?_
        refine oz_ 4 12 (bA_ 8 95) HT_ (fun K hK => ?_)
        refine goes_ Try.func40 (by kernel_rfl) rfl #[.slice A0_1 l0_1.length c0_1, .int .i64 (-1)] (by rfl) rfl rfl lm_ ?_
        with_reducible refine (spec_l04Copy.calls k _ _ l0_1 (-1) t235 _ ?side1 ?side2 A3.out).mono ?_
        (case side1 => exact cb_ HR0_1 HB)
        (case side2 => exact HC0_1.out)
        rintro e w173 ⟨v236, rfl, ho0, hb⟩
        refine ⟨_, rfl, ?_⟩
        have n0_ := am_ (Kd.N_lower (Kd.N_mono (ok' := fun k_ => (w.heap.size ≤ k_) ∧ k_ ≠ gb232 ∧ k_ ≠ gb233 ∧ k_ ≠ gb234 ∧ k_ ≠ gb238) (Kd.S_N (Kd.S_bound ho0)) (fun k_ hk_ => ⟨(Nat.le_trans (below_size (bb_ HB.out)) hk_.2.1), (Kd.freshB (g := gb232) (o := .cells #[.int .i64 a0_0, .slice A0_1 l0_1.length c0_1] 28 (0, 0)) (bk_ BK232.out) k_ hk_.2.1), (Kd.freshB (g := gb233) (o := .cells #[.int .i64 a1_0, .int .i64 a1_1, .int .i64 a1_2, .slice A1_3 l1_3.length c1_3] 44 (0, 0)) (bk_ BK233.out) k_ hk_.2.1), (Kd.freshB (g := gb234) (o := .cells #[.int .i64 0, .slice none 0 0] 28 (0, 0)) (bk_ BK234.out) k_ hk_.2.1), (Kd.freshB (g := gb238) (o := .cells #[.int .i64 0, .slice none 0 0] 28 (0, 0)) (bk_ BK238.out) k_ hk_.2.1)⟩)) (below_size (bb_ HB.out)))
        have n1_ := am_ (bw_ BK232 hb)
        have n2_ := am_ (bw_ BK233 hb)
        have n3_ := am_ (bw_ BK234 hb)
        have n4_ := am_ (bw_ BK238 hb)
        have n5_ := am_ (below_step (bb_ HB.out) hb)
        clear BK232 BK233 BK234 BK238 HB; revert n0_ n1_ n2_ n3_ n4_ n5_; intro HO237 BK232 BK233 BK234 BK238 HB
        (try clear hb)
        (try clear hb2)
        (try clear hk)
        (try clear hi)
        (try clear ho0)
        obtain ⟨Ao174, co174, eo174⟩ := Kd.N_slice HO237.out
        (first | subst eo174 | (injection eo174 with f1_ f2_ f3_; have f4_ := f1_.symm; have f5_ := f3_.symm; clear f1_ f2_ f3_; subst f4_; subst f5_))
        refine hK.out _ _ ⟨bc_ BK232 0, bc_ BK232 1⟩ (fun hHeld => ?_)
        clear hK K
        refine nm_ 12 ?_
        refine pz_ 5 13 (bA_ 8 127) HT_ ?_
        exact norm_ (by simp only [putAll, Act.put, List.setIfInBounds_toArray, List.set_cons_zero, List.set_cons_succ]) (hCont (.slice Ao174 t235.length co174, gb238) _ ⟨hHeld, (Nx_ HO237.out), (bk_ BK232.out), (bk_ BK233.out), (bk_ BK234.out), (bk_ BK238.out), GW238.out, GE238.out, NB232_238.out, NB238_232.out, NB233_238.out, NB238_233.out, NB234_238.out, NB238_234.out, (bb_ HB.out)⟩)
      rintro ⟨v236, gb238⟩ w175 ⟨hS_, h0_, h1_, h2_, h3_, h4_, h5_, h6_, h7_, h8_, h9_, h10_, h11_, h12_, h13_⟩
      have n0_ : Aside0 (Kd.N (Kd.slice 2 (Kd.int .i64)) 39 w175 w.heap.size (fun k_ => (w.heap.size ≤ k_) ∧ k_ ≠ gb232 ∧ k_ ≠ gb233 ∧ k_ ≠ gb234 ∧ k_ ≠ gb238) v236 t235) := ⟨h0_⟩
      have n1_ : Aside0 (w175.heap[gb232]? = some (.cells #[.int .i64 a0_0, .slice A0_1 l0_1.length c0_1] 28 (0, 0))) := ⟨h1_⟩
      have n2_ : Aside0 (w175.heap[gb233]? = some (.cells #[.int .i64 a1_0, .int .i64 a1_1, .int .i64 a1_2, .slice A1_3 l1_3.length c1_3] 44 (0, 0))) := ⟨h2_⟩
      have n3_ : Aside0 (w175.heap[gb234]? = some (.cells #[.int .i64 0, .slice none 0 0] 28 (0, 0))) := ⟨h3_⟩
      have n4_ : Aside0 (w175.heap[gb238]? = some (.cells #[.int .i64 0, .slice none 0 0] 28 (0, 0))) := ⟨h4_⟩
      have n5_ : Aside0 (w.heap.size ≤ gb238) := ⟨h5_⟩
      have n6_ : Aside0 (w.heap.size ≤ gb238) := ⟨h6_⟩
      have n7_ : Aside0 (gb232 ≠ gb238) := ⟨h7_⟩
      have n8_ : Aside0 (gb238 ≠ gb232) := ⟨h8_⟩
      have n9_ : Aside0 (gb233 ≠ gb238) := ⟨h9_⟩
      have n10_ : Aside0 (gb238 ≠ gb233) := ⟨h10_⟩
      have n11_ : Aside0 (gb234 ≠ gb238) := ⟨h11_⟩
      have n12_ : Aside0 (gb238 ≠ gb234) := ⟨h12_⟩
      have n13_ : Aside0 (Below w.heap.size w w175) := ⟨h13_⟩
      clear BK232
      clear BK233
      clear BK234
      clear HB
      clear h0_ h1_ h2_ h3_ h4_ h5_ h6_ h7_ h8_ h9_ h10_ h11_ h12_ h13_
      have HO237 := n0_
      have BK232 := n1_
      have BK233 := n2_
      have BK234 := n3_
      have BK238 := n4_
      have GW238 := n5_
      have GE238 := n6_
      have NB232_238 := n7_
      have NB238_232 := n8_
      have NB233_238 := n9_
      have NB238_233 := n10_
      have NB234_238 := n11_
      have NB238_234 := n12_
      have HB := n13_
      clear n0_ n1_ n2_ n3_ n4_ n5_ n6_ n7_ n8_ n9_ n10_ n11_ n12_ n13_
      have hHeld : w175.cell? ⟨gb232, 0, none⟩ = some (.int .i64 a0_0) ∧ w175.cell? ⟨gb232, 1, none⟩ = some (.slice A0_1 l0_1.length c0_1) := hS_
      obtain ⟨Ao176, co176, eo176⟩ := Kd.N_slice HO237.out
      (first | subst eo176 | (injection eo176 with f1_ f2_ f3_; have f4_ := f1_.symm; have f5_ := f3_.symm; clear f1_ f2_ f3_; subst f4_; subst f5_))
      refine norm_ (a' := ?_) ?_ ?_
      rotate_left
      ·simp only [putAll, Act.put, List.setIfInBounds_toArray, List.set_cons_zero, List.set_cons_succ]
       rfl
      refine one_ (i := 7) (N := none) (bA_ 8 255) rfl rfl (one_of HT_.out (by kernel_rfl)) (by decide) (fun K hK => ?_)
      have hs177 : w175.cell? ⟨gb238, 0, none⟩ = some (.int .i64 0) := bc_ BK238 0
      have hfs177 := blk_frozen BK238.out 0
      have hns177_0 := NB232_238.out
      have hns177_1 := NB233_238.out
      have hns177_2 := NB234_238.out
      have hms177_0 := NB238_232.out
      have hms177_1 := NB238_233.out
      have hms177_2 := NB238_234.out
      have hs178 : w175.cell? ⟨gb238, 1, none⟩ = some (.slice none 0 0) := bc_ BK238 1
      have hfs178 := blk_frozen BK238.out 1
      have hns178_0 := NB232_238.out
      have hns178_1 := NB233_238.out
      have hns178_2 := NB234_238.out
      have hms178_0 := NB238_232.out
      have hms178_1 := NB238_233.out
      have hms178_2 := NB238_234.out
      refine skip_ (w1 := ?_) (by rfl) rfl ?_ ?_
      rotate_left
      ·go_simp
       rfl
      refine hK.out _ _ ⟨((cell_far (p := ⟨gb238, _, none⟩) NB232_238.out _).trans (((cell_far (p := ⟨gb238, _, none⟩) NB232_238.out _).trans (hHeld.1)))), ((cell_far (p := ⟨gb238, _, none⟩) NB232_238.out _).trans (((cell_far (p := ⟨gb238, _, none⟩) NB232_238.out _).trans (hHeld.2))))⟩ (fun hHeld => ?_)
      clear hK K
      refine done_ (done_of HT_.out (by kernel_rfl)) ?_
      have hnb179 := NB233_232.out
      have hnc179 := NB232_233.out
      have hnb180 := NB233_234.out
      have hnc180 := NB234_233.out
      have hnb181 := NB233_238.out
      have hnc181 := NB238_233.out
      obtain ⟨hcz182_0, hcz182_1, hcz182_2, hcz182_3, hfz182_0, hfz182_1, hfz182_2, hfz182_3⟩ := bx4_ BK233
      have hnb183 := NB232_234.out
      have hnc183 := NB234_232.out
      have hnb184 := NB232_238.out
      have hnc184 := NB238_232.out
      obtain ⟨hcz185_0, hcz185_1, hfz185_0, hfz185_1⟩ := bx2_ BK232
      try go_wp2_with (first | ((with_reducible refine gate_callee (f := 97) rfl ?_); refine goesL_ (some 111) rfl rfl Try.func97 (by kernel_rfl) rfl #[.agg #[.int .i64 a0_0, .slice A0_1 l0_1.length c0_1], .int .i64 a1_1, .int .i64 a1_2] rfl lm_ ?_; (with_reducible refine (spec_l04Remove.calls k a0_0 _ _ l0_1 a1_1 a1_2 t281 t282 _ ?side1 ?side2 A167.out).mono ?_); (case side1 => exact Kd.C_below HR0_1.out (bb_ HB.out)); (case side2 => exact HC0_1.out); rintro e w186 ⟨v283, rfl, ho0, hb⟩; refine ⟨_, rfl, ?_⟩; have n0_ := am_ (Kd.N_elder' (Nx_ (Kd.N_mono (Kd.N_far (p := ⟨gb238, 1, none⟩) (Kd.N_far (p := ⟨gb238, 0, none⟩) (Kd.N_mono HO237.out (fun k_ hk => (⟨hk, hk.2.2.2.2⟩ : _ ∧ k_ ≠ gb238))) (fun _ hk => hk.2) (.int .i64 a0_0)) (fun _ hk => hk.2) (.slice Ao176 t235.length co176)) (fun _ h_ => h_.1))) (by first | exact Kd.N_base ho0 | exact Kd.S_base ho0 | exact Kd.R_base ho0) hb); have n1_ := am_ (Kd.N_lower (Kd.N_mono (ok' := fun k_ => (w.heap.size ≤ k_) ∧ some k_ ≠ (.slice Ao176 t235.length co176 : Value).ownBlock ∧ k_ ≠ gb232 ∧ k_ ≠ gb233 ∧ k_ ≠ gb234 ∧ k_ ≠ gb238) (Kd.S_N (Kd.S_bound ho0)) (fun k_ hk_ => ⟨(Nat.le_trans (below_size (bb_ HB.out)) hk_.2.1), (Kd.fresh' (Kd.N_lt (Nx_ (Kd.N_mono (Kd.N_far (p := ⟨gb238, 1, none⟩) (Kd.N_far (p := ⟨gb238, 0, none⟩) (Kd.N_mono HO237.out (fun k_ hk => (⟨hk, hk.2.2.2.2⟩ : _ ∧ k_ ≠ gb238))) (fun _ hk => hk.2) (.int .i64 a0_0)) (fun _ hk => hk.2) (.slice Ao176 t235.length co176)) (fun _ h_ => h_.1)))) k_ hk_.2.1), (Kd.freshB (g := gb232) (o := .cells #[.int .i64 a0_0, .slice A0_1 l0_1.length c0_1] 28 (0, 0)) (bk_ BK232.out) k_ hk_.2.1), (Kd.freshB (g := gb233) (o := .cells #[.int .i64 a1_0, .int .i64 a1_1, .int .i64 a1_2, .slice A1_3 l1_3.length c1_3] 44 (0, 0)) (bk_ BK233.out) k_ hk_.2.1), (Kd.freshB (g := gb234) (o := .cells #[.int .i64 0, .slice none 0 0] 28 (0, 0)) (bk_ BK234.out) k_ hk_.2.1), (Kd.freshB (g := gb238) (o := .cells #[.int .i64 a0_0, .slice Ao176 t235.length co176] 28 (0, 0)) (pu2_ BK238) k_ hk_.2.1)⟩)) (below_size (bb_ HB.out))); have n2_ := am_ (bw_ BK232 hb); have n3_ := am_ (bw_ BK233 hb); have n4_ := am_ (bw_ BK234 hb); have n5_ := am_ (blk_below (g := gb238) (o := .cells #[.int .i64 a0_0, .slice Ao176 t235.length co176] 28 (0, 0)) (pu2_ BK238) hb); have n6_ := am_ (below_step (bb_ HB.out) hb); clear HO237 BK232 BK233 BK234 BK238 HB; revert n0_ n1_ n2_ n3_ n4_ n5_ n6_; intro HO237 HO284 BK232 BK233 BK234 BK238 HB; (try clear hb); (try clear hb2); (try clear hk); (try clear hi); (try clear ho0); have hnb187 := NB234_238.out; have hnc187 := NB238_234.out; obtain ⟨hcz188_0, hcz188_1, hfz188_0, hfz188_1⟩ := bx2_ BK234; obtain ⟨Ao189, co189, eo189⟩ := Kd.N_slice HO284.out; subst eo189))
      refine bodyPost_ret (results_cell_row rfl _ _ gb234 28 #[.int .i64 t281, .slice Ao189 t282.length co189] (0, 0) _ rfl (pu2_ BK234) Try.underlying28 rfl (by kernel_rfl)) rfl ?_
      exact ⟨_, er_, Nx_ (Kd.N_mono (Kd.N_far (p := ⟨gb234, 1, none⟩) (Kd.N_far (p := ⟨gb234, 0, none⟩) (Kd.N_mono HO284.out (fun k_ hk => (⟨hk, hk.2.2.2.2.1⟩ : _ ∧ k_ ≠ gb234))) (fun _ hk => hk.2) (.int .i64 t281)) (fun _ hk => hk.2) (.slice Ao189 t282.length co189)) (fun _ hk => hk.1.1)), bb_ HB.out⟩
     ·rw [if_neg c166] at H
      have c166b0 : (a1_0 == 5) = false := beq_eq_false_iff_ne.mpr c166
      have c166b1 : (a1_0 != 5) = true := bne_iff_ne.mpr c166
      obtain ⟨y285, hy285⟩ : ∃ y_ : List Int, y_ = (([wrap64 (-(wrap64 (a0_0 + 1)))] : List Int)) := ⟨_, rfl⟩
      replace H : (if y285.length + l1_3.length < 17592186044416 then ((some (([(y285 ++ l1_3)] : List (List Int)) : List (List Int))).bind fun y291 => (if t235.length + y291.length < 5864062014805 then (some (wrap64 (a0_0 + 1), (t235 ++ y291))) else (none))) else (none)) = some (r1, r2) := hq_ hy285 H
      have Ny285 := am_ hy285
      clear hy285
      by_cases c190 : y285.length + l1_3.length < 17592186044416
      ·rw [if_pos c190] at H
       have LMc190 := am_ c190
       clear c190
       obtain ⟨y288, hy288⟩ : ∃ y_ : List Int, y_ = (y285 ++ l1_3) := ⟨_, rfl⟩
       replace H : ((some (([y288] : List (List Int)) : List (List Int))).bind fun y291 => (if t235.length + y291.length < 5864062014805 then (some (wrap64 (a0_0 + 1), (t235 ++ y291))) else (none))) = some (r1, r2) := hq_ hy288 H
       have Ny288 := am_ hy288
       clear hy288
       obtain ⟨y291, hy291⟩ : ∃ y_ : List (List Int), y_ = (([y288] : List (List Int))) := ⟨_, rfl⟩
       replace H : (if t235.length + y291.length < 5864062014805 then (some (wrap64 (a0_0 + 1), (t235 ++ y291))) else (none)) = some (r1, r2) := hq_ hy291 H
       have Ny291 := am_ hy291
       clear hy291
       by_cases c191 : t235.length + y291.length < 5864062014805
       ·rw [if_pos c191] at H
        have LMc191 := am_ c191
        clear c191
        obtain ⟨y294, hy294⟩ : ∃ y_ : List (List Int), y_ = (t235 ++ y291) := ⟨_, rfl⟩
        replace H : (some (wrap64 (a0_0 + 1), y294)) = some (r1, r2) := hq_ hy294 H
        have Ny294 := am_ hy294
        clear hy294
        simp only [Option.some.injEq, Prod.mk.injEq] at H
        obtain ⟨rfl, rfl⟩ := H
        go_enter Try.func63, Try.ntmps63
        try go_wp2_with (first | (refine be_ 2 28 #[.int .i64 a0_0, .slice A0_1 l0_1.length c0_1] ?_; intro gb232 hg w192 hbox hb; have n_ := ba0_ HB hbox hb hg; clear  HB hb hbox hg; obtain ⟨HB, BK232, GW232, GE232⟩ := n_) | (refine be_ 3 44 #[.int .i64 a1_0, .int .i64 a1_1, .int .i64 a1_2, .slice A1_3 l1_3.length c1_3] ?_; intro gb233 hg w193 hbox hb; have n_ := ba1_ BK232 HB hbox hb hg; clear BK232 HB hb hbox hg; obtain ⟨BK232, HB, BK233, GW233, GE233, NB232_233, NB233_232⟩ := n_) | (refine be_ 4 28 #[.int .i64 0, .slice none 0 0] ?_; intro gb234 hg w194 hbox hb; have n_ := ba2_ BK232 BK233 HB hbox hb hg; clear BK232 BK233 HB hb hbox hg; obtain ⟨BK232, BK233, HB, BK234, GW234, GE234, NB232_234, NB234_232, NB233_234, NB234_233⟩ := n_))
        have n0_ := am_ (blk_drew BK232.out)
        have n1_ := am_ (blk_drew BK233.out)
        have n2_ := am_ (blk_drew BK234.out)
        have n3_ := am_ (below_drew1 HB.out)
        clear BK232 BK233 BK234 HB; revert n0_ n1_ n2_ n3_; intro BK232 BK233 BK234 HB
        refine start_ (n := 8) (S := fun w' => w'.cell? ⟨gb232, 0, none⟩ = some (.int .i64 a0_0) ∧ w'.cell? ⟨gb232, 1, none⟩ = some (.slice A0_1 l0_1.length c0_1)) (ds := []) (bA_ 8 0) (by kernel_rfl) rfl (by kernel_rfl) ⟨bc_ BK232 0, bc_ BK232 1⟩ (fun hHeld => ?_); refine with_tabW spec_l04Move.tab1 spec_l04Move.bits1 (fun HT_ HW_ => ?_)
        generalize w194.drew = w195 at BK232 BK233 BK234 HB hHeld ⊢
        refine pz_ 0 8 (bA_ 8 1) HT_ ?_
        refine pz_ 2 10 (bA_ 8 5) HT_ ?_
        refine tz_ 1 9 (bA_ 8 7) HT_ HW_ hHeld ?_
        refine tz_ 3 11 (bA_ 8 15) HT_ HW_ hHeld ?_
        refine join_ (σ := Value × Nat) 1 (bA_ 8 127) (fun s_ => [(12, s_.1), (5, .pointer (some ⟨s_.2, 0, none⟩)), (13, .agg #[.int .i64 a0_0, s_.1])]) (fun s_ w' => (w'.cell? ⟨gb232, 0, none⟩ = some (.int .i64 a0_0) ∧ w'.cell? ⟨gb232, 1, none⟩ = some (.slice A0_1 l0_1.length c0_1)) ∧ (Kd.N (Kd.slice 2 (Kd.int .i64)) 39 w' w.heap.size (fun k_ => (w.heap.size ≤ k_) ∧ k_ ≠ gb232 ∧ k_ ≠ gb233 ∧ k_ ≠ gb234 ∧ k_ ≠ s_.2) s_.1 t235) ∧ (w'.heap[gb232]? = some (.cells #[.int .i64 a0_0, .slice A0_1 l0_1.length c0_1] 28 (0, 0))) ∧ (w'.heap[gb233]? = some (.cells #[.int .i64 a1_0, .int .i64 a1_1, .int .i64 a1_2, .slice A1_3 l1_3.length c1_3] 44 (0, 0))) ∧ (w'.heap[gb234]? = some (.cells #[.int .i64 0, .slice none 0 0] 28 (0, 0))) ∧ (w'.heap[s_.2]? = some (.cells #[.int .i64 0, .slice none 0 0] 28 (0, 0))) ∧ (w.heap.size ≤ s_.2) ∧ (w.heap.size ≤ s_.2) ∧ (gb232 ≠ s_.2) ∧ (s_.2 ≠ gb232) ∧ (gb233 ≠ s_.2) ∧ (s_.2 ≠ gb233) ∧ (gb234 ≠ s_.2) ∧ (s_.2 ≠ gb234) ∧ (Below w.heap.size w w')) ?_ ?_
        rotate_left
        ·intro hCont
         refine two_ (i := 4) (j := 6) (Ni := some 12) (Nj := some 5) (bA_ 8 31) (bA_ 8 79) rfl rfl rfl rfl (two_of HT_.out (by kernel_rfl)) (by decide) (by decide) (fun K hK => ?_) (fun K hK => ?_)
         ·skip
          refine goes_ Try.func40 (by kernel_rfl) rfl #[.slice A0_1 l0_1.length c0_1, .int .i64 (-1)] (by rfl) rfl rfl lm_ ?_
          with_reducible refine (spec_l04Copy.calls k _ _ l0_1 (-1) t235 _ ?side1 ?side2 A3.out).mono ?_
          (case side1 => exact cb_ HR0_1 HB)
          (case side2 => exact HC0_1.out)
          rintro e w196 ⟨v236, rfl, ho0, hb⟩
          refine ⟨_, rfl, ?_⟩
          have n0_ := am_ (Kd.N_lower (Kd.N_mono (ok' := fun k_ => (w.heap.size ≤ k_) ∧ k_ ≠ gb232 ∧ k_ ≠ gb233 ∧ k_ ≠ gb234) (Kd.S_N (Kd.S_bound ho0)) (fun k_ hk_ => ⟨(Nat.le_trans (below_size (bb_ HB.out)) hk_.2.1), (Kd.freshB (g := gb232) (o := .cells #[.int .i64 a0_0, .slice A0_1 l0_1.length c0_1] 28 (0, 0)) (bk_ BK232.out) k_ hk_.2.1), (Kd.freshB (g := gb233) (o := .cells #[.int .i64 a1_0, .int .i64 a1_1, .int .i64 a1_2, .slice A1_3 l1_3.length c1_3] 44 (0, 0)) (bk_ BK233.out) k_ hk_.2.1), (Kd.freshB (g := gb234) (o := .cells #[.int .i64 0, .slice none 0 0] 28 (0, 0)) (bk_ BK234.out) k_ hk_.2.1)⟩)) (below_size (bb_ HB.out)))
          have n1_ := am_ (bw_ BK232 hb)
          have n2_ := am_ (bw_ BK233 hb)
          have n3_ := am_ (bw_ BK234 hb)
          have n4_ := am_ (below_step (bb_ HB.out) hb)
          clear BK232 BK233 BK234 HB; revert n0_ n1_ n2_ n3_ n4_; intro HO237 BK232 BK233 BK234 HB
          (try clear hb)
          (try clear hb2)
          (try clear hk)
          (try clear hi)
          (try clear ho0)
          obtain ⟨Ao197, co197, eo197⟩ := Kd.N_slice HO237.out
          (first | subst eo197 | (injection eo197 with f1_ f2_ f3_; have f4_ := f1_.symm; have f5_ := f3_.symm; clear f1_ f2_ f3_; subst f4_; subst f5_))
          refine hK.out _ _ ⟨bc_ BK232 0, bc_ BK232 1⟩ (fun hHeld => ?_)
          clear hK K
          refine nm_ 12 ?_
          refine pz_ 5 13 (bA_ 8 63) HT_ ?_
          refine oz_ 6 5 (bA_ 8 127) HT_ (fun K hK => ?_)
          refine box_step ?hg (N := 5) ?hd (cs := #[.int .i64 0, .slice none 0 0]) (t := 28) ?hr ?_; (case hd => rfl); (case hg => rfl); (case hr => first | (go_simp; done) | (go_simp; rfl))
          intro gb238 hg w198 hbox hb
          have n0_ := am_ (Kd.N_below (Kd.N_elderB (Nx_ HO237.out) gb238 (Nat.le_of_eq hg.symm)) hb)
          have n1_ := am_ (bw_ BK232 hb)
          have n2_ := am_ (bw_ BK233 hb)
          have n3_ := am_ (bw_ BK234 hb)
          have n4_ := am_ (below_step (bb_ HB.out) hb)
          have n5_ := am_ (hbox)
          have n6_ := gs_ HB hg
          have n7_ := gs_ HB hg
          have n8_ := am_ (nl_ BK232 hg)
          have n9_ := am_ (ng_ BK232 hg)
          have n10_ := am_ (nl_ BK233 hg)
          have n11_ := am_ (ng_ BK233 hg)
          have n12_ := am_ (nl_ BK234 hg)
          have n13_ := am_ (ng_ BK234 hg)
          clear HO237 BK232 BK233 BK234 HB; revert n0_ n1_ n2_ n3_ n4_ n5_ n6_ n7_ n8_ n9_ n10_ n11_ n12_ n13_; intro HO237 BK232 BK233 BK234 HB BK238 GW238 GE238 NB232_238 NB238_232 NB233_238 NB238_233 NB234_238 NB238_234
          clear hb hbox hg
          refine hK.out _ _ ⟨bc_ BK232 0, bc_ BK232 1⟩ (fun hHeld => ?_)
          clear hK K
          refine nm_ 5 ?_
          exact norm_ (by simp only [putAll, Act.put, List.setIfInBounds_toArray, List.set_cons_zero, List.set_cons_succ]) (hCont (.slice Ao197 t235.length co197, gb238) _ ⟨hHeld, (Nx_ (Kd.N_mono HO237.out (fun _ hk => ⟨hk.1.1, ⟨hk.1.2.1, ⟨hk.1.2.2.1, ⟨hk.1.2.2.2, hk.2⟩⟩⟩⟩))), (bk_ BK232.out), (bk_ BK233.out), (bk_ BK234.out), (bk_ BK238.out), GW238.out, GE238.out, NB232_238.out, NB238_232.out, NB233_238.out, NB238_233.out, NB234_238.out, NB238_234.out, (bb_ HB.out)⟩)
         ·skip
          refine box_step ?hg (N := 5) ?hd (cs := #[.int .i64 0, .slice none 0 0]) (t := 28) ?hr ?_; (case hd => rfl); (case hg => rfl); (case hr => first | (go_simp; done) | (go_simp; rfl))
          intro gb238 hg w196 hbox hb
          have n0_ := am_ (bw_ BK232 hb)
          have n1_ := am_ (bw_ BK233 hb)
          have n2_ := am_ (bw_ BK234 hb)
          have n3_ := am_ (below_step (bb_ HB.out) hb)
          have n4_ := am_ (hbox)
          have n5_ := gs_ HB hg
          have n6_ := gs_ HB hg
          have n7_ := am_ (nl_ BK232 hg)
          have n8_ := am_ (ng_ BK232 hg)
          have n9_ := am_ (nl_ BK233 hg)
          have n10_ := am_ (ng_ BK233 hg)
          have n11_ := am_ (nl_ BK234 hg)
          have n12_ := am_ (ng_ BK234 hg)
          clear BK232 BK233 BK234 HB; revert n0_ n1_ n2_ n3_ n4_ n5_ n6_ n7_ n8_ n9_ n10_ n11_ n12_; intro BK232 BK233 BK234 HB BK238 GW238 GE238 NB232_238 NB238_232 NB233_238 NB238_233 NB234_238 NB238_234
          clear hb hbox hg
          refine hK.out _ _ ⟨bc_ BK232 0, bc_ BK232 1⟩ (fun hHeld => ?_)
          clear hK K
          refine nm_ 5 ?_
          refine oz_ 4 12 (bA_ 8 95) HT_ (fun K hK => ?_)
          refine goes_ Try.func40 (by kernel_rfl) rfl #[.slice A0_1 l0_1.length c0_1, .int .i64 (-1)] (by rfl) rfl rfl lm_ ?_
          with_reducible refine (spec_l04Copy.calls k _ _ l0_1 (-1) t235 _ ?side1 ?side2 A3.out).mono ?_
          (case side1 => exact cb_ HR0_1 HB)
          (case side2 => exact HC0_1.out)
          rintro e w197 ⟨v236, rfl, ho0, hb⟩
          refine ⟨_, rfl, ?_⟩
          have n0_ := am_ (Kd.N_lower (Kd.N_mono (ok' := fun k_ => (w.heap.size ≤ k_) ∧ k_ ≠ gb232 ∧ k_ ≠ gb233 ∧ k_ ≠ gb234 ∧ k_ ≠ gb238) (Kd.S_N (Kd.S_bound ho0)) (fun k_ hk_ => ⟨(Nat.le_trans (below_size (bb_ HB.out)) hk_.2.1), (Kd.freshB (g := gb232) (o := .cells #[.int .i64 a0_0, .slice A0_1 l0_1.length c0_1] 28 (0, 0)) (bk_ BK232.out) k_ hk_.2.1), (Kd.freshB (g := gb233) (o := .cells #[.int .i64 a1_0, .int .i64 a1_1, .int .i64 a1_2, .slice A1_3 l1_3.length c1_3] 44 (0, 0)) (bk_ BK233.out) k_ hk_.2.1), (Kd.freshB (g := gb234) (o := .cells #[.int .i64 0, .slice none 0 0] 28 (0, 0)) (bk_ BK234.out) k_ hk_.2.1), (Kd.freshB (g := gb238) (o := .cells #[.int .i64 0, .slice none 0 0] 28 (0, 0)) (bk_ BK238.out) k_ hk_.2.1)⟩)) (below_size (bb_ HB.out)))
          have n1_ := am_ (bw_ BK232 hb)
          have n2_ := am_ (bw_ BK233 hb)
          have n3_ := am_ (bw_ BK234 hb)
          have n4_ := am_ (bw_ BK238 hb)
          have n5_ := am_ (below_step (bb_ HB.out) hb)
          clear BK232 BK233 BK234 BK238 HB; revert n0_ n1_ n2_ n3_ n4_ n5_; intro HO237 BK232 BK233 BK234 BK238 HB
          (try clear hb)
          (try clear hb2)
          (try clear hk)
          (try clear hi)
          (try clear ho0)
          obtain ⟨Ao198, co198, eo198⟩ := Kd.N_slice HO237.out
          (first | subst eo198 | (injection eo198 with f1_ f2_ f3_; have f4_ := f1_.symm; have f5_ := f3_.symm; clear f1_ f2_ f3_; subst f4_; subst f5_))
          refine hK.out _ _ ⟨bc_ BK232 0, bc_ BK232 1⟩ (fun hHeld => ?_)
          clear hK K
          refine nm_ 12 ?_
          refine pz_ 5 13 (bA_ 8 127) HT_ ?_
          exact norm_ (by simp only [putAll, Act.put, List.setIfInBounds_toArray, List.set_cons_zero, List.set_cons_succ]) (hCont (.slice Ao198 t235.length co198, gb238) _ ⟨hHeld, (Nx_ HO237.out), (bk_ BK232.out), (bk_ BK233.out), (bk_ BK234.out), (bk_ BK238.out), GW238.out, GE238.out, NB232_238.out, NB238_232.out, NB233_238.out, NB238_233.out, NB234_238.out, NB238_234.out, (bb_ HB.out)⟩)
        rintro ⟨v236, gb238⟩ w199 ⟨hS_, h0_, h1_, h2_, h3_, h4_, h5_, h6_, h7_, h8_, h9_, h10_, h11_, h12_, h13_⟩
        have n0_ : Aside0 (Kd.N (Kd.slice 2 (Kd.int .i64)) 39 w199 w.heap.size (fun k_ => (w.heap.size ≤ k_) ∧ k_ ≠ gb232 ∧ k_ ≠ gb233 ∧ k_ ≠ gb234 ∧ k_ ≠ gb238) v236 t235) := ⟨h0_⟩
        have n1_ : Aside0 (w199.heap[gb232]? = some (.cells #[.int .i64 a0_0, .slice A0_1 l0_1.length c0_1] 28 (0, 0))) := ⟨h1_⟩
        have n2_ : Aside0 (w199.heap[gb233]? = some (.cells #[.int .i64 a1_0, .int .i64 a1_1, .int .i64 a1_2, .slice A1_3 l1_3.length c1_3] 44 (0, 0))) := ⟨h2_⟩
        have n3_ : Aside0 (w199.heap[gb234]? = some (.cells #[.int .i64 0, .slice none 0 0] 28 (0, 0))) := ⟨h3_⟩
        have n4_ : Aside0 (w199.heap[gb238]? = some (.cells #[.int .i64 0, .slice none 0 0] 28 (0, 0))) := ⟨h4_⟩
        have n5_ : Aside0 (w.heap.size ≤ gb238) := ⟨h5_⟩
        have n6_ : Aside0 (w.heap.size ≤ gb238) := ⟨h6_⟩
        have n7_ : Aside0 (gb232 ≠ gb238) := ⟨h7_⟩
        have n8_ : Aside0 (gb238 ≠ gb232) := ⟨h8_⟩
        have n9_ : Aside0 (gb233 ≠ gb238) := ⟨h9_⟩
        have n10_ : Aside0 (gb238 ≠ gb233) := ⟨h10_⟩
        have n11_ : Aside0 (gb234 ≠ gb238) := ⟨h11_⟩
        have n12_ : Aside0 (gb238 ≠ gb234) := ⟨h12_⟩
        have n13_ : Aside0 (Below w.heap.size w w199) := ⟨h13_⟩
        clear BK232
        clear BK233
        clear BK234
        clear HB
        clear h0_ h1_ h2_ h3_ h4_ h5_ h6_ h7_ h8_ h9_ h10_ h11_ h12_ h13_
        have HO237 := n0_
        have BK232 := n1_
        have BK233 := n2_
        have BK234 := n3_
        have BK238 := n4_
        have GW238 := n5_
        have GE238 := n6_
        have NB232_238 := n7_
        have NB238_232 := n8_
        have NB233_238 := n9_
        have NB238_233 := n10_
        have NB234_238 := n11_
        have NB238_234 := n12_
        have HB := n13_
        clear n0_ n1_ n2_ n3_ n4_ n5_ n6_ n7_ n8_ n9_ n10_ n11_ n12_ n13_
        have hHeld : w199.cell? ⟨gb232, 0, none⟩ = some (.int .i64 a0_0) ∧ w199.cell? ⟨gb232, 1, none⟩ = some (.slice A0_1 l0_1.length c0_1) := hS_
        obtain ⟨Ao200, co200, eo200⟩ := Kd.N_slice HO237.out
        (first | subst eo200 | (injection eo200 with f1_ f2_ f3_; have f4_ := f1_.symm; have f5_ := f3_.symm; clear f1_ f2_ f3_; subst f4_; subst f5_))
        refine norm_ (a' := ?_) ?_ ?_
        rotate_left
        ·simp only [putAll, Act.put, List.setIfInBounds_toArray, List.set_cons_zero, List.set_cons_succ]
         rfl
        refine one_ (i := 7) (N := none) (bA_ 8 255) rfl rfl (one_of HT_.out (by kernel_rfl)) (by decide) (fun K hK => ?_)
        have hs201 : w199.cell? ⟨gb238, 0, none⟩ = some (.int .i64 0) := bc_ BK238 0
        have hfs201 := blk_frozen BK238.out 0
        have hns201_0 := NB232_238.out
        have hns201_1 := NB233_238.out
        have hns201_2 := NB234_238.out
        have hms201_0 := NB238_232.out
        have hms201_1 := NB238_233.out
        have hms201_2 := NB238_234.out
        have hs202 : w199.cell? ⟨gb238, 1, none⟩ = some (.slice none 0 0) := bc_ BK238 1
        have hfs202 := blk_frozen BK238.out 1
        have hns202_0 := NB232_238.out
        have hns202_1 := NB233_238.out
        have hns202_2 := NB234_238.out
        have hms202_0 := NB238_232.out
        have hms202_1 := NB238_233.out
        have hms202_2 := NB238_234.out
        refine skip_ (w1 := ?_) (by rfl) rfl ?_ ?_
        rotate_left
        ·go_simp
         rfl
        refine hK.out _ _ ⟨((cell_far (p := ⟨gb238, _, none⟩) NB232_238.out _).trans (((cell_far (p := ⟨gb238, _, none⟩) NB232_238.out _).trans (hHeld.1)))), ((cell_far (p := ⟨gb238, _, none⟩) NB232_238.out _).trans (((cell_far (p := ⟨gb238, _, none⟩) NB232_238.out _).trans (hHeld.2))))⟩ (fun hHeld => ?_)
        clear hK K
        refine done_ (done_of HT_.out (by kernel_rfl)) ?_
        have hnb203 := NB233_232.out
        have hnc203 := NB232_233.out
        have hnb204 := NB233_234.out
        have hnc204 := NB234_233.out
        have hnb205 := NB233_238.out
        have hnc205 := NB238_233.out
        obtain ⟨hcz206_0, hcz206_1, hcz206_2, hcz206_3, hfz206_0, hfz206_1, hfz206_2, hfz206_3⟩ := bx4_ BK233
        have hnb207 := NB232_234.out
        have hnc207 := NB234_232.out
        have hnb208 := NB232_238.out
        have hnc208 := NB238_232.out
        obtain ⟨hcz209_0, hcz209_1, hfz209_0, hfz209_1⟩ := bx2_ BK232
        try go_wp2
        have n0_ : Aside0 (Kd.N (Kd.slice 2 (Kd.int .i64)) 39 ((w199.setCell ⟨gb238, 0, none⟩ (.int .i64 a0_0)).setCell ⟨gb238, 1, none⟩ (.slice Ao200 t235.length co200)) w.heap.size (fun k_ => (w.heap.size ≤ k_) ∧ k_ ≠ gb232 ∧ k_ ≠ gb233 ∧ k_ ≠ gb234 ∧ k_ ≠ gb238) (.slice Ao200 t235.length co200) t235) := ⟨Nx_ (Kd.N_mono (Kd.N_far (p := ⟨gb238, 1, none⟩) (Kd.N_far (p := ⟨gb238, 0, none⟩) (Kd.N_mono HO237.out (fun k_ hk => (⟨hk, hk.2.2.2.2⟩ : _ ∧ k_ ≠ gb238))) (fun _ hk => hk.2) (.int .i64 a0_0)) (fun _ hk => hk.2) (.slice Ao200 t235.length co200)) (fun _ hk => ⟨hk.1.1, ⟨hk.1.2.1, ⟨hk.1.2.2.1, ⟨hk.1.2.2.2.1, hk.1.2.2.2.2⟩⟩⟩⟩))⟩
        have n1_ : Aside0 (((w199.setCell ⟨gb238, 0, none⟩ (.int .i64 a0_0)).setCell ⟨gb238, 1, none⟩ (.slice Ao200 t235.length co200)).heap[gb232]? = some (.cells #[.int .i64 a0_0, .slice A0_1 l0_1.length c0_1] 28 (0, 0))) := ⟨bk_ BK232.out⟩
        have n2_ : Aside0 (((w199.setCell ⟨gb238, 0, none⟩ (.int .i64 a0_0)).setCell ⟨gb238, 1, none⟩ (.slice Ao200 t235.length co200)).heap[gb233]? = some (.cells #[.int .i64 a1_0, .int .i64 a1_1, .int .i64 a1_2, .slice A1_3 l1_3.length c1_3] 44 (0, 0))) := ⟨bk_ BK233.out⟩
        have n3_ : Aside0 (((w199.setCell ⟨gb238, 0, none⟩ (.int .i64 a0_0)).setCell ⟨gb238, 1, none⟩ (.slice Ao200 t235.length co200)).heap[gb234]? = some (.cells #[.int .i64 0, .slice none 0 0] 28 (0, 0))) := ⟨bk_ BK234.out⟩
        have n4_ : Aside0 (((w199.setCell ⟨gb238, 0, none⟩ (.int .i64 a0_0)).setCell ⟨gb238, 1, none⟩ (.slice Ao200 t235.length co200)).heap[gb238]? = some (.cells #[.int .i64 a0_0, .slice Ao200 t235.length co200] 28 (0, 0))) := ⟨pu2_ BK238⟩
        have n5_ : Aside0 (Below w.heap.size w ((w199.setCell ⟨gb238, 0, none⟩ (.int .i64 a0_0)).setCell ⟨gb238, 1, none⟩ (.slice Ao200 t235.length co200))) := ⟨bb_ HB.out⟩
        (try clear HO237)
        (try clear BK232)
        (try clear BK233)
        (try clear BK234)
        (try clear BK238)
        (try clear HB)
        generalize ((w199.setCell ⟨gb238, 0, none⟩ (.int .i64 a0_0)).setCell ⟨gb238, 1, none⟩ (.slice Ao200 t235.length co200)) = w210 at n0_ n1_ n2_ n3_ n4_ n5_ ⊢
        have HO237 := n0_
        have BK232 := n1_
        have BK233 := n2_
        have BK234 := n3_
        have BK238 := n4_
        have HB := n5_
        clear n0_ n1_ n2_ n3_ n4_ n5_
        have n0_ := am_ (Kd.N_drew HO237.out)
        have n1_ := am_ (blk_drew BK232.out)
        have n2_ := am_ (blk_drew BK233.out)
        have n3_ := am_ (blk_drew BK234.out)
        have n4_ := am_ (blk_drew BK238.out)
        have n5_ := am_ (below_drew1 HB.out)
        clear HO237 BK232 BK233 BK234 BK238 HB; revert n0_ n1_ n2_ n3_ n4_ n5_; intro HO237 BK232 BK233 BK234 BK238 HB
        refine start_ (n := 13) (S := fun w' => w'.cell? ⟨gb238, 0, none⟩ = some (.int .i64 a0_0) ∧ w'.cell? ⟨gb238, 1, none⟩ = some (.slice Ao200 t235.length co200) ∧ w'.cell? ⟨gb233, 0, none⟩ = some (.int .i64 a1_0) ∧ w'.cell? ⟨gb233, 1, none⟩ = some (.int .i64 a1_1) ∧ w'.cell? ⟨gb233, 2, none⟩ = some (.int .i64 a1_2) ∧ w'.cell? ⟨gb233, 3, none⟩ = some (.slice A1_3 l1_3.length c1_3)) (ds := []) (bA_ 13 0) (by kernel_rfl) rfl (by kernel_rfl) ⟨bc_ BK238 0, bc_ BK238 1, bc_ BK233 0, bc_ BK233 1, bc_ BK233 2, bc_ BK233 3⟩ (fun hHeld => ?_); refine with_tabW spec_l04Move.tab4 spec_l04Move.bits4 (fun HT_ HW_ => ?_)
        generalize w210.drew = w211 at HO237 BK232 BK233 BK234 BK238 HB hHeld ⊢
        refine pz_ 0 19 (bA_ 13 1) HT_ ?_
        refine pz_ 1 20 (bA_ 13 3) HT_ ?_
        refine pz_ 3 22 (bA_ 13 11) HT_ ?_
        refine pz_ 4 23 (bA_ 13 27) HT_ ?_
        refine pz_ 6 25 (bA_ 13 91) HT_ ?_
        refine tz_ 2 21 (bA_ 13 95) HT_ HW_ hHeld ?_
        refine tz_ 7 26 (bA_ 13 223) HT_ HW_ hHeld ?_
        refine oz_ 5 24 (bA_ 13 255) HT_ (fun K hK => ?_)
        refine Kd.R_lit_step (Kd.int .i64) _ 2 ?hg (N := 24) ?hd (xs := ([wrap64 (-(wrap64 (a0_0 + 1)))] : List Int)) (inner := [.int .i64 (wrap64 (-(wrap64 (a0_0 + 1))))]) (ok := fun _ => True) (okp := fun _ => True) ?hr ?hp (fun _ hk => hk) trivial (Below.refl _ _) (Nat.le_refl _) (by simp) ?_; (case hd => rfl); (case hg => rfl); (case hr => first | (go_simp; done) | (go_simp; rfl)); (case hp => exact (Reps.one (show Kd.M (Kd.int .i64) _ _ _ (wrap64 (-(wrap64 (a0_0 + 1)))) [.int .i64 (wrap64 (-(wrap64 (a0_0 + 1))))] from rfl) (Reps.none _ _)))
        intro v286 w212 ho213 hb hg_ hnew_
        clear hg_ hnew_
        (first | rw [← Ny285.out] at ho213 | (simp only [Int.reduceToNat] at ho213; rw [← Ny285.out] at ho213))
        have n0_ := am_ (Kd.N_elder' (Nx_ HO237.out) (Kd.R_base ho213) hb)
        have n1_ := am_ (Kd.R_lower (Kd.R_newM (M := fun k_ => (w.heap.size ≤ k_)) ho213 (below_size (bb_ HB.out)) (fun k_ h_ => h_)) (below_size (bb_ HB.out)))
        have n2_ := am_ (bw_ BK232 hb)
        have n3_ := am_ (bw_ BK233 hb)
        have n4_ := am_ (bw_ BK234 hb)
        have n5_ := am_ (bw_ BK238 hb)
        have n6_ := am_ (below_step (bb_ HB.out) hb)
        clear HO237 BK232 BK233 BK234 BK238 HB; revert n0_ n1_ n2_ n3_ n4_ n5_ n6_; intro HO237 HO287 BK232 BK233 BK234 BK238 HB
        clear hb ho213
        refine hK.out _ _ ⟨bc_ BK238 0, bc_ BK238 1, bc_ BK233 0, bc_ BK233 1, bc_ BK233 2, bc_ BK233 3⟩ (fun hHeld => ?_)
        clear hK K
        refine nm_ 24 ?_
        refine oz_ 8 27 (bA_ 13 511) HT_ (fun K hK => ?_)
        refine Kd.R_append_rows_step (Kd.int .i64) (w0 := w) w.heap.size (by rfl) (.tmp 24) (.tmp 26) 39 2 (.int .i64 0) 8 rfl Try.underlying39 info2 rfl (by decide) (by omega) v286 y285 l1_3 _ _ _ (fun k_ => (w.heap.size ≤ k_)) (fun _ => False) rfl rfl ?aO ?aR (fun _ _ h => h) (fun _ h => h.elim) ?aF ?aB ?aS ?aL ?_
        (case aR => exact cb_ HR1_3 HB)
        (case aB => exact (bb_ HB.out))
        (case aF => exact (fun k_ hk => (Nat.le_trans (below_size (bb_ HB.out)) hk)))
        (case aO => exact (rm_ HO287.out (fun _ hk => hk.1)))
        (case aS => exact (below_size (bb_ HB.out)))
        (case aL => have := LMc190.out; omega)
        intro v289 w214 ho hb hg hat
        rw [← Ny288.out] at ho
        have n0_ := am_ (blk_grown (g := gb232) (o := .cells #[.int .i64 a0_0, .slice A0_1 l0_1.length c0_1] 28 (0, 0)) (bk_ BK232.out) hg (Kd.R_ne HO287.out BK232.out (by decide)))
        have n1_ := am_ (blk_grown (g := gb233) (o := .cells #[.int .i64 a1_0, .int .i64 a1_1, .int .i64 a1_2, .slice A1_3 l1_3.length c1_3] 44 (0, 0)) (bk_ BK233.out) hg (Kd.R_ne HO287.out BK233.out (by decide)))
        have n2_ := am_ (blk_grown (g := gb234) (o := .cells #[.int .i64 0, .slice none 0 0] 28 (0, 0)) (bk_ BK234.out) hg (Kd.R_ne HO287.out BK234.out (by decide)))
        have n3_ := am_ (Kd.N_afterv (ok := (fun k_ => (w.heap.size ≤ k_) ∧ k_ ≠ gb232 ∧ k_ ≠ gb233 ∧ k_ ≠ gb234 ∧ k_ ≠ gb238)) (Nx_ HO237.out) hg hat)
        have n4_ := am_ (blk_grown (g := gb238) (o := .cells #[.int .i64 a0_0, .slice Ao200 t235.length co200] 28 (0, 0)) (bk_ BK238.out) hg (Kd.R_ne HO287.out BK238.out (by decide)))
        have n5_ := am_ (hb)
        have n6_ := am_ (ho)
        clear BK232 BK233 BK234 HO237 BK238 HB HO287; revert n0_ n1_ n2_ n3_ n4_ n5_ n6_; intro BK232 BK233 BK234 HO237 BK238 HB HO290
        clear ho hb hg hat
        obtain ⟨Ao215, co215, eo215⟩ := Kd.R_slice HO290.out
        (first | subst eo215 | (injection eo215 with f1_ f2_ f3_; have f4_ := f1_.symm; have f5_ := f3_.symm; clear f1_ f2_ f3_; subst f4_; subst f5_))
        refine hK.out _ _ ⟨bc_ BK238 0, bc_ BK238 1, bc_ BK233 0, bc_ BK233 1, bc_ BK233 2, bc_ BK233 3⟩ (fun hHeld => ?_)
        clear hK K
        refine nm_ 27 ?_
        refine oz_ 9 28 (bA_ 13 1023) HT_ (fun K hK => ?_)
        refine Kd.N_lit_step (Kd.slice 2 (Kd.int .i64)) _ 39 ?hg (N' := 28) ?hd (xs := ([y288] : List (List Int))) (inner := [.slice Ao215 y288.length co215]) (ok := (fun k_ => (w.heap.size ≤ k_) ∧ some k_ ≠ (.slice Ao200 t235.length co200 : Value).ownBlock ∧ k_ ≠ gb232 ∧ k_ ≠ gb233 ∧ k_ ≠ gb234 ∧ k_ ≠ gb238)) (okp := (fun k_ => (w.heap.size ≤ k_) ∧ some k_ ≠ (.slice Ao200 t235.length co200 : Value).ownBlock ∧ k_ ≠ gb232 ∧ k_ ≠ gb233 ∧ k_ ≠ gb234 ∧ k_ ≠ gb238)) ?hr ?hp (fun _ hk => hk) ((show ∀ k_, w214.heap.size ≤ k_ → (fun k_ => (w.heap.size ≤ k_) ∧ some k_ ≠ (.slice Ao200 t235.length co200 : Value).ownBlock ∧ k_ ≠ gb232 ∧ k_ ≠ gb233 ∧ k_ ≠ gb234 ∧ k_ ≠ gb238) k_ from fun k_ hk => ⟨(Nat.le_trans (below_size (bb_ HB.out)) hk), Kd.fresh' (Kd.N_lt (Nx_ HO237.out)) k_ hk, Kd.freshB (g := gb232) (o := .cells #[.int .i64 a0_0, .slice A0_1 l0_1.length c0_1] 28 (0, 0)) (bk_ BK232.out) k_ hk, Kd.freshB (g := gb233) (o := .cells #[.int .i64 a1_0, .int .i64 a1_1, .int .i64 a1_2, .slice A1_3 l1_3.length c1_3] 44 (0, 0)) (bk_ BK233.out) k_ hk, Kd.freshB (g := gb234) (o := .cells #[.int .i64 0, .slice none 0 0] 28 (0, 0)) (bk_ BK234.out) k_ hk, Kd.freshB (g := gb238) (o := .cells #[.int .i64 a0_0, .slice Ao200 t235.length co200] 28 (0, 0)) (bk_ BK238.out) k_ hk⟩) _ (Nat.le_refl _)) (Below.refl _ _) (Nat.le_refl _) (by simp) ?_; (case hd => rfl); (case hg => rfl); (case hr => first | (go_simp; done) | (go_simp; rfl)); (case hp => exact (Reps.one (show Kd.FK (Kd.slice 2 (Kd.int .i64)) _ _ y288 [.slice Ao215 y288.length co215] from (Kd.FK_slice_mk (Kd.R_reads' (Kd.R_mono (ok' := (fun k_ => (w.heap.size ≤ k_) ∧ some k_ ≠ (.slice Ao200 t235.length co200 : Value).ownBlock ∧ k_ ≠ gb232 ∧ k_ ≠ gb233 ∧ k_ ≠ gb234 ∧ k_ ≠ gb238)) (Kd.R_types (Kd.R_types (Kd.R_types (Kd.R_types (Kd.R_apart' (HO290.out) (Kd.N_typed HO237.out) (by decide)) BK232.out (by decide)) BK233.out (by decide)) BK234.out (by decide)) BK238.out (by decide)) (fun k_ hk => ⟨hk.1.1.1.1.1, ⟨hk.1.1.1.1.2, ⟨hk.1.1.1.2, ⟨hk.1.1.2, ⟨hk.1.2, hk.2⟩⟩⟩⟩⟩))).2.1 (Kd.R_F (Kd.R_mono (ok' := (fun k_ => (w.heap.size ≤ k_) ∧ some k_ ≠ (.slice Ao200 t235.length co200 : Value).ownBlock ∧ k_ ≠ gb232 ∧ k_ ≠ gb233 ∧ k_ ≠ gb234 ∧ k_ ≠ gb238)) (Kd.R_types (Kd.R_types (Kd.R_types (Kd.R_types (Kd.R_apart' (HO290.out) (Kd.N_typed HO237.out) (by decide)) BK232.out (by decide)) BK233.out (by decide)) BK234.out (by decide)) BK238.out (by decide)) (fun k_ hk => ⟨hk.1.1.1.1.1, ⟨hk.1.1.1.1.2, ⟨hk.1.1.1.2, ⟨hk.1.1.2, ⟨hk.1.2, hk.2⟩⟩⟩⟩⟩))))) (Reps.none _ _)))
        intro v292 w216 ho217 hb hg_ hnew_
        clear hg_ hnew_
        (first | rw [← Ny291.out] at ho217 | (simp only [Int.reduceToNat] at ho217; rw [← Ny291.out] at ho217))
        have n0_ := am_ (Kd.N_elder' (Nx_ HO237.out) (Kd.N_base ho217) hb)
        have n1_ := am_ (Kd.N_lower ho217 (below_size (bb_ HB.out)))
        have n2_ := am_ (bw_ BK232 hb)
        have n3_ := am_ (bw_ BK233 hb)
        have n4_ := am_ (bw_ BK234 hb)
        have n5_ := am_ (bw_ BK238 hb)
        have n6_ := am_ (below_step (bb_ HB.out) hb)
        clear HO237 BK232 BK233 BK234 BK238 HB HO290; revert n0_ n1_ n2_ n3_ n4_ n5_ n6_; intro HO237 HO293 BK232 BK233 BK234 BK238 HB
        clear hb ho217
        obtain ⟨Ao219, co219, eo219⟩ := Kd.N_slice HO293.out
        (first | subst eo219 | (injection eo219 with f1_ f2_ f3_; have f4_ := f1_.symm; have f5_ := f3_.symm; clear f1_ f2_ f3_; subst f4_; subst f5_))
        refine hK.out _ _ ⟨bc_ BK238 0, bc_ BK238 1, bc_ BK233 0, bc_ BK233 1, bc_ BK233 2, bc_ BK233 3⟩ (fun hHeld => ?_)
        clear hK K
        refine nm_ 28 ?_
        refine oz_ 10 29 (bA_ 13 2047) HT_ (fun K hK => ?_)
        refine Kd.N_append_rows_step (Kd.slice 2 (Kd.int .i64)) (w0 := w) w.heap.size (by rfl) (.tmp 21) (.tmp 28) 22 39 (.slice none 0 0) 24 rfl Try.underlying22 info39 rfl (by decide) (by omega) (.slice Ao200 t235.length co200) t235 y291 _ _ _ (fun k_ => (w.heap.size ≤ k_) ∧ k_ ≠ gb232 ∧ k_ ≠ gb233 ∧ k_ ≠ gb234 ∧ k_ ≠ gb238) (fun k_ => ((fun k_ => (w.heap.size ≤ k_) ∧ k_ ≠ gb232 ∧ k_ ≠ gb233 ∧ k_ ≠ gb234 ∧ k_ ≠ gb238)) k_ ∧ some k_ ≠ (.slice Ao200 t235.length co200 : Value).ownBlock) rfl rfl ?aO ?aR (fun _ hk => hk) ?aF ?aB ?aS ?aL ?_
        (case aR => exact (by skip; exact Kd.N_F (Kd.N_mono (ok' := (fun k_ => ((fun k_ => (w.heap.size ≤ k_) ∧ k_ ≠ gb232 ∧ k_ ≠ gb233 ∧ k_ ≠ gb234 ∧ k_ ≠ gb238)) k_ ∧ some k_ ≠ (.slice Ao200 t235.length co200 : Value).ownBlock)) (HO293.out) (fun k_ hk => ⟨⟨hk.1, ⟨hk.2.2.1, ⟨hk.2.2.2.1, ⟨hk.2.2.2.2.1, hk.2.2.2.2.2⟩⟩⟩⟩, hk.2.1⟩))))
        (case aB => exact (bb_ HB.out))
        (case aF => exact (fun k_ hk => ⟨(Nat.le_trans (below_size (bb_ HB.out)) hk), Kd.freshB (g := gb232) (o := .cells #[.int .i64 a0_0, .slice A0_1 l0_1.length c0_1] 28 (0, 0)) (bk_ BK232.out) k_ hk, Kd.freshB (g := gb233) (o := .cells #[.int .i64 a1_0, .int .i64 a1_1, .int .i64 a1_2, .slice A1_3 l1_3.length c1_3] 44 (0, 0)) (bk_ BK233.out) k_ hk, Kd.freshB (g := gb234) (o := .cells #[.int .i64 0, .slice none 0 0] 28 (0, 0)) (bk_ BK234.out) k_ hk, Kd.freshB (g := gb238) (o := .cells #[.int .i64 a0_0, .slice Ao200 t235.length co200] 28 (0, 0)) (bk_ BK238.out) k_ hk⟩))
        (case aO => exact (Nx_ (Kd.N_mono HO237.out (fun _ hk => ⟨hk.1.1.1, ⟨hk.1.1.2.1, ⟨hk.1.1.2.2.1, ⟨hk.1.1.2.2.2.1, hk.1.1.2.2.2.2⟩⟩⟩⟩))))
        (case aS => exact (below_size (bb_ HB.out)))
        (case aL => have := LMc191.out; omega)
        intro v295 w218 ho hb hg hat
        rw [← Ny294.out] at ho
        have n0_ := am_ (blk_grown (g := gb232) (o := .cells #[.int .i64 a0_0, .slice A0_1 l0_1.length c0_1] 28 (0, 0)) (bk_ BK232.out) hg (Kd.N_ne HO237.out BK232.out (by decide)))
        have n1_ := am_ (blk_grown (g := gb233) (o := .cells #[.int .i64 a1_0, .int .i64 a1_1, .int .i64 a1_2, .slice A1_3 l1_3.length c1_3] 44 (0, 0)) (bk_ BK233.out) hg (Kd.N_ne HO237.out BK233.out (by decide)))
        have n2_ := am_ (blk_grown (g := gb234) (o := .cells #[.int .i64 0, .slice none 0 0] 28 (0, 0)) (bk_ BK234.out) hg (Kd.N_ne HO237.out BK234.out (by decide)))
        have n3_ := am_ (blk_grown (g := gb238) (o := .cells #[.int .i64 a0_0, .slice Ao200 t235.length co200] 28 (0, 0)) (bk_ BK238.out) hg (Kd.N_ne HO237.out BK238.out (by decide)))
        have n4_ := am_ (Kd.N_afterv (ok := (fun k_ => (w.heap.size ≤ k_) ∧ k_ ≠ gb232 ∧ k_ ≠ gb233 ∧ k_ ≠ gb234 ∧ k_ ≠ gb238)) (Nx_ (Kd.N_mono HO293.out (fun _ hk => ⟨⟨hk.1, ⟨hk.2.2.1, ⟨hk.2.2.2.1, ⟨hk.2.2.2.2.1, hk.2.2.2.2.2⟩⟩⟩⟩, hk.2.1⟩))) hg hat)
        have n5_ := am_ (hb)
        have n6_ := am_ (ho)
        clear BK232 BK233 BK234 BK238 HO293 HB HO237; revert n0_ n1_ n2_ n3_ n4_ n5_ n6_; intro BK232 BK233 BK234 BK238 HO293 HB HO296
        clear ho hb hg hat
        obtain ⟨Ao220, co220, eo220⟩ := Kd.N_slice HO296.out
        (first | subst eo220 | (injection eo220 with f1_ f2_ f3_; have f4_ := f1_.symm; have f5_ := f3_.symm; clear f1_ f2_ f3_; subst f4_; subst f5_))
        refine hK.out _ _ ⟨bc_ BK238 0, bc_ BK238 1, bc_ BK233 0, bc_ BK233 1, bc_ BK233 2, bc_ BK233 3⟩ (fun hHeld => ?_)
        clear hK K
        refine nm_ 29 ?_
        refine pz_ 11 30 (bA_ 13 4095) HT_ ?_
        refine one_ (i := 12) (N := none) (bA_ 13 8191) rfl rfl (one_of HT_.out (by kernel_rfl)) (by decide) (fun K hK => ?_)
        have hs221 : w218.cell? ⟨gb234, 0, none⟩ = some (.int .i64 0) := bc_ BK234 0
        have hfs221 := blk_frozen BK234.out 0
        have hns221_0 := NB232_234.out
        have hns221_1 := NB233_234.out
        have hns221_3 := NB238_234.out
        have hms221_0 := NB234_232.out
        have hms221_1 := NB234_233.out
        have hms221_3 := NB234_238.out
        have hs222 : w218.cell? ⟨gb234, 1, none⟩ = some (.slice none 0 0) := bc_ BK234 1
        have hfs222 := blk_frozen BK234.out 1
        have hns222_0 := NB232_234.out
        have hns222_1 := NB233_234.out
        have hns222_3 := NB238_234.out
        have hms222_0 := NB234_232.out
        have hms222_1 := NB234_233.out
        have hms222_3 := NB234_238.out
        refine skip_ (w1 := ?_) (by rfl) rfl ?_ ?_
        rotate_left
        ·go_simp
         rfl
        refine hK.out _ _ ⟨((cell_far (p := ⟨gb234, _, none⟩) NB238_234.out _).trans (((cell_far (p := ⟨gb234, _, none⟩) NB238_234.out _).trans (hHeld.1)))), ((cell_far (p := ⟨gb234, _, none⟩) NB238_234.out _).trans (((cell_far (p := ⟨gb234, _, none⟩) NB238_234.out _).trans (hHeld.2.1)))), ((cell_far (p := ⟨gb234, _, none⟩) NB233_234.out _).trans (((cell_far (p := ⟨gb234, _, none⟩) NB233_234.out _).trans (hHeld.2.2.1)))), ((cell_far (p := ⟨gb234, _, none⟩) NB233_234.out _).trans (((cell_far (p := ⟨gb234, _, none⟩) NB233_234.out _).trans (hHeld.2.2.2.1)))), ((cell_far (p := ⟨gb234, _, none⟩) NB233_234.out _).trans (((cell_far (p := ⟨gb234, _, none⟩) NB233_234.out _).trans (hHeld.2.2.2.2.1)))), ((cell_far (p := ⟨gb234, _, none⟩) NB233_234.out _).trans (((cell_far (p := ⟨gb234, _, none⟩) NB233_234.out _).trans (hHeld.2.2.2.2.2))))⟩ (fun hHeld => ?_)
        clear hK K
        refine done_ (done_of HT_.out (by kernel_rfl)) ?_
        try go_wp2
        refine bodyPost_ret (results_cell_row rfl _ _ gb234 28 #[.int .i64 (wrap64 (a0_0 + 1)), .slice Ao220 y294.length co220] (0, 0) _ rfl (pu2_ BK234) Try.underlying28 rfl (by kernel_rfl)) rfl ?_
        exact ⟨_, er_, Nx_ (Kd.N_mono (Kd.N_far (p := ⟨gb234, 1, none⟩) (Kd.N_far (p := ⟨gb234, 0, none⟩) (Kd.N_mono HO296.out (fun k_ hk => (⟨hk, hk.2.2.2.1⟩ : _ ∧ k_ ≠ gb234))) (fun _ hk => hk.2) (.int .i64 (wrap64 (a0_0 + 1)))) (fun _ hk => hk.2) (.slice Ao220 y294.length co220)) (fun _ hk => hk.1.1)), bb_ HB.out⟩
       ·rw [if_neg c191] at H
        exact absurd H (by simp)
      ·rw [if_neg c190] at H
       exact absurd H (by simp)
/-! ### spec_l04Move: the parts -/
theorem spec_l04Move.calls (k : Nat) (a0_0 : Int) (A0_1 : Option Addr) (c0_1 : Nat) (l0_1 : List (List Int)) (a1_0 : Int) (a1_1 : Int) (a1_2 : Int) (A1_3 : Option Addr) (c1_3 : Nat) (l1_3 : List Int) (r1 : Int) (r2 : List (List Int)) (w : World) (hr0_1 : Kd.C (Kd.slice 2 (Kd.int .i64)) w A0_1 l0_1.length l0_1) (hc0_1 : l0_1.length ≤ c0_1) (hr1_3 : Kd.C (Kd.int .i64) w A1_3 l1_3.length l1_3) (hc1_3 : l1_3.length ≤ c1_3) (h : spec_l04Move.f k a0_0 l0_1 a1_0 a1_1 a1_2 l1_3 = some (r1, r2)) :
  Calls Try.prog 63 #[.agg #[.int .i64 a0_0, .slice A0_1 l0_1.length c0_1], .agg #[.int .i64 a1_0, .int .i64 a1_1, .int .i64 a1_2, .slice A1_3 l1_3.length c1_3]] w fun e w' => ∃ v1_ : Value, e = .returned (.agg #[.int .i64 r1, v1_]) ∧ Kd.N (Kd.slice 2 (Kd.int .i64)) 39 w' w.heap.size (fun k_ => (w.heap.size ≤ k_)) v1_ r2 ∧ Below w.heap.size w w' := by
 by_cases g0 : a1_0 = 2
 ·exact spec_l04Move.calls_0 k a0_0 A0_1 c0_1 l0_1 a1_0 a1_1 a1_2 A1_3 c1_3 l1_3 r1 r2 w hr0_1 hc0_1 hr1_3 hc1_3 h ⟨g0⟩
 by_cases g1 : a1_0 = 1 ∨ a1_0 = 3
 ·exact spec_l04Move.calls_1 k a0_0 A0_1 c0_1 l0_1 a1_0 a1_1 a1_2 A1_3 c1_3 l1_3 r1 r2 w hr0_1 hc0_1 hr1_3 hc1_3 h ⟨g1⟩
 exact spec_l04Move.calls_2 k a0_0 A0_1 c0_1 l0_1 a1_0 a1_1 a1_2 A1_3 c1_3 l1_3 r1 r2 w hr0_1 hc0_1 hr1_3 hc1_3 h ⟨by omega⟩

end Go.Proofs.Ytbcdngjajjgmkaa.PFnSimplify
