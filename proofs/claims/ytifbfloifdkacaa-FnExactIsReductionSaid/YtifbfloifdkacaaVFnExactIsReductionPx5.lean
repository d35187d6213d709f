/- Written by this session's program out of the kit's print and this session's contracts. -/
import Derived.Test.YtifbfloifdkacaaVFnExactIsReductionPx0
import Derived.Test.YtifbfloifdkacaaVFnExactIsReductionPx2
import Derived.Test.YtifbfloifdkacaaVFnExactIsReductionPx4
namespace Go.Proofs.Ytifbfloifdkacaa.PFnExactIsReduction
open Go.RowKit Go.Proofs.YtifbfloifdkacaaW.PrintWords Go.Proofs.YtifbfloifdkacaaW.PrintLast Go.Proofs.YtifbfloifdkacaaW.PrintMore
attribute [local go_sem] max2_int min2_int max_two min_two max_three min_three max_four min_four   -- for this text's walks alone
set_option linter.unusedVariables false
set_option linter.unusedSimpArgs false

/-! ### spec_l02Inverse: function 41 -/
def spec_l02Inverse.j0 : Nat → Int → Bool → Int → Int → List Int → Int → Int → List Int → Option (Bool)
 | 0, _, _, _, _, _, _, _, _ => none
 | k + 1, x2, x30, x178000, x178001, x178002, x179000, x179001, x179002 => if x30 = true then (some false) else ((spec_MultiplyMatrices.f k x179000 x179001 x179002 x178000 x178001 x178002).bind fun bt179 => (if bt179.2.2.2 = 0 then ((spec_l01One.f k x2).bind fun bt186 => ((spec_l02Same.f k bt179.1 bt179.2.1 bt179.2.2.1 bt186.1 bt186.2.1 bt186.2.2).bind fun t191 => (some t191))) else (some false)))
def spec_l02Inverse.f (k : Nat) (a0_0 : Int) (a0_1 : Int) (l0_2 : List Int) (a1_0 : Int) (a1_1 : Int) (l1_2 : List Int) (a2 : Int) : Option (Bool) := if a0_0 = a2 then (if a0_1 = a2 then (if a1_0 = a2 then (spec_l02Inverse.j0 k a2 (a1_1 != a2) a0_0 a0_1 l0_2 a1_0 a1_1 l1_2) else (spec_l02Inverse.j0 k a2 true a0_0 a0_1 l0_2 a1_0 a1_1 l1_2)) else (spec_l02Inverse.j0 k a2 true a0_0 a0_1 l0_2 a1_0 a1_1 l1_2)) else (spec_l02Inverse.j0 k a2 true a0_0 a0_1 l0_2 a1_0 a1_1 l1_2)
theorem spec_l02Inverse.mono_l : ∀ k, (∀ y0 y1 y2 y3 y4 y5 y6 y7, LeO (spec_l02Inverse.j0 k y0 y1 y2 y3 y4 y5 y6 y7) (spec_l02Inverse.j0 (k + 1) y0 y1 y2 y3 y4 y5 y6 y7))
 | 0 => fun _ _ _ _ _ _ _ _ r h => by simp [spec_l02Inverse.j0] at h
 | k + 1 => by
  have ih0 := spec_l02Inverse.mono_l k
  ·intro y0 y1 y2 y3 y4 y5 y6 y7
   unfold spec_l02Inverse.j0
   repeat' first
   | (with_reducible exact ih0 _ _ _ _ _ _ _ _)
   | (with_reducible exact spec_MultiplyMatrices.mono _ _ _ _ _ _ _)
   | (with_reducible exact spec_l01One.mono _ _)
   | (with_reducible exact spec_l02Same.mono _ _ _ _ _ _ _)
   | (with_reducible exact LeO.refl _)
   | (with_reducible exact LeO.none _)
   | (with_reducible refine LeO.ite ?_ ?_)
   | (with_reducible refine LeO.bind ?_ (fun _ => ?_))
   | exact ih0 _ _ _ _ _ _ _ _
   | exact spec_MultiplyMatrices.mono _ _ _ _ _ _ _
   | exact spec_l01One.mono _ _
   | exact spec_l02Same.mono _ _ _ _ _ _ _
   | exact LeO.none _
   | refine LeO.ite ?_ ?_
   | refine LeO.bind ?_ (fun _ => ?_)
theorem spec_l02Inverse.mono : ∀ a0 a1 a2 a3 a4 a5 a6 k, LeO (spec_l02Inverse.f k a0 a1 a2 a3 a4 a5 a6) (spec_l02Inverse.f (k + 1) a0 a1 a2 a3 a4 a5 a6) := by
 intro a0 a1 a2 a3 a4 a5 a6 k
 have ih0 := spec_l02Inverse.mono_l k
 unfold spec_l02Inverse.f
 repeat' first
   | (with_reducible exact ih0 _ _ _ _ _ _ _ _)
   | (with_reducible exact spec_MultiplyMatrices.mono _ _ _ _ _ _ _)
   | (with_reducible exact spec_l01One.mono _ _)
   | (with_reducible exact spec_l02Same.mono _ _ _ _ _ _ _)
   | (with_reducible exact LeO.refl _)
   | (with_reducible exact LeO.none _)
   | (with_reducible refine LeO.ite ?_ ?_)
   | (with_reducible refine LeO.bind ?_ (fun _ => ?_))
   | exact ih0 _ _ _ _ _ _ _ _
   | exact spec_MultiplyMatrices.mono _ _ _ _ _ _ _
   | exact spec_l01One.mono _ _
   | exact spec_l02Same.mono _ _ _ _ _ _ _
   | exact LeO.none _
   | refine LeO.ite ?_ ?_
   | refine LeO.bind ?_ (fun _ => ?_)
def spec_l02Inverse.T4 : Bool × List (List Nat × List Nat) := (true, [([], []), ([0], [0]), ([1], [1]), ([2], [2]), ([2], [2]), ([4, 2, 2], [2, 4]), ([3, 5, 5, 2], [2, 3, 5]), ([2, 6], [2, 6]), ([7, 6, 0, 1, 2, 3, 4, 5, 6, 7], [7])])
def spec_l02Inverse.B4 : List Nat := [0, 1, 3, 7, 7, 23, 63, 127, 255]
theorem spec_l02Inverse.tab4 : rtab .any (opsOf Try.f41 4) = spec_l02Inverse.T4 := by kernel_rfl
theorem spec_l02Inverse.bits4 : waitsOk spec_l02Inverse.T4.2 spec_l02Inverse.B4 = true := by kernel_rfl
set_option maxHeartbeats 8000000 in
set_option maxRecDepth 100000 in
theorem spec_l02Inverse.calls (k : Nat) (a0_0 : Int) (a0_1 : Int) (A0_2 : Option Addr) (c0_2 : Nat) (l0_2 : List Int) (a1_0 : Int) (a1_1 : Int) (A1_2 : Option Addr) (c1_2 : Nat) (l1_2 : List Int) (a2 : Int) (r : Bool) (w : World) (hr0_2 : Kd.C (Kd.int .i64) w A0_2 l0_2.length l0_2) (hc0_2 : l0_2.length ≤ c0_2) (hr1_2 : Kd.C (Kd.int .i64) w A1_2 l1_2.length l1_2) (hc1_2 : l1_2.length ≤ c1_2) (h : spec_l02Inverse.f k a0_0 a0_1 l0_2 a1_0 a1_1 l1_2 a2 = some r) :
  Calls Try.prog 41 #[.agg #[.int .i64 a0_0, .int .i64 a0_1, .slice A0_2 l0_2.length c0_2], .agg #[.int .i64 a1_0, .int .i64 a1_1, .slice A1_2 l1_2.length c1_2], .int .i64 a2] w fun e w' => e = .returned (.bool r) ∧ Below w.heap.size w w' := by
 have hu28 := Try.underlying28
 have HR0_2 := am_ hr0_2
 have HC0_2 := am_ hc0_2
 clear hr0_2 hc0_2
 have HR1_2 := am_ hr1_2
 have HC1_2 := am_ hc1_2
 clear hr1_2 hc1_2
 have HB := am_ (Below.refl w.heap.size w)
 have H : (if a0_0 = a2 then (if a0_1 = a2 then (if a1_0 = a2 then (spec_l02Inverse.j0 k a2 (a1_1 != a2) a0_0 a0_1 l0_2 a1_0 a1_1 l1_2) else (spec_l02Inverse.j0 k a2 true a0_0 a0_1 l0_2 a1_0 a1_1 l1_2)) else (spec_l02Inverse.j0 k a2 true a0_0 a0_1 l0_2 a1_0 a1_1 l1_2)) else (spec_l02Inverse.j0 k a2 true a0_0 a0_1 l0_2 a1_0 a1_1 l1_2)) = some r := h
 clear h
 have HC4 := am_ H
 clear H
 go_enter Try.func41, Try.ntmps41
 go_upto_region 1 with (first | ((with_reducible refine gate_dst (N := 3) rfl ?_); refine box_event ?hg (N := 3) ?hd (cs := #[.int .i64 a0_0, .int .i64 a0_1, .slice A0_2 l0_2.length c0_2]) (t := 28) ?hr ?_; (case hd => rfl); (case hg => rfl); (case hr => first | (go_simp; done) | (go_simp; rfl)); intro gb177 hg w5 hbox hb; have n0_ := am_ (below_step (bb_ HB.out) hb); have n1_ := am_ (hbox); have n2_ := am_ ((by rw [hg]; exact (below_size (bb_ HB.out)) : w.heap.size ≤ gb177)); have n3_ := am_ ((by rw [hg]; exact (below_size (bb_ HB.out)) : w.heap.size ≤ gb177)); clear HB; revert n0_ n1_ n2_ n3_; intro HB BK177 GW177 GE177; clear hb hbox hg) | ((with_reducible refine gate_dst (N := 4) rfl ?_); refine box_event ?hg (N := 4) ?hd (cs := #[.int .i64 a1_0, .int .i64 a1_1, .slice A1_2 l1_2.length c1_2]) (t := 28) ?hr ?_; (case hd => rfl); (case hg => rfl); (case hr => first | (go_simp; done) | (go_simp; rfl)); intro gb178 hg w6 hbox hb; have n0_ := am_ (bw_ BK177 hb); have n1_ := am_ (below_step (bb_ HB.out) hb); have n2_ := am_ (hbox); have n3_ := am_ ((by rw [hg]; exact (below_size (bb_ HB.out)) : w.heap.size ≤ gb178)); have n4_ := am_ ((by rw [hg]; exact (below_size (bb_ HB.out)) : w.heap.size ≤ gb178)); have n5_ := am_ (nl_ BK177 hg); have n6_ := am_ (ng_ BK177 hg); clear BK177 HB; revert n0_ n1_ n2_ n3_ n4_ n5_ n6_; intro BK177 HB BK178 GW178 GE178 NB177_178 NB178_177; clear hb hbox hg))
 (try simp only [Act.put, List.setIfInBounds_toArray, List.set_cons_zero, List.set_cons_succ])
 go_cut [30] (fun v30 wc => ∃ (kq : Nat) (x30_3 : Bool), v30 = .bool x30_3 ∧ Aside0 (spec_l02Inverse.j0 kq a2 x30_3 a0_0 a0_1 l0_2 a1_0 a1_1 l1_2 = some r) ∧ Aside0 (kq ≤ k) ∧ Aside0 (wc.heap[gb177]? = some (.cells #[.int .i64 a0_0, .int .i64 a0_1, (.slice A0_2 l0_2.length c0_2)] 28 (0, 0))) ∧ Aside0 (wc.heap[gb178]? = some (.cells #[.int .i64 a1_0, .int .i64 a1_1, (.slice A1_2 l1_2.length c1_2)] 28 (0, 0))) ∧ Aside0 (Below w.heap.size w wc))
 case first =>
  have H := HC4.out
  clear HC4
  by_cases c7 : a0_0 = a2
  ·rw [if_pos c7] at H
   have c7b0 : (a0_0 == a2) = true := beq_iff_eq.mpr c7
   have c7b1 : (a0_0 != a2) = false := bne_eq_false_iff_eq.mpr c7
   clear c7
   (first | rw [c7b0] | (simp only [i64_w, i32_w]; rw [c7b0]) | skip)
   by_cases c8 : a0_1 = a2
   ·rw [if_pos c8] at H
    have c8b0 : (a0_1 == a2) = true := beq_iff_eq.mpr c8
    have c8b1 : (a0_1 != a2) = false := bne_eq_false_iff_eq.mpr c8
    clear c8
    by_cases c9 : a1_0 = a2
    ·rw [if_pos c9] at H
     have c9b0 : (a1_0 == a2) = true := beq_iff_eq.mpr c9
     have c9b1 : (a1_0 != a2) = false := bne_eq_false_iff_eq.mpr c9
     clear c9
     have H' := am_ H
     clear H
     have hnb10 := NB177_178.out
     have hnc10 := NB178_177.out
     obtain ⟨hcz11_0, hcz11_1, hcz11_2, hfz11_0, hfz11_1, hfz11_2⟩ := bx3_ BK177
     obtain ⟨hcz12_0, hcz12_1, hcz12_2, hfz12_0, hfz12_1, hfz12_2⟩ := bx3_ BK178
     go_wp2
     go_meet
     case rel => exact ⟨_, ((a1_1 != a2)), (by first | rfl | (simp; done) | (simp [*]; done)), H', ⟨by first | omega | exact Nat.le_refl _⟩, ⟨bk_ BK177.out⟩, ⟨bk_ BK178.out⟩, ⟨bb_ HB.out⟩⟩
    ·rw [if_neg c9] at H
     have c9b0 : (a1_0 == a2) = false := beq_eq_false_iff_ne.mpr c9
     have c9b1 : (a1_0 != a2) = true := bne_iff_ne.mpr c9
     have H' := am_ H
     clear H
     have hnb13 := NB177_178.out
     have hnc13 := NB178_177.out
     obtain ⟨hcz14_0, hcz14_1, hcz14_2, hfz14_0, hfz14_1, hfz14_2⟩ := bx3_ BK177
     obtain ⟨hcz15_0, hcz15_1, hcz15_2, hfz15_0, hfz15_1, hfz15_2⟩ := bx3_ BK178
     go_wp2
     go_meet
     case rel => exact ⟨_, (true), (by first | rfl | (simp; done) | (simp [*]; done)), H', ⟨by first | omega | exact Nat.le_refl _⟩, ⟨bk_ BK177.out⟩, ⟨bk_ BK178.out⟩, ⟨bb_ HB.out⟩⟩
   ·rw [if_neg c8] at H
    have c8b0 : (a0_1 == a2) = false := beq_eq_false_iff_ne.mpr c8
    have c8b1 : (a0_1 != a2) = true := bne_iff_ne.mpr c8
    have H' := am_ H
    clear H
    have hnb16 := NB177_178.out
    have hnc16 := NB178_177.out
    obtain ⟨hcz17_0, hcz17_1, hcz17_2, hfz17_0, hfz17_1, hfz17_2⟩ := bx3_ BK177
    go_wp2
    go_meet
    case rel => exact ⟨_, (true), (by first | rfl | (simp; done) | (simp [*]; done)), H', ⟨by first | omega | exact Nat.le_refl _⟩, ⟨bk_ BK177.out⟩, ⟨bk_ BK178.out⟩, ⟨bb_ HB.out⟩⟩
  ·rw [if_neg c7] at H
   have c7b0 : (a0_0 == a2) = false := beq_eq_false_iff_ne.mpr c7
   have c7b1 : (a0_0 != a2) = true := bne_iff_ne.mpr c7
   (first | rw [c7b0] | (simp only [i64_w, i32_w]; rw [c7b0]) | skip)
   have H' := am_ H
   clear H
   have hnb18 := NB177_178.out
   have hnc18 := NB178_177.out
   obtain ⟨hcz19_0, hcz19_1, hcz19_2, hfz19_0, hfz19_1, hfz19_2⟩ := bx3_ BK177
   go_wp2
   go_meet
   case rel => exact ⟨_, (true), (by first | rfl | (simp; done) | (simp [*]; done)), H', ⟨by first | omega | exact Nat.le_refl _⟩, ⟨bk_ BK177.out⟩, ⟨bk_ BK178.out⟩, ⟨bb_ HB.out⟩⟩
 case rest =>
  clear HC4
  try clear c1
  try clear p2
  try clear c4
  try clear c7
  try clear c7b0
  try clear c7b1
  try clear c8
  try clear c8b0
  try clear c8b1
  try clear c9
  try clear c9b0
  try clear c9b1
  try clear c10
  try clear c13
  try clear c16
  try clear c18
  try clear hcz11_0
  try clear hcz11_1
  try clear hcz11_2
  try clear hcz12_0
  try clear hcz12_1
  try clear hcz12_2
  try clear hcz14_0
  try clear hcz14_1
  try clear hcz14_2
  try clear hcz15_0
  try clear hcz15_1
  try clear hcz15_2
  try clear hcz17_0
  try clear hcz17_1
  try clear hcz17_2
  try clear hcz19_0
  try clear hcz19_1
  try clear hcz19_2
  try clear hfz11_0
  try clear hfz11_1
  try clear hfz11_2
  try clear hfz12_0
  try clear hfz12_1
  try clear hfz12_2
  try clear hfz14_0
  try clear hfz14_1
  try clear hfz14_2
  try clear hfz15_0
  try clear hfz15_1
  try clear hfz15_2
  try clear hfz17_0
  try clear hfz17_1
  try clear hfz17_2
  try clear hfz19_0
  try clear hfz19_1
  try clear hfz19_2
  obtain ⟨kq, x30_3, rfl, HA, HJ3, BK177, BK178, HB⟩ := hcut
  cases kq with
  | zero => exact absurd HA.out (by simp [spec_l02Inverse.j0])
  | succ kj3 =>
   have H := HA.out
   clear HA
   simp only [spec_l02Inverse.j0] at H
   by_cases c20 : x30_3 = true
   ·subst c20
    have H1 : (some false) = some r := by rw [if_pos rfl] at H; exact H
    clear H
    have H := H1
    clear H1
    obtain rfl := Option.some.inj H
    go_wp2
    go_ret
    exact ⟨by first | rfl | (simp [errW_none, errW_some] <;> rfl) | (simp [*, errW_none, errW_some] <;> rfl), bb_ HB.out⟩
   ·replace c20 := Bool.eq_false_iff.mpr c20
    subst c20
    have H1 : ((spec_MultiplyMatrices.f kj3 a1_0 a1_1 l1_2 a0_0 a0_1 l0_2).bind fun bt179 => (if bt179.2.2.2 = 0 then ((spec_l01One.f kj3 a2).bind fun bt186 => ((spec_l02Same.f kj3 bt179.1 bt179.2.1 bt179.2.2.1 bt186.1 bt186.2.1 bt186.2.2).bind fun t191 => (some t191))) else (some false))) = some r := by rw [if_neg (show ¬ (false = true) by decide)] at H; exact H
    clear H
    have H := H1
    clear H1
    replace H := Option.bind_eq_some_iff.mp H
    obtain ⟨⟨t179, t180, t181, t184⟩, A210, H⟩ := H
    replace H : (if t184 = 0 then ((spec_l01One.f kj3 a2).bind fun bt186 => ((spec_l02Same.f kj3 t179 t180 t181 bt186.1 bt186.2.1 bt186.2.2).bind fun t191 => (some t191))) else (some false)) = some r := H
    have A21 := am_ A210
    clear A210
    by_cases c22 : t184 = 0
    ·rw [if_pos c22] at H
     have c22b0 : (t184 == 0) = true := beq_iff_eq.mpr c22
     have c22b1 : (t184 != 0) = false := bne_eq_false_iff_eq.mpr c22
     clear c22
     replace H := Option.bind_eq_some_iff.mp H
     obtain ⟨⟨t186, t187, t188⟩, A230, H⟩ := H
     replace H : ((spec_l02Same.f kj3 t179 t180 t181 t186 t187 t188).bind fun t191 => (some t191)) = some r := H
     have A23 := am_ A230
     clear A230
     replace H := Option.bind_eq_some_iff.mp H
     obtain ⟨t191, A240, H⟩ := H
     replace H : (some t191) = some r := H
     have A24 := am_ A240
     clear A240
     obtain rfl := Option.some.inj H
     have hnb25 := NB178_177.out
     have hnc25 := NB177_178.out
     obtain ⟨hcz26_0, hcz26_1, hcz26_2, hfz26_0, hfz26_1, hfz26_2⟩ := bx3_ BK178
     obtain ⟨hcz27_0, hcz27_1, hcz27_2, hfz27_0, hfz27_1, hfz27_2⟩ := bx3_ BK177
     try go_wp2_with (first | ((with_reducible refine gate_callee (f := 14) rfl ?_); refine goesL_ (some 34) rfl rfl Try.func14 (by kernel_rfl) rfl #[.agg #[.int .i64 a1_0, .int .i64 a1_1, .slice A1_2 l1_2.length c1_2], .agg #[.int .i64 a0_0, .int .i64 a0_1, .slice A0_2 l0_2.length c0_2]] rfl lm_ ?_; (with_reducible refine (spec_MultiplyMatrices.calls kj3 a1_0 a1_1 _ _ l1_2 a0_0 a0_1 _ _ l0_2 t179 t180 t181 t184 _ ?side1 ?side2 ?side3 ?side4 A21.out).mono ?_); (case side1 => repeat (first | exact (Kd.C_below HR1_2.out HB.out) | (with_reducible refine Kd.C_alloc ?_ _) | (with_reducible refine Kd.C_drewN ?_ _) | (with_reducible refine Kd.C_drew ?_))); (case side2 => exact HC1_2.out); (case side3 => repeat (first | exact (Kd.C_below HR0_2.out HB.out) | (with_reducible refine Kd.C_alloc ?_ _) | (with_reducible refine Kd.C_drewN ?_ _) | (with_reducible refine Kd.C_drew ?_))); (case side4 => exact HC0_2.out); rintro e w28 ⟨v182, rfl, ho0, hb⟩; refine ⟨_, rfl, ?_⟩; have n0_ := am_ (Kd.R_lower ho0 (below_size (bb_ HB.out))); have n1_ := am_ (bw_ BK177 hb); have n2_ := am_ (bw_ BK178 hb); have n3_ := am_ (below_step (bb_ HB.out) hb); clear BK177 BK178 HB; revert n0_ n1_ n2_ n3_; intro HO183 BK177 BK178 HB; (try clear hb); (try clear hb2); (try clear hk); (try clear hi); (try clear ho0)) | ((with_reducible refine gate_dst (N := 7) rfl ?_); refine box_event ?hg (N := 7) ?hd (cs := #[.int .i64 0, .int .i64 0, .slice none 0 0]) (t := 28) ?hr ?_; (case hd => rfl); (case hg => rfl); (case hr => first | (go_simp; done) | (go_simp; rfl)); intro gb185 hg w29 hbox hb; have n0_ := am_ (Kd.R_below (rk_ HO183.out) hb); have n1_ := am_ (bw_ BK177 hb); have n2_ := am_ (bw_ BK178 hb); have n3_ := am_ (below_step (bb_ HB.out) hb); have n4_ := am_ (hbox); have n5_ := am_ ((by rw [hg]; exact (below_size (bb_ HB.out)) : w.heap.size ≤ gb185)); have n6_ := am_ ((by rw [hg]; exact (below_size (bb_ HB.out)) : w.heap.size ≤ gb185)); have n7_ := am_ (nl_ BK177 hg); have n8_ := am_ (ng_ BK177 hg); have n9_ := am_ (nl_ BK178 hg); have n10_ := am_ (ng_ BK178 hg); clear HO183 BK177 BK178 HB; revert n0_ n1_ n2_ n3_ n4_ n5_ n6_ n7_ n8_ n9_ n10_; intro HO183 BK177 BK178 HB BK185 GW185 GE185 NB177_185 NB185_177 NB178_185 NB185_178; clear hb hbox hg; have hnb30 := NB185_177.out; have hnc30 := NB177_185.out; have hnb31 := NB185_178.out; have hnc31 := NB178_185.out; obtain ⟨hcz32_0, hcz32_1, hcz32_2, hfz32_0, hfz32_1, hfz32_2⟩ := bx3_ BK185; obtain ⟨Ao33, co33, eo33⟩ := Kd.R_slice HO183.out; subst eo33))
     have n0_ : Aside0 (Kd.R (Kd.int .i64) 2 (((w29.setCell ⟨gb185, 0, none⟩ (.int .i64 t179)).setCell ⟨gb185, 1, none⟩ (.int .i64 t180)).setCell ⟨gb185, 2, none⟩ (.slice Ao33 t181.length co33)) w.heap.size (fun _ => True) (.slice Ao33 t181.length co33) t181) := ⟨rm_ (Kd.R_far (p := ⟨gb185, 2, none⟩) (Kd.R_far (p := ⟨gb185, 1, none⟩) (Kd.R_far (p := ⟨gb185, 0, none⟩) (Kd.R_types HO183.out BK185.out (by decide)) (fun _ hk => hk.2) (.int .i64 t179)) (fun _ hk => hk.2) (.int .i64 t180)) (fun _ hk => hk.2) (.slice Ao33 t181.length co33)) (fun _ hk => trivial)⟩
     have n1_ : Aside0 ((((w29.setCell ⟨gb185, 0, none⟩ (.int .i64 t179)).setCell ⟨gb185, 1, none⟩ (.int .i64 t180)).setCell ⟨gb185, 2, none⟩ (.slice Ao33 t181.length co33)).heap[gb177]? = some (.cells #[.int .i64 a0_0, .int .i64 a0_1, .slice A0_2 l0_2.length c0_2] 28 (0, 0))) := ⟨bk_ BK177.out⟩
     have n2_ : Aside0 ((((w29.setCell ⟨gb185, 0, none⟩ (.int .i64 t179)).setCell ⟨gb185, 1, none⟩ (.int .i64 t180)).setCell ⟨gb185, 2, none⟩ (.slice Ao33 t181.length co33)).heap[gb178]? = some (.cells #[.int .i64 a1_0, .int .i64 a1_1, .slice A1_2 l1_2.length c1_2] 28 (0, 0))) := ⟨bk_ BK178.out⟩
     have n3_ : Aside0 ((((w29.setCell ⟨gb185, 0, none⟩ (.int .i64 t179)).setCell ⟨gb185, 1, none⟩ (.int .i64 t180)).setCell ⟨gb185, 2, none⟩ (.slice Ao33 t181.length co33)).heap[gb185]? = some (.cells #[.int .i64 t179, .int .i64 t180, .slice Ao33 t181.length co33] 28 (0, 0))) := ⟨by (with_reducible repeat (first | refine blk_drewN ?_ _ | refine blk_drew ?_ | refine blk_alloc ?_ _)); refine blk_put (cs := #[.int .i64 t179, .int .i64 t180, .slice none 0 0]) ?_ 2 _ rfl; (with_reducible repeat (first | refine blk_drewN ?_ _ | refine blk_drew ?_ | refine blk_alloc ?_ _)); refine blk_put (cs := #[.int .i64 t179, .int .i64 0, .slice none 0 0]) ?_ 1 _ rfl; (with_reducible repeat (first | refine blk_drewN ?_ _ | refine blk_drew ?_ | refine blk_alloc ?_ _)); refine blk_put (cs := #[.int .i64 0, .int .i64 0, .slice none 0 0]) ?_ 0 _ rfl; (with_reducible repeat (first | refine blk_drewN ?_ _ | refine blk_drew ?_ | refine blk_alloc ?_ _)); exact BK185.out⟩
     have n4_ : Aside0 (Below w.heap.size w (((w29.setCell ⟨gb185, 0, none⟩ (.int .i64 t179)).setCell ⟨gb185, 1, none⟩ (.int .i64 t180)).setCell ⟨gb185, 2, none⟩ (.slice Ao33 t181.length co33))) := ⟨bb_ HB.out⟩
     (try clear HO183)
     (try clear BK177)
     (try clear BK178)
     (try clear BK185)
     (try clear HB)
     generalize (((w29.setCell ⟨gb185, 0, none⟩ (.int .i64 t179)).setCell ⟨gb185, 1, none⟩ (.int .i64 t180)).setCell ⟨gb185, 2, none⟩ (.slice Ao33 t181.length co33)) = w34 at n0_ n1_ n2_ n3_ n4_ ⊢
     have HO183 := n0_
     have BK177 := n1_
     have BK178 := n2_
     have BK185 := n3_
     have HB := n4_
     clear n0_ n1_ n2_ n3_ n4_
     have n0_ := am_ (Kd.R_drew HO183.out)
     have n1_ := am_ (blk_drew BK177.out)
     have n2_ := am_ (blk_drew BK178.out)
     have n3_ := am_ (blk_drew BK185.out)
     have n4_ := am_ (below_drew1 HB.out)
     clear HO183 BK177 BK178 BK185 HB; revert n0_ n1_ n2_ n3_ n4_; intro HO183 BK177 BK178 BK185 HB
     refine start_ (n := 9) (S := fun w' => w'.cell? ⟨gb185, 0, none⟩ = some (.int .i64 t179) ∧ w'.cell? ⟨gb185, 1, none⟩ = some (.int .i64 t180) ∧ w'.cell? ⟨gb185, 2, none⟩ = some (.slice Ao33 t181.length co33)) (ds := []) #[false, false, false, false, false, false, false, false, false] (by kernel_rfl) rfl rfl ⟨bc_ BK185 0, bc_ BK185 1, bc_ BK185 2⟩ (fun hHeld => ?_); refine with_tabW spec_l02Inverse.tab4 spec_l02Inverse.bits4 (fun HT_ HW_ => ?_)
     generalize w34.drew = w35 at HO183 BK177 BK178 BK185 HB hHeld ⊢
     refine pure_ (i := 0) (N := some 37) (v := ?_) (a' := ?_) #[true, false, false, false, false, false, false, false, false] rfl rfl (any_of HT_.out (by kernel_rfl)) (fun _ _ _ h => h) (Or.inl ⟨by rfl, ?_⟩) ?_ ?_
     rotate_left
     ·intro w'
      go_simp
      with_reducible rfl
     rotate_left
     ·simp only [Act.put, List.setIfInBounds_toArray, List.set_cons_zero, List.set_cons_succ, i64_w, i32_w]
      rfl
     refine pure_ (i := 1) (N := some 38) (v := ?_) (a' := ?_) #[true, true, false, false, false, false, false, false, false] rfl rfl (any_of HT_.out (by kernel_rfl)) (fun _ _ _ h => h) (Or.inl ⟨by rfl, ?_⟩) ?_ ?_
     rotate_left
     ·intro w'
      go_simp
      with_reducible rfl
     rotate_left
     ·simp only [Act.put, List.setIfInBounds_toArray, List.set_cons_zero, List.set_cons_succ, i64_w, i32_w]
      rfl
     refine pure_ (i := 2) (N := some 39) (v := ?_) (a' := ?_) #[true, true, true, false, false, false, false, false, false] rfl rfl (any_of HT_.out (by kernel_rfl)) (fun _ _ _ h => h) (Or.inl ⟨by rfl, ?_⟩) ?_ ?_
     rotate_left
     ·intro w'
      go_simp
      with_reducible rfl
     rotate_left
     ·simp only [Act.put, List.setIfInBounds_toArray, List.set_cons_zero, List.set_cons_succ, i64_w, i32_w]
      rfl
     refine pure_ (i := 4) (N := some 41) (v := ?_) (a' := ?_) #[true, true, true, false, true, false, false, false, false] rfl rfl (any_of HT_.out (by kernel_rfl)) (fun _ _ _ h => h) (Or.inl ⟨by rfl, ?_⟩) ?_ ?_
     rotate_left
     ·intro w'
      go_simp
      with_reducible rfl
     rotate_left
     ·simp only [Act.put, List.setIfInBounds_toArray, List.set_cons_zero, List.set_cons_succ, i64_w, i32_w]
      rfl
     refine take_ (i := 3) (N := some 40) (v := ?_) (a' := ?_) #[true, true, true, true, true, false, false, false, false] rfl rfl (take_ofW HT_.out HW_.out (by kernel_rfl)) (fun _ _ _ h => h) (Or.inl ⟨by rfl, ?_⟩) hHeld ?_ ?_
     rotate_left
     ·rintro w' ⟨s0, s1, s2⟩
      go_simp
      with_reducible rfl
     rotate_left
     ·simp only [Act.put, List.setIfInBounds_toArray, List.set_cons_zero, List.set_cons_succ, i64_w, i32_w]
      rfl
     refine one_ (i := 5) (N := some 42) #[true, true, true, true, true, true, false, false, false] rfl rfl (one_of HT_.out (by kernel_rfl)) (by decide) (fun K hK => ?_)
     refine goes_ Try.func61 (by kernel_rfl) rfl #[.int .i64 a2] (by rfl) rfl rfl lm_ ?_
     with_reducible refine (spec_l01One.calls kj3 a2 t186 t187 t188 _ A23.out).mono ?_
     rintro e w36 ⟨v189, rfl, ho0, hb⟩
     refine ⟨_, rfl, ?_⟩
     have n0_ := am_ (Kd.R_elder' (rk_ HO183.out) (Kd.R_base ho0) hb)
     have n1_ := am_ (Kd.R_lower (Kd.R_new' ho0 (Kd.R_lt (rk_ HO183.out))) (below_size (bb_ HB.out)))
     have n2_ := am_ (bw_ BK177 hb)
     have n3_ := am_ (bw_ BK178 hb)
     have n4_ := am_ (bw_ BK185 hb)
     have n5_ := am_ (below_step (bb_ HB.out) hb)
     clear HO183 BK177 BK178 BK185 HB; revert n0_ n1_ n2_ n3_ n4_ n5_; intro HO183 HO190 BK177 BK178 BK185 HB
     (try clear hb)
     (try clear hb2)
     (try clear hk)
     (try clear hi)
     (try clear ho0)
     obtain ⟨Ao37, co37, eo37⟩ := Kd.R_slice HO190.out
     (first | subst eo37 | (injection eo37 with f1_ f2_ f3_; have f4_ := f1_.symm; have f5_ := f3_.symm; clear f1_ f2_ f3_; subst f4_; subst f5_))
     refine hK.out _ _ ⟨bc_ BK185 0, bc_ BK185 1, bc_ BK185 2⟩ (fun hHeld => ?_)
     clear hK K
     refine norm_ (a' := ?_) ?_ ?_
     rotate_left
     ·show Act.put _ (some 42) _ = _
      simp only [Act.put, List.setIfInBounds_toArray, List.set_cons_zero, List.set_cons_succ, i64_w, i32_w]
      rfl
     refine one_ (i := 6) (N := some 43) #[true, true, true, true, true, true, true, false, false] rfl rfl (one_of HT_.out (by kernel_rfl)) (by decide) (fun K hK => ?_)
     refine goes_ Try.func43 (by kernel_rfl) rfl #[.agg #[.int .i64 t179, .int .i64 t180, .slice Ao33 t181.length co33], .agg #[.int .i64 t186, .int .i64 t187, .slice Ao37 t188.length co37]] (by rfl) rfl rfl lm_ ?_
     with_reducible refine (spec_l02Same.calls kj3 t179 t180 _ _ t181 t186 t187 _ _ t188 t191 _ ?side1 ?side2 ?side3 ?side4 A24.out).mono ?_
     (case side1 => repeat (first | exact (Kd.R_reads' HO183.out).2.2 | (with_reducible refine Kd.C_alloc ?_ _) | (with_reducible refine Kd.C_drewN ?_ _) | (with_reducible refine Kd.C_drew ?_)))
     (case side2 => exact (Kd.R_reads' HO183.out).2.1)
     (case side3 => repeat (first | exact (Kd.R_reads' HO190.out).2.2 | (with_reducible refine Kd.C_alloc ?_ _) | (with_reducible refine Kd.C_drewN ?_ _) | (with_reducible refine Kd.C_drew ?_)))
     (case side4 => exact (Kd.R_reads' HO190.out).2.1)
     rintro e w38 ⟨rfl, hb⟩
     refine ⟨_, rfl, ?_⟩
     have n0_ := am_ (Kd.R_below (rk_ HO183.out) hb)
     have n1_ := am_ (Kd.R_below (rk_ HO190.out) hb)
     have n2_ := am_ (bw_ BK177 hb)
     have n3_ := am_ (bw_ BK178 hb)
     have n4_ := am_ (bw_ BK185 hb)
     have n5_ := am_ (below_step (bb_ HB.out) hb)
     clear HO183 HO190 BK177 BK178 BK185 HB; revert n0_ n1_ n2_ n3_ n4_ n5_; intro HO183 HO190 BK177 BK178 BK185 HB
     (try clear hb)
     (try clear hb2)
     (try clear hk)
     (try clear hi)
     refine hK.out _ _ ⟨bc_ BK185 0, bc_ BK185 1, bc_ BK185 2⟩ (fun hHeld => ?_)
     clear hK K
     refine norm_ (a' := ?_) ?_ ?_
     rotate_left
     ·show Act.put _ (some 43) _ = _
      simp only [Act.put, List.setIfInBounds_toArray, List.set_cons_zero, List.set_cons_succ, i64_w, i32_w]
      rfl
     refine pure_ (i := 7) (N := some 44) (v := ?_) (a' := ?_) #[true, true, true, true, true, true, true, true, false] rfl rfl (any_of HT_.out (by kernel_rfl)) (fun _ _ _ h => h) (Or.inl ⟨by rfl, ?_⟩) ?_ ?_
     rotate_left
     ·intro w'
      go_simp
      with_reducible rfl
     rotate_left
     ·simp only [Act.put, List.setIfInBounds_toArray, List.set_cons_zero, List.set_cons_succ, i64_w, i32_w]
      rfl
     refine pure_ (i := 8) (N := some 6) (v := ?_) (a' := ?_) #[true, true, true, true, true, true, true, true, true] rfl rfl (any_of HT_.out (by kernel_rfl)) (fun _ _ _ h => h) (Or.inl ⟨by rfl, ?_⟩) ?_ ?_
     rotate_left
     ·intro w'
      go_simp
      with_reducible rfl
     rotate_left
     ·simp only [Act.put, List.setIfInBounds_toArray, List.set_cons_zero, List.set_cons_succ, i64_w, i32_w]
      rfl
     refine done_ (done_of HT_.out (by kernel_rfl)) ?_
     try go_wp2
     go_ret
     exact ⟨by first | rfl | (simp [errW_none, errW_some] <;> rfl) | (simp [*, errW_none, errW_some] <;> rfl), bb_ HB.out⟩
    ·rw [if_neg c22] at H
     have c22b0 : (t184 == 0) = false := beq_eq_false_iff_ne.mpr c22
     have c22b1 : (t184 != 0) = true := bne_iff_ne.mpr c22
     obtain rfl := Option.some.inj H
     have hnb39 := NB178_177.out
     have hnc39 := NB177_178.out
     obtain ⟨hcz40_0, hcz40_1, hcz40_2, hfz40_0, hfz40_1, hfz40_2⟩ := bx3_ BK178
     obtain ⟨hcz41_0, hcz41_1, hcz41_2, hfz41_0, hfz41_1, hfz41_2⟩ := bx3_ BK177
     try go_wp2_with (first | ((with_reducible refine gate_callee (f := 14) rfl ?_); refine goesL_ (some 34) rfl rfl Try.func14 (by kernel_rfl) rfl #[.agg #[.int .i64 a1_0, .int .i64 a1_1, .slice A1_2 l1_2.length c1_2], .agg #[.int .i64 a0_0, .int .i64 a0_1, .slice A0_2 l0_2.length c0_2]] rfl lm_ ?_; (with_reducible refine (spec_MultiplyMatrices.calls kj3 a1_0 a1_1 _ _ l1_2 a0_0 a0_1 _ _ l0_2 t179 t180 t181 t184 _ ?side1 ?side2 ?side3 ?side4 A21.out).mono ?_); (case side1 => repeat (first | exact (Kd.C_below HR1_2.out HB.out) | (with_reducible refine Kd.C_alloc ?_ _) | (with_reducible refine Kd.C_drewN ?_ _) | (with_reducible refine Kd.C_drew ?_))); (case side2 => exact HC1_2.out); (case side3 => repeat (first | exact (Kd.C_below HR0_2.out HB.out) | (with_reducible refine Kd.C_alloc ?_ _) | (with_reducible refine Kd.C_drewN ?_ _) | (with_reducible refine Kd.C_drew ?_))); (case side4 => exact HC0_2.out); rintro e w42 ⟨v182, rfl, ho0, hb⟩; refine ⟨_, rfl, ?_⟩; have n0_ := am_ (Kd.R_lower ho0 (below_size (bb_ HB.out))); have n1_ := am_ (bw_ BK177 hb); have n2_ := am_ (bw_ BK178 hb); have n3_ := am_ (below_step (bb_ HB.out) hb); clear BK177 BK178 HB; revert n0_ n1_ n2_ n3_; intro HO183 BK177 BK178 HB; (try clear hb); (try clear hb2); (try clear hk); (try clear hi); (try clear ho0)) | ((with_reducible refine gate_dst (N := 7) rfl ?_); refine box_event ?hg (N := 7) ?hd (cs := #[.int .i64 0, .int .i64 0, .slice none 0 0]) (t := 28) ?hr ?_; (case hd => rfl); (case hg => rfl); (case hr => first | (go_simp; done) | (go_simp; rfl)); intro gb185 hg w43 hbox hb; have n0_ := am_ (Kd.R_below (rk_ HO183.out) hb); have n1_ := am_ (bw_ BK177 hb); have n2_ := am_ (bw_ BK178 hb); have n3_ := am_ (below_step (bb_ HB.out) hb); have n4_ := am_ (hbox); have n5_ := am_ ((by rw [hg]; exact (below_size (bb_ HB.out)) : w.heap.size ≤ gb185)); have n6_ := am_ ((by rw [hg]; exact (below_size (bb_ HB.out)) : w.heap.size ≤ gb185)); have n7_ := am_ (nl_ BK177 hg); have n8_ := am_ (ng_ BK177 hg); have n9_ := am_ (nl_ BK178 hg); have n10_ := am_ (ng_ BK178 hg); clear HO183 BK177 BK178 HB; revert n0_ n1_ n2_ n3_ n4_ n5_ n6_ n7_ n8_ n9_ n10_; intro HO183 BK177 BK178 HB BK185 GW185 GE185 NB177_185 NB185_177 NB178_185 NB185_178; clear hb hbox hg; have hnb44 := NB185_177.out; have hnc44 := NB177_185.out; have hnb45 := NB185_178.out; have hnc45 := NB178_185.out; obtain ⟨hcz46_0, hcz46_1, hcz46_2, hfz46_0, hfz46_1, hfz46_2⟩ := bx3_ BK185; obtain ⟨Ao47, co47, eo47⟩ := Kd.R_slice HO183.out; subst eo47))
     have n0_ : Aside0 (Kd.R (Kd.int .i64) 2 (((w43.setCell ⟨gb185, 0, none⟩ (.int .i64 t179)).setCell ⟨gb185, 1, none⟩ (.int .i64 t180)).setCell ⟨gb185, 2, none⟩ (.slice Ao47 t181.length co47)) w.heap.size (fun _ => True) (.slice Ao47 t181.length co47) t181) := ⟨rm_ (Kd.R_far (p := ⟨gb185, 2, none⟩) (Kd.R_far (p := ⟨gb185, 1, none⟩) (Kd.R_far (p := ⟨gb185, 0, none⟩) (Kd.R_types HO183.out BK185.out (by decide)) (fun _ hk => hk.2) (.int .i64 t179)) (fun _ hk => hk.2) (.int .i64 t180)) (fun _ hk => hk.2) (.slice Ao47 t181.length co47)) (fun _ hk => trivial)⟩
     have n1_ : Aside0 ((((w43.setCell ⟨gb185, 0, none⟩ (.int .i64 t179)).setCell ⟨gb185, 1, none⟩ (.int .i64 t180)).setCell ⟨gb185, 2, none⟩ (.slice Ao47 t181.length co47)).heap[gb177]? = some (.cells #[.int .i64 a0_0, .int .i64 a0_1, .slice A0_2 l0_2.length c0_2] 28 (0, 0))) := ⟨bk_ BK177.out⟩
     have n2_ : Aside0 ((((w43.setCell ⟨gb185, 0, none⟩ (.int .i64 t179)).setCell ⟨gb185, 1, none⟩ (.int .i64 t180)).setCell ⟨gb185, 2, none⟩ (.slice Ao47 t181.length co47)).heap[gb178]? = some (.cells #[.int .i64 a1_0, .int .i64 a1_1, .slice A1_2 l1_2.length c1_2] 28 (0, 0))) := ⟨bk_ BK178.out⟩
     have n3_ : Aside0 ((((w43.setCell ⟨gb185, 0, none⟩ (.int .i64 t179)).setCell ⟨gb185, 1, none⟩ (.int .i64 t180)).setCell ⟨gb185, 2, none⟩ (.slice Ao47 t181.length co47)).heap[gb185]? = some (.cells #[.int .i64 t179, .int .i64 t180, .slice Ao47 t181.length co47] 28 (0, 0))) := ⟨by (with_reducible repeat (first | refine blk_drewN ?_ _ | refine blk_drew ?_ | refine blk_alloc ?_ _)); refine blk_put (cs := #[.int .i64 t179, .int .i64 t180, .slice none 0 0]) ?_ 2 _ rfl; (with_reducible repeat (first | refine blk_drewN ?_ _ | refine blk_drew ?_ | refine blk_alloc ?_ _)); refine blk_put (cs := #[.int .i64 t179, .int .i64 0, .slice none 0 0]) ?_ 1 _ rfl; (with_reducible repeat (first | refine blk_drewN ?_ _ | refine blk_drew ?_ | refine blk_alloc ?_ _)); refine blk_put (cs := #[.int .i64 0, .int .i64 0, .slice none 0 0]) ?_ 0 _ rfl; (with_reducible repeat (first | refine blk_drewN ?_ _ | refine blk_drew ?_ | refine blk_alloc ?_ _)); exact BK185.out⟩
     have n4_ : Aside0 (Below w.heap.size w (((w43.setCell ⟨gb185, 0, none⟩ (.int .i64 t179)).setCell ⟨gb185, 1, none⟩ (.int .i64 t180)).setCell ⟨gb185, 2, none⟩ (.slice Ao47 t181.length co47))) := ⟨bb_ HB.out⟩
     (try clear HO183)
     (try clear BK177)
     (try clear BK178)
     (try clear BK185)
     (try clear HB)
     generalize (((w43.setCell ⟨gb185, 0, none⟩ (.int .i64 t179)).setCell ⟨gb185, 1, none⟩ (.int .i64 t180)).setCell ⟨gb185, 2, none⟩ (.slice Ao47 t181.length co47)) = w48 at n0_ n1_ n2_ n3_ n4_ ⊢
     have HO183 := n0_
     have BK177 := n1_
     have BK178 := n2_
     have BK185 := n3_
     have HB := n4_
     clear n0_ n1_ n2_ n3_ n4_
     have n0_ := am_ (Kd.R_drew HO183.out)
     have n1_ := am_ (blk_drew BK177.out)
     have n2_ := am_ (blk_drew BK178.out)
     have n3_ := am_ (blk_drew BK185.out)
     have n4_ := am_ (below_drew1 HB.out)
     clear HO183 BK177 BK178 BK185 HB; revert n0_ n1_ n2_ n3_ n4_; intro HO183 BK177 BK178 BK185 HB
     refine start_ (n := 9) (S := fun w' => True) (ds := []) #[false, false, false, false, false, false, false, false, false] (by kernel_rfl) rfl rfl trivial (fun hHeld => ?_); refine with_tabW spec_l02Inverse.tab4 spec_l02Inverse.bits4 (fun HT_ HW_ => ?_)
     generalize w48.drew = w49 at HO183 BK177 BK178 BK185 HB hHeld ⊢
     refine pure_ (i := 0) (N := some 37) (v := ?_) (a' := ?_) #[true, false, false, false, false, false, false, false, false] rfl rfl (any_of HT_.out (by kernel_rfl)) (fun _ _ _ h => h) (Or.inl ⟨by rfl, ?_⟩) ?_ ?_
     rotate_left
     ·intro w'
      go_simp
      with_reducible rfl
     rotate_left
     ·simp only [Act.put, List.setIfInBounds_toArray, List.set_cons_zero, List.set_cons_succ, i64_w, i32_w]
      rfl
     refine pure_ (i := 1) (N := some 38) (v := ?_) (a' := ?_) #[true, true, false, false, false, false, false, false, false] rfl rfl (any_of HT_.out (by kernel_rfl)) (fun _ _ _ h => h) (Or.inl ⟨by rfl, ?_⟩) ?_ ?_
     rotate_left
     ·intro w'
      go_simp
      with_reducible rfl
     rotate_left
     ·simp only [Act.put, List.setIfInBounds_toArray, List.set_cons_zero, List.set_cons_succ, i64_w, i32_w]
      rfl
     refine pure_ (i := 2) (N := some 39) (v := ?_) (a' := ?_) #[true, true, true, false, false, false, false, false, false] rfl rfl (any_of HT_.out (by kernel_rfl)) (fun _ _ _ h => h) (Or.inl ⟨by rfl, ?_⟩) ?_ ?_
     rotate_left
     ·intro w'
      go_simp
      with_reducible rfl
     rotate_left
     ·simp only [Act.put, List.setIfInBounds_toArray, List.set_cons_zero, List.set_cons_succ, i64_w, i32_w]
      rfl
     refine pure_ (i := 3) (N := some 40) (v := undef) (a' := ?_) #[true, true, true, true, false, false, false, false, false] rfl rfl (any_of HT_.out (by kernel_rfl)) (fun _ _ _ h => h) (Or.inr ⟨by rfl, rfl⟩) ?_ ?_
     rotate_left
     ·simp only [Act.put, List.setIfInBounds_toArray, List.set_cons_zero, List.set_cons_succ, i64_w, i32_w]
      rfl
     refine pure_ (i := 4) (N := some 41) (v := undef) (a' := ?_) #[true, true, true, true, true, false, false, false, false] rfl rfl (any_of HT_.out (by kernel_rfl)) (fun _ _ _ h => h) (Or.inr ⟨by rfl, rfl⟩) ?_ ?_
     rotate_left
     ·simp only [Act.put, List.setIfInBounds_toArray, List.set_cons_zero, List.set_cons_succ, i64_w, i32_w]
      rfl
     refine pure_ (i := 5) (N := some 42) (v := undef) (a' := ?_) #[true, true, true, true, true, true, false, false, false] rfl rfl (any_of HT_.out (by kernel_rfl)) (fun _ _ _ h => h) (Or.inr ⟨by rfl, rfl⟩) ?_ ?_
     rotate_left
     ·simp only [Act.put, List.setIfInBounds_toArray, List.set_cons_zero, List.set_cons_succ, i64_w, i32_w]
      rfl
     refine pure_ (i := 6) (N := some 43) (v := undef) (a' := ?_) #[true, true, true, true, true, true, true, false, false] rfl rfl (any_of HT_.out (by kernel_rfl)) (fun _ _ _ h => h) (Or.inr ⟨by rfl, rfl⟩) ?_ ?_
     rotate_left
     ·simp only [Act.put, List.setIfInBounds_toArray, List.set_cons_zero, List.set_cons_succ, i64_w, i32_w]
      rfl
     refine pure_ (i := 7) (N := some 44) (v := ?_) (a' := ?_) #[true, true, true, true, true, true, true, true, false] rfl rfl (any_of HT_.out (by kernel_rfl)) (fun _ _ _ h => h) (Or.inl ⟨by rfl, ?_⟩) ?_ ?_
     rotate_left
     ·intro w'
      go_simp
      with_reducible rfl
     rotate_left
     ·simp only [Act.put, List.setIfInBounds_toArray, List.set_cons_zero, List.set_cons_succ, i64_w, i32_w]
      rfl
     refine pure_ (i := 8) (N := some 6) (v := ?_) (a' := ?_) #[true, true, true, true, true, true, true, true, true] rfl rfl (any_of HT_.out (by kernel_rfl)) (fun _ _ _ h => h) (Or.inl ⟨by rfl, ?_⟩) ?_ ?_
     rotate_left
     ·intro w'
      go_simp
      with_reducible rfl
     rotate_left
     ·simp only [Act.put, List.setIfInBounds_toArray, List.set_cons_zero, List.set_cons_succ, i64_w, i32_w]
      rfl
     refine done_ (done_of HT_.out (by kernel_rfl)) ?_
     try go_wp2
     go_ret
     exact ⟨by first | rfl | (simp [errW_none, errW_some] <;> rfl) | (simp [*, errW_none, errW_some] <;> rfl), bb_ HB.out⟩

/-! ### spec_l02Diagonal: function 42 -/
mutual
def spec_l02Diagonal.l0 : Nat → Int → Int → Int → List Int → Option (Bool)
 | 0, _, _, _, _ => none
 | k + 1, x3, x193000, x193001, x193002 => if x3 < x193000 then (spec_l02Diagonal.l1 k x3 0 x193000 x193001 x193002) else (some true)
def spec_l02Diagonal.l1 : Nat → Int → Int → Int → Int → List Int → Option (Bool)
 | 0, _, _, _, _, _ => none
 | k + 1, x3, x4, x193000, x193001, x193002 => if x4 < x193001 then ((spec_l01At.f x193000 x193001 x193002 x3 x4).bind fun t193 => (if x3 = x4 then (spec_l02Diagonal.j2 k x3 x4 t193 (decide (t193 < 0)) x193000 x193001 x193002) else (if t193 = 0 then (spec_l02Diagonal.j2 k x3 x4 t193 (decide (t193 < 0)) x193000 x193001 x193002) else (spec_l02Diagonal.j2 k x3 x4 t193 true x193000 x193001 x193002)))) else (spec_l02Diagonal.l0 k (wrap64 (x3 + 1)) x193000 x193001 x193002)
def spec_l02Diagonal.j2 : Nat → Int → Int → Int → Bool → Int → Int → List Int → Option (Bool)
 | 0, _, _, _, _, _, _, _ => none
 | k + 1, x3, x4, x5, x33, x193000, x193001, x193002 => if x33 = true then (some false) else (if x3 = x4 then (if x3 > 0 then (spec_l02Diagonal.j3 k x3 x4 x5 (x5 != 0) x193000 x193001 x193002) else (spec_l02Diagonal.j3 k x3 x4 x5 false x193000 x193001 x193002)) else (spec_l02Diagonal.j3 k x3 x4 x5 false x193000 x193001 x193002))
def spec_l02Diagonal.j3 : Nat → Int → Int → Int → Bool → Int → Int → List Int → Option (Bool)
 | 0, _, _, _, _, _, _, _ => none
 | k + 1, x3, x4, x5, x44, x193000, x193001, x193002 => if x44 = true then ((spec_l01At.f x193000 x193001 x193002 (wrap64 (x3 - 1)) (wrap64 (x3 - 1))).bind fun t194 => (if t194 = 0 then (some false) else (if (Int.tmod x5 t194) = 0 then (spec_l02Diagonal.l1 k x3 (wrap64 (x4 + 1)) x193000 x193001 x193002) else (some false)))) else (spec_l02Diagonal.l1 k x3 (wrap64 (x4 + 1)) x193000 x193001 x193002)
end
def spec_l02Diagonal.f (k : Nat) (a0_0 : Int) (a0_1 : Int) (l0_2 : List Int) : Option (Bool) := spec_l02Diagonal.l0 k 0 a0_0 a0_1 l0_2
theorem spec_l02Diagonal.mono_l : ∀ k, (∀ y0 y1 y2 y3, LeO (spec_l02Diagonal.l0 k y0 y1 y2 y3) (spec_l02Diagonal.l0 (k + 1) y0 y1 y2 y3)) ∧ (∀ y0 y1 y2 y3 y4, LeO (spec_l02Diagonal.l1 k y0 y1 y2 y3 y4) (spec_l02Diagonal.l1 (k + 1) y0 y1 y2 y3 y4)) ∧ (∀ y0 y1 y2 y3 y4 y5 y6, LeO (spec_l02Diagonal.j2 k y0 y1 y2 y3 y4 y5 y6) (spec_l02Diagonal.j2 (k + 1) y0 y1 y2 y3 y4 y5 y6)) ∧ (∀ y0 y1 y2 y3 y4 y5 y6, LeO (spec_l02Diagonal.j3 k y0 y1 y2 y3 y4 y5 y6) (spec_l02Diagonal.j3 (k + 1) y0 y1 y2 y3 y4 y5 y6))
 | 0 => ⟨fun _ _ _ _ r h => by simp [spec_l02Diagonal.l0] at h, fun _ _ _ _ _ r h => by simp [spec_l02Diagonal.l1] at h, fun _ _ _ _ _ _ _ r h => by simp [spec_l02Diagonal.j2] at h, fun _ _ _ _ _ _ _ r h => by simp [spec_l02Diagonal.j3] at h⟩
 | k + 1 => by
  obtain ⟨ih0, ih1, ih2, ih3⟩ := spec_l02Diagonal.mono_l k
  refine ⟨?_, ?_, ?_, ?_⟩
  ·intro y0 y1 y2 y3
   unfold spec_l02Diagonal.l0
   repeat' first
   | (with_reducible exact ih0 _ _ _ _)
   | (with_reducible exact ih1 _ _ _ _ _)
   | (with_reducible exact ih2 _ _ _ _ _ _ _)
   | (with_reducible exact ih3 _ _ _ _ _ _ _)
   | (with_reducible exact LeO.refl _)
   | (with_reducible exact LeO.none _)
   | (with_reducible refine LeO.ite ?_ ?_)
   | (with_reducible refine LeO.bind ?_ (fun _ => ?_))
   | exact ih0 _ _ _ _
   | exact ih1 _ _ _ _ _
   | exact ih2 _ _ _ _ _ _ _
   | exact ih3 _ _ _ _ _ _ _
   | exact LeO.none _
   | refine LeO.ite ?_ ?_
   | refine LeO.bind ?_ (fun _ => ?_)
  ·intro y0 y1 y2 y3 y4
   unfold spec_l02Diagonal.l1
   repeat' first
   | (with_reducible exact ih0 _ _ _ _)
   | (with_reducible exact ih1 _ _ _ _ _)
   | (with_reducible exact ih2 _ _ _ _ _ _ _)
   | (with_reducible exact ih3 _ _ _ _ _ _ _)
   | (with_reducible exact LeO.refl _)
   | (with_reducible exact LeO.none _)
   | (with_reducible refine LeO.ite ?_ ?_)
   | (with_reducible refine LeO.bind ?_ (fun _ => ?_))
   | exact ih0 _ _ _ _
   | exact ih1 _ _ _ _ _
   | exact ih2 _ _ _ _ _ _ _
   | exact ih3 _ _ _ _ _ _ _
   | exact LeO.none _
   | refine LeO.ite ?_ ?_
   | refine LeO.bind ?_ (fun _ => ?_)
  ·intro y0 y1 y2 y3 y4 y5 y6
   unfold spec_l02Diagonal.j2
   repeat' first
   | (with_reducible exact ih0 _ _ _ _)
   | (with_reducible exact ih1 _ _ _ _ _)
   | (with_reducible exact ih2 _ _ _ _ _ _ _)
   | (with_reducible exact ih3 _ _ _ _ _ _ _)
   | (with_reducible exact LeO.refl _)
   | (with_reducible exact LeO.none _)
   | (with_reducible refine LeO.ite ?_ ?_)
   | (with_reducible refine LeO.bind ?_ (fun _ => ?_))
   | exact ih0 _ _ _ _
   | exact ih1 _ _ _ _ _
   | exact ih2 _ _ _ _ _ _ _
   | exact ih3 _ _ _ _ _ _ _
   | exact LeO.none _
   | refine LeO.ite ?_ ?_
   | refine LeO.bind ?_ (fun _ => ?_)
  ·intro y0 y1 y2 y3 y4 y5 y6
   unfold spec_l02Diagonal.j3
   repeat' first
   | (with_reducible exact ih0 _ _ _ _)
   | (with_reducible exact ih1 _ _ _ _ _)
   | (with_reducible exact ih2 _ _ _ _ _ _ _)
   | (with_reducible exact ih3 _ _ _ _ _ _ _)
   | (with_reducible exact LeO.refl _)
   | (with_reducible exact LeO.none _)
   | (with_reducible refine LeO.ite ?_ ?_)
   | (with_reducible refine LeO.bind ?_ (fun _ => ?_))
   | exact ih0 _ _ _ _
   | exact ih1 _ _ _ _ _
   | exact ih2 _ _ _ _ _ _ _
   | exact ih3 _ _ _ _ _ _ _
   | exact LeO.none _
   | refine LeO.ite ?_ ?_
   | refine LeO.bind ?_ (fun _ => ?_)
theorem spec_l02Diagonal.mono : ∀ a0 a1 a2 k, LeO (spec_l02Diagonal.f k a0 a1 a2) (spec_l02Diagonal.f (k + 1) a0 a1 a2) := by
 intro a0 a1 a2 k
 obtain ⟨ih0, ih1, ih2, ih3⟩ := spec_l02Diagonal.mono_l k
 unfold spec_l02Diagonal.f
 repeat' first
   | (with_reducible exact ih0 _ _ _ _)
   | (with_reducible exact ih1 _ _ _ _ _)
   | (with_reducible exact ih2 _ _ _ _ _ _ _)
   | (with_reducible exact ih3 _ _ _ _ _ _ _)
   | (with_reducible exact LeO.refl _)
   | (with_reducible exact LeO.none _)
   | (with_reducible refine LeO.ite ?_ ?_)
   | (with_reducible refine LeO.bind ?_ (fun _ => ?_))
   | exact ih0 _ _ _ _
   | exact ih1 _ _ _ _ _
   | exact ih2 _ _ _ _ _ _ _
   | exact ih3 _ _ _ _ _ _ _
   | exact LeO.none _
   | refine LeO.ite ?_ ?_
   | refine LeO.bind ?_ (fun _ => ?_)
set_option maxHeartbeats 8000000 in
set_option maxRecDepth 100000 in
theorem spec_l02Diagonal.calls (k : Nat) (a0_0 : Int) (a0_1 : Int) (A0_2 : Option Addr) (c0_2 : Nat) (l0_2 : List Int) (r : Bool) (w : World) (hr0_2 : Kd.C (Kd.int .i64) w A0_2 l0_2.length l0_2) (hc0_2 : l0_2.length ≤ c0_2) (h : spec_l02Diagonal.f k a0_0 a0_1 l0_2 = some r) :
  Calls Try.prog 42 #[.agg #[.int .i64 a0_0, .int .i64 a0_1, .slice A0_2 l0_2.length c0_2]] w fun e w' => e = .returned (.bool r) ∧ Below w.heap.size w w' := by
 have hu28 := Try.underlying28
 have HR0_2 := am_ hr0_2
 have HC0_2 := am_ hc0_2
 clear hr0_2 hc0_2
 have HB := am_ (Below.refl w.heap.size w)
 have H : (spec_l02Diagonal.l0 k 0 a0_0 a0_1 l0_2) = some r := h
 clear h
 have H' := am_ H
 clear H
 go_enter Try.func42, Try.ntmps42
 go_wp2_with (first | ((with_reducible refine gate_dst (N := 1) rfl ?_); refine box_event ?hg (N := 1) ?hd (cs := #[.int .i64 a0_0, .int .i64 a0_1, .slice A0_2 l0_2.length c0_2]) (t := 28) ?hr ?_; (case hd => rfl); (case hg => rfl); (case hr => first | (go_simp; done) | (go_simp; rfl)); intro gb192 hg w2 hbox hb; have n0_ := am_ (below_step (bb_ HB.out) hb); have n1_ := am_ (hbox); have n2_ := am_ ((by rw [hg]; exact (below_size (bb_ HB.out)) : w.heap.size ≤ gb192)); have n3_ := am_ ((by rw [hg]; exact (below_size (bb_ HB.out)) : w.heap.size ≤ gb192)); clear HB; revert n0_ n1_ n2_ n3_; intro HB BK192 GW192 GE192; clear hb hbox hg))
 go_loopg [3] k (fun kq v3 w' => ∃ (x3_1 : Int), v3 = .int .i64 x3_1 ∧ Aside0 (spec_l02Diagonal.l0 kq x3_1 a0_0 a0_1 l0_2 = some r) ∧ Aside0 (kq ≤ k) ∧ Aside0 (w'.heap[gb192]? = some (.cells #[.int .i64 a0_0, .int .i64 a0_1, (.slice A0_2 l0_2.length c0_2)] 28 (0, 0))) ∧ Aside0 (Below w.heap.size w w'))
 case atStart => exact ⟨(0), (by first | rfl | (simp; done) | (simp [*]; done)), H', ⟨Nat.le_refl _⟩, ⟨bk_ BK192.out⟩, ⟨bb_ HB.out⟩⟩
 case round =>
  clear H'
  try clear p2
  obtain ⟨x3_1, rfl, HA, HK1, BK192, HB⟩ := hrel
  cases gk with
  | zero => exact absurd HA.out (by simp [spec_l02Diagonal.l0])
  | succ k1 =>
   have H := HA.out
   clear HA
   simp only [spec_l02Diagonal.l0] at H
   by_cases c3 : x3_1 < a0_0
   ·rw [if_pos c3] at H
    have c3b0 : decide (x3_1 < a0_0) = true := decide_eq_true c3
    clear c3
    have H' := am_ H
    clear H
    obtain ⟨hcz4_0, hcz4_1, hcz4_2, hfz4_0, hfz4_1, hfz4_2⟩ := bx3_ BK192
    go_wp2
    go_loopg [4] k1 (fun kq v4 w' => ∃ (x4_2 : Int), v4 = .int .i64 x4_2 ∧ Aside0 (spec_l02Diagonal.l1 kq x3_1 x4_2 a0_0 a0_1 l0_2 = some r) ∧ Aside0 (kq ≤ k1) ∧ Aside0 (w'.heap[gb192]? = some (.cells #[.int .i64 a0_0, .int .i64 a0_1, (.slice A0_2 l0_2.length c0_2)] 28 (0, 0))) ∧ Aside0 (Below w.heap.size w w'))
    case atStart => exact ⟨(0), (by first | rfl | (simp; done) | (simp [*]; done)), H', ⟨Nat.le_refl _⟩, ⟨bk_ BK192.out⟩, ⟨bb_ HB.out⟩⟩
    case round =>
     clear H'
     try clear p2
     try clear c3
     try clear c3b0
     try clear c4
     try clear hcz4_0
     try clear hcz4_1
     try clear hcz4_2
     try clear hfz4_0
     try clear hfz4_1
     try clear hfz4_2
     try clear p2
     obtain ⟨x4_2, rfl, HA, HK2, BK192, HB⟩ := hrel
     cases gk with
     | zero => exact absurd HA.out (by simp [spec_l02Diagonal.l1])
     | succ k2 =>
      have H := HA.out
      clear HA
      simp only [spec_l02Diagonal.l1] at H
      by_cases c5 : x4_2 < a0_1
      ·rw [if_pos c5] at H
       have c5b0 : decide (x4_2 < a0_1) = true := decide_eq_true c5
       clear c5
       replace H := Option.bind_eq_some_iff.mp H
       obtain ⟨t193, A60, H⟩ := H
       replace H : (if x3_1 = x4_2 then (spec_l02Diagonal.j2 k2 x3_1 x4_2 t193 (decide (t193 < 0)) a0_0 a0_1 l0_2) else (if t193 = 0 then (spec_l02Diagonal.j2 k2 x3_1 x4_2 t193 (decide (t193 < 0)) a0_0 a0_1 l0_2) else (spec_l02Diagonal.j2 k2 x3_1 x4_2 t193 true a0_0 a0_1 l0_2))) = some r := H
       have A6 := am_ A60
       clear A60
       have HC7 := am_ H
       clear H
       obtain ⟨hcz8_0, hcz8_1, hcz8_2, hfz8_0, hfz8_1, hfz8_2⟩ := bx3_ BK192
       go_upto_region 8 with (first | ((with_reducible refine gate_callee (f := 49) rfl ?_); refine goesL_ (some 22) rfl rfl Try.func49 (by kernel_rfl) rfl #[.agg #[.int .i64 a0_0, .int .i64 a0_1, .slice A0_2 l0_2.length c0_2], .int .i64 x3_1, .int .i64 x4_2] rfl lm_ ?_; (with_reducible refine (spec_l01At.calls a0_0 a0_1 _ _ l0_2 x3_1 x4_2 t193 _ ?side1 ?side2 A6.out).mono ?_); (case side1 => repeat (first | exact (Kd.C_below HR0_2.out HB.out) | (with_reducible refine Kd.C_alloc ?_ _) | (with_reducible refine Kd.C_drewN ?_ _) | (with_reducible refine Kd.C_drew ?_))); (case side2 => exact HC0_2.out); rintro e w9 ⟨rfl, hb⟩; refine ⟨_, rfl, ?_⟩; have n0_ := am_ (bw_ BK192 hb); have n1_ := am_ (below_step (bb_ HB.out) hb); clear BK192 HB; revert n0_ n1_; intro BK192 HB; (try clear hb); (try clear hb2); (try clear hk); (try clear hi)))
       (try simp only [Act.put, List.setIfInBounds_toArray, List.set_cons_zero, List.set_cons_succ])
       go_cut [33] (fun v33 wc => ∃ (kq : Nat) (x33_6 : Bool), v33 = .bool x33_6 ∧ Aside0 (spec_l02Diagonal.j2 kq x3_1 x4_2 t193 x33_6 a0_0 a0_1 l0_2 = some r) ∧ Aside0 (kq ≤ k2) ∧ Aside0 (wc.heap[gb192]? = some (.cells #[.int .i64 a0_0, .int .i64 a0_1, (.slice A0_2 l0_2.length c0_2)] 28 (0, 0))) ∧ Aside0 (Below w.heap.size w wc))
       case first =>
        have H := HC7.out
        clear HC7
        by_cases c10 : x3_1 = x4_2
        ·rw [if_pos c10] at H
         have c10b0 : (x3_1 == x4_2) = true := beq_iff_eq.mpr c10
         have c10b1 : (x3_1 != x4_2) = false := bne_eq_false_iff_eq.mpr c10
         clear c10
         (first | rw [c10b0] | (simp only [i64_w, i32_w]; rw [c10b0]) | skip)
         have H' := am_ H
         clear H
         go_wp2
         go_meet
         case rel => exact ⟨_, (decide (t193 < 0)), (by first | rfl | (simp; done) | (simp [*]; done)), H', ⟨by have := HK1.out; have := HK2.out; first | omega | exact Nat.le_refl _⟩, ⟨bk_ BK192.out⟩, ⟨bb_ HB.out⟩⟩
        ·rw [if_neg c10] at H
         have c10b0 : (x3_1 == x4_2) = false := beq_eq_false_iff_ne.mpr c10
         have c10b1 : (x3_1 != x4_2) = true := bne_iff_ne.mpr c10
         (first | rw [c10b0] | (simp only [i64_w, i32_w]; rw [c10b0]) | skip)
         by_cases c11 : t193 = 0
         ·rw [if_pos c11] at H
          have c11b0 : (t193 == 0) = true := beq_iff_eq.mpr c11
          have c11b1 : (t193 != 0) = false := bne_eq_false_iff_eq.mpr c11
          clear c11
          have H' := am_ H
          clear H
          go_wp2
          go_meet
          case rel => exact ⟨_, (decide (t193 < 0)), (by first | rfl | (simp; done) | (simp [*]; done)), H', ⟨by have := HK1.out; have := HK2.out; first | omega | exact Nat.le_refl _⟩, ⟨bk_ BK192.out⟩, ⟨bb_ HB.out⟩⟩
         ·rw [if_neg c11] at H
          have c11b0 : (t193 == 0) = false := beq_eq_false_iff_ne.mpr c11
          have c11b1 : (t193 != 0) = true := bne_iff_ne.mpr c11
          have H' := am_ H
          clear H
          go_wp2
          go_meet
          case rel => exact ⟨_, (true), (by first | rfl | (simp; done) | (simp [*]; done)), H', ⟨by have := HK1.out; have := HK2.out; first | omega | exact Nat.le_refl _⟩, ⟨bk_ BK192.out⟩, ⟨bb_ HB.out⟩⟩
       case rest =>
        clear HC7
        try clear c1
        try clear p2
        try clear c3
        try clear c3b0
        try clear c4
        try clear c5
        try clear c5b0
        try clear c10
        try clear c10b0
        try clear c10b1
        try clear c11
        try clear c11b0
        try clear c11b1
        try clear hcz4_0
        try clear hcz4_1
        try clear hcz4_2
        try clear hcz8_0
        try clear hcz8_1
        try clear hcz8_2
        try clear hfz4_0
        try clear hfz4_1
        try clear hfz4_2
        try clear hfz8_0
        try clear hfz8_1
        try clear hfz8_2
        try clear p2
        obtain ⟨kq, x33_6, rfl, HA, HJ6, BK192, HB⟩ := hcut
        cases kq with
        | zero => exact absurd HA.out (by simp [spec_l02Diagonal.j2])
        | succ kj6 =>
         have H := HA.out
         clear HA
         simp only [spec_l02Diagonal.j2] at H
         by_cases c12 : x33_6 = true
         ·subst c12
          have H1 : (some false) = some r := by rw [if_pos rfl] at H; exact H
          clear H
          have H := H1
          clear H1
          obtain rfl := Option.some.inj H
          go_wp2
          go_ret
          exact ⟨by first | rfl | (simp [errW_none, errW_some] <;> rfl) | (simp [*, errW_none, errW_some] <;> rfl), bb_ HB.out⟩
         ·replace c12 := Bool.eq_false_iff.mpr c12
          subst c12
          have H1 : (if x3_1 = x4_2 then (if x3_1 > 0 then (spec_l02Diagonal.j3 kj6 x3_1 x4_2 t193 (t193 != 0) a0_0 a0_1 l0_2) else (spec_l02Diagonal.j3 kj6 x3_1 x4_2 t193 false a0_0 a0_1 l0_2)) else (spec_l02Diagonal.j3 kj6 x3_1 x4_2 t193 false a0_0 a0_1 l0_2)) = some r := by rw [if_neg (show ¬ (false = true) by decide)] at H; exact H
          clear H
          have H := H1
          clear H1
          have HC13 := am_ H
          clear H
          go_upto_region 10 with (fail)
          go_cut [44] (fun v44 wc => ∃ (kq : Nat) (x44_12 : Bool), v44 = .bool x44_12 ∧ Aside0 (spec_l02Diagonal.j3 kq x3_1 x4_2 t193 x44_12 a0_0 a0_1 l0_2 = some r) ∧ Aside0 (kq ≤ kj6) ∧ Aside0 (wc.heap[gb192]? = some (.cells #[.int .i64 a0_0, .int .i64 a0_1, (.slice A0_2 l0_2.length c0_2)] 28 (0, 0))) ∧ Aside0 (Below w.heap.size w wc))
          case first =>
           have H := HC13.out
           clear HC13
           by_cases c14 : x3_1 = x4_2
           ·rw [if_pos c14] at H
            have c14b0 : (x3_1 == x4_2) = true := beq_iff_eq.mpr c14
            have c14b1 : (x3_1 != x4_2) = false := bne_eq_false_iff_eq.mpr c14
            clear c14
            (first | rw [c14b0] | (simp only [i64_w, i32_w]; rw [c14b0]) | skip)
            by_cases c15 : x3_1 > 0
            ·rw [if_pos c15] at H
             have c15b0 : decide (0 < x3_1) = true := decide_eq_true c15
             clear c15
             have H' := am_ H
             clear H
             go_wp2
             go_meet
             case rel => exact ⟨_, ((t193 != 0)), (by first | rfl | (simp; done) | (simp [*]; done)), H', ⟨by have := HK1.out; have := HK2.out; have := HJ6.out; first | omega | exact Nat.le_refl _⟩, ⟨bk_ BK192.out⟩, ⟨bb_ HB.out⟩⟩
            ·rw [if_neg c15] at H
             have c15b0 : decide (0 < x3_1) = false := decide_eq_false c15
             clear c15
             have H' := am_ H
             clear H
             go_wp2
             go_meet
             case rel => exact ⟨_, (false), (by first | rfl | (simp; done) | (simp [*]; done)), H', ⟨by have := HK1.out; have := HK2.out; have := HJ6.out; first | omega | exact Nat.le_refl _⟩, ⟨bk_ BK192.out⟩, ⟨bb_ HB.out⟩⟩
           ·rw [if_neg c14] at H
            have c14b0 : (x3_1 == x4_2) = false := beq_eq_false_iff_ne.mpr c14
            have c14b1 : (x3_1 != x4_2) = true := bne_iff_ne.mpr c14
            (first | rw [c14b0] | (simp only [i64_w, i32_w]; rw [c14b0]) | skip)
            have H' := am_ H
            clear H
            go_wp2
            go_meet
            case rel => exact ⟨_, (false), (by first | rfl | (simp; done) | (simp [*]; done)), H', ⟨by have := HK1.out; have := HK2.out; have := HJ6.out; first | omega | exact Nat.le_refl _⟩, ⟨bk_ BK192.out⟩, ⟨bb_ HB.out⟩⟩
          case rest =>
           clear HC13
           try clear c1
           try clear p2
           try clear c3
           try clear c3b0
           try clear c4
           try clear c5
           try clear c5b0
           try clear c10
           try clear c10b0
           try clear c10b1
           try clear c11
           try clear c11b0
           try clear c11b1
           try clear c12
           try clear c14
           try clear c14b0
           try clear c14b1
           try clear c15
           try clear c15b0
           try clear hcz4_0
           try clear hcz4_1
           try clear hcz4_2
           try clear hcz8_0
           try clear hcz8_1
           try clear hcz8_2
           try clear hfz4_0
           try clear hfz4_1
           try clear hfz4_2
           try clear hfz8_0
           try clear hfz8_1
           try clear hfz8_2
           try clear p2
           obtain ⟨kq, x44_12, rfl, HA, HJ12, BK192, HB⟩ := hcut
           cases kq with
           | zero => exact absurd HA.out (by simp [spec_l02Diagonal.j3])
           | succ kj12 =>
            have H := HA.out
            clear HA
            simp only [spec_l02Diagonal.j3] at H
            by_cases c16 : x44_12 = true
            ·subst c16
             have H1 : ((spec_l01At.f a0_0 a0_1 l0_2 (wrap64 (x3_1 - 1)) (wrap64 (x3_1 - 1))).bind fun t194 => (if t194 = 0 then (some false) else (if (Int.tmod t193 t194) = 0 then (spec_l02Diagonal.l1 kj12 x3_1 (wrap64 (x4_2 + 1)) a0_0 a0_1 l0_2) else (some false)))) = some r := by rw [if_pos rfl] at H; exact H
             clear H
             have H := H1
             clear H1
             replace H := Option.bind_eq_some_iff.mp H
             obtain ⟨t194, A170, H⟩ := H
             replace H : (if t194 = 0 then (some false) else (if (Int.tmod t193 t194) = 0 then (spec_l02Diagonal.l1 kj12 x3_1 (wrap64 (x4_2 + 1)) a0_0 a0_1 l0_2) else (some false))) = some r := H
             have A17 := am_ A170
             clear A170
             by_cases c18 : t194 = 0
             ·rw [if_pos c18] at H
              have c18b0 : (t194 == 0) = true := beq_iff_eq.mpr c18
              have c18b1 : (t194 != 0) = false := bne_eq_false_iff_eq.mpr c18
              clear c18
              obtain rfl := Option.some.inj H
              obtain ⟨hcz19_0, hcz19_1, hcz19_2, hfz19_0, hfz19_1, hfz19_2⟩ := bx3_ BK192
              go_wp2_with (first | ((with_reducible refine gate_callee (f := 49) rfl ?_); refine goesL_ (some 50) rfl rfl Try.func49 (by kernel_rfl) rfl #[.agg #[.int .i64 a0_0, .int .i64 a0_1, .slice A0_2 l0_2.length c0_2], .int .i64 (wrap64 (x3_1 - 1)), .int .i64 (wrap64 (x3_1 - 1))] rfl lm_ ?_; (with_reducible refine (spec_l01At.calls a0_0 a0_1 _ _ l0_2 (wrap64 (x3_1 - 1)) (wrap64 (x3_1 - 1)) t194 _ ?side1 ?side2 A17.out).mono ?_); (case side1 => repeat (first | exact (Kd.C_below HR0_2.out HB.out) | (with_reducible refine Kd.C_alloc ?_ _) | (with_reducible refine Kd.C_drewN ?_ _) | (with_reducible refine Kd.C_drew ?_))); (case side2 => exact HC0_2.out); rintro e w20 ⟨rfl, hb⟩; refine ⟨_, rfl, ?_⟩; have n0_ := am_ (bw_ BK192 hb); have n1_ := am_ (below_step (bb_ HB.out) hb); clear BK192 HB; revert n0_ n1_; intro BK192 HB; (try clear hb); (try clear hb2); (try clear hk); (try clear hi)))
              go_ret
              exact ⟨by first | rfl | (simp [errW_none, errW_some] <;> rfl) | (simp [*, errW_none, errW_some] <;> rfl), bb_ HB.out⟩
             ·rw [if_neg c18] at H
              have c18b0 : (t194 == 0) = false := beq_eq_false_iff_ne.mpr c18
              have c18b1 : (t194 != 0) = true := bne_iff_ne.mpr c18
              by_cases c21 : (Int.tmod t193 t194) = 0
              ·rw [if_pos c21] at H
               have c21b0 : ((Int.tmod t193 t194) == 0) = true := beq_iff_eq.mpr c21
               have c21b1 : ((Int.tmod t193 t194) != 0) = false := bne_eq_false_iff_eq.mpr c21
               clear c21
               have H' := am_ H
               clear H
               obtain ⟨hcz22_0, hcz22_1, hcz22_2, hfz22_0, hfz22_1, hfz22_2⟩ := bx3_ BK192
               go_wp2_with (first | ((with_reducible refine gate_callee (f := 49) rfl ?_); refine goesL_ (some 50) rfl rfl Try.func49 (by kernel_rfl) rfl #[.agg #[.int .i64 a0_0, .int .i64 a0_1, .slice A0_2 l0_2.length c0_2], .int .i64 (wrap64 (x3_1 - 1)), .int .i64 (wrap64 (x3_1 - 1))] rfl lm_ ?_; (with_reducible refine (spec_l01At.calls a0_0 a0_1 _ _ l0_2 (wrap64 (x3_1 - 1)) (wrap64 (x3_1 - 1)) t194 _ ?side1 ?side2 A17.out).mono ?_); (case side1 => repeat (first | exact (Kd.C_below HR0_2.out HB.out) | (with_reducible refine Kd.C_alloc ?_ _) | (with_reducible refine Kd.C_drewN ?_ _) | (with_reducible refine Kd.C_drew ?_))); (case side2 => exact HC0_2.out); rintro e w23 ⟨rfl, hb⟩; refine ⟨_, rfl, ?_⟩; have n0_ := am_ (bw_ BK192 hb); have n1_ := am_ (below_step (bb_ HB.out) hb); clear BK192 HB; revert n0_ n1_; intro BK192 HB; (try clear hb); (try clear hb2); (try clear hk); (try clear hi)))
               go_roundg kj12
               case measure => have := HK1.out; have := HK2.out; have := HJ6.out; have := HJ12.out; omega
               case rel => exact ⟨(wrap64 (x4_2 + 1)), (by first | rfl | (simp; done) | (simp [*]; done)), H', ⟨by have := HK1.out; have := HK2.out; have := HJ6.out; have := HJ12.out; omega⟩, ⟨bk_ BK192.out⟩, ⟨bb_ HB.out⟩⟩
              ·rw [if_neg c21] at H
               have c21b0 : ((Int.tmod t193 t194) == 0) = false := beq_eq_false_iff_ne.mpr c21
               have c21b1 : ((Int.tmod t193 t194) != 0) = true := bne_iff_ne.mpr c21
               obtain rfl := Option.some.inj H
               obtain ⟨hcz24_0, hcz24_1, hcz24_2, hfz24_0, hfz24_1, hfz24_2⟩ := bx3_ BK192
               go_wp2_with (first | ((with_reducible refine gate_callee (f := 49) rfl ?_); refine goesL_ (some 50) rfl rfl Try.func49 (by kernel_rfl) rfl #[.agg #[.int .i64 a0_0, .int .i64 a0_1, .slice A0_2 l0_2.length c0_2], .int .i64 (wrap64 (x3_1 - 1)), .int .i64 (wrap64 (x3_1 - 1))] rfl lm_ ?_; (with_reducible refine (spec_l01At.calls a0_0 a0_1 _ _ l0_2 (wrap64 (x3_1 - 1)) (wrap64 (x3_1 - 1)) t194 _ ?side1 ?side2 A17.out).mono ?_); (case side1 => repeat (first | exact (Kd.C_below HR0_2.out HB.out) | (with_reducible refine Kd.C_alloc ?_ _) | (with_reducible refine Kd.C_drewN ?_ _) | (with_reducible refine Kd.C_drew ?_))); (case side2 => exact HC0_2.out); rintro e w25 ⟨rfl, hb⟩; refine ⟨_, rfl, ?_⟩; have n0_ := am_ (bw_ BK192 hb); have n1_ := am_ (below_step (bb_ HB.out) hb); clear BK192 HB; revert n0_ n1_; intro BK192 HB; (try clear hb); (try clear hb2); (try clear hk); (try clear hi)))
               go_ret
               exact ⟨by first | rfl | (simp [errW_none, errW_some] <;> rfl) | (simp [*, errW_none, errW_some] <;> rfl), bb_ HB.out⟩
            ·replace c16 := Bool.eq_false_iff.mpr c16
             subst c16
             have H1 : (spec_l02Diagonal.l1 kj12 x3_1 (wrap64 (x4_2 + 1)) a0_0 a0_1 l0_2) = some r := by rw [if_neg (show ¬ (false = true) by decide)] at H; exact H
             clear H
             have H := H1
             clear H1
             have H' := am_ H
             clear H
             go_wp2
             go_roundg kj12
             case measure => have := HK1.out; have := HK2.out; have := HJ6.out; have := HJ12.out; omega
             case rel => exact ⟨(wrap64 (x4_2 + 1)), (by first | rfl | (simp; done) | (simp [*]; done)), H', ⟨by have := HK1.out; have := HK2.out; have := HJ6.out; have := HJ12.out; omega⟩, ⟨bk_ BK192.out⟩, ⟨bb_ HB.out⟩⟩
      ·rw [if_neg c5] at H
       have c5b0 : decide (x4_2 < a0_1) = false := decide_eq_false c5
       clear c5
       have H' := am_ H
       clear H
       obtain ⟨hcz26_0, hcz26_1, hcz26_2, hfz26_0, hfz26_1, hfz26_2⟩ := bx3_ BK192
       go_wp2
       go_roundg k2
       case measure => have := HK1.out; have := HK2.out; omega
       case rel => exact ⟨(wrap64 (x3_1 + 1)), (by first | rfl | (simp; done) | (simp [*]; done)), H', ⟨by have := HK1.out; have := HK2.out; omega⟩, ⟨bk_ BK192.out⟩, ⟨bb_ HB.out⟩⟩
   ·rw [if_neg c3] at H
    have c3b0 : decide (x3_1 < a0_0) = false := decide_eq_false c3
    clear c3
    obtain rfl := Option.some.inj H
    obtain ⟨hcz27_0, hcz27_1, hcz27_2, hfz27_0, hfz27_1, hfz27_2⟩ := bx3_ BK192
    go_wp2
    go_ret
    exact ⟨by first | rfl | (simp [errW_none, errW_some] <;> rfl) | (simp [*, errW_none, errW_some] <;> rfl), bb_ HB.out⟩

end Go.Proofs.Ytifbfloifdkacaa.PFnExactIsReduction
