/- Written by this session's program out of the kit's print and this session's contracts. -/
import Derived.Test.YtifbfloifdkacaaVFnExactIsReductionPx0
import Derived.Test.YtifbfloifdkacaaVFnExactIsReductionPx7
namespace Go.Proofs.Ytifbfloifdkacaa.PFnExactIsReduction
open Go.RowKit Go.Proofs.YtifbfloifdkacaaW.PrintWords Go.Proofs.YtifbfloifdkacaaW.PrintLast Go.Proofs.YtifbfloifdkacaaW.PrintMore
attribute [local go_sem] max2_int min2_int max_two min_two max_three min_three max_four min_four   -- for this text's walks alone
set_option linter.unusedVariables false
set_option linter.unusedSimpArgs false

/-! ### impl_isDiagonal: function 46 -/
mutual
def impl_isDiagonal.l0 : Nat → Int → Int → Int → Int → Int → List Int → Option (Bool)
 | 0, _, _, _, _, _, _ => none
 | k + 1, x3, x8, x9, x309000, x309001, x309002 => if x9 < x8 then (impl_isDiagonal.l1 k x3 x9 x8 x9 x309001 0 x309000 x309001 x309002) else (some true)
def impl_isDiagonal.l1 : Nat → Int → Int → Int → Int → Int → Int → Int → Int → List Int → Option (Bool)
 | 0, _, _, _, _, _, _, _, _, _ => none
 | k + 1, x3, x4, x8, x9, x13, x14, x309000, x309001, x309002 => if x14 < x13 then ((impl_Matrix_at.f x309000 x309001 x309002 x4 x14).bind fun t309 => (if 0 ≤ t309 then (if t309 < (x309002.length : Int) then (if x4 = x14 then (impl_isDiagonal.j2 k x3 x4 x14 (rd x309002 t309) x8 x9 x13 x14 (decide ((rd x309002 t309) < 0)) x309000 x309001 x309002) else (if (rd x309002 t309) = 0 then (impl_isDiagonal.j2 k x3 x4 x14 (rd x309002 t309) x8 x9 x13 x14 (decide ((rd x309002 t309) < 0)) x309000 x309001 x309002) else (impl_isDiagonal.j2 k x3 x4 x14 (rd x309002 t309) x8 x9 x13 x14 true x309000 x309001 x309002))) else (none)) else (none))) else (impl_isDiagonal.l0 k x3 x8 (wrap64 (x9 + 1)) x309000 x309001 x309002)
def impl_isDiagonal.j2 : Nat → Int → Int → Int → Int → Int → Int → Int → Int → Bool → Int → Int → List Int → Option (Bool)
 | 0, _, _, _, _, _, _, _, _, _, _, _, _ => none
 | k + 1, x3, x4, x5, x6, x8, x9, x13, x14, x23, x309000, x309001, x309002 => if x23 = true then (some false) else (if x4 = x5 then (if x3 = 0 then (if x6 = 0 then (impl_isDiagonal.j3 k x3 x4 x5 x6 x8 x9 x13 x14 false x309000 x309001 x309002) else (impl_isDiagonal.j3 k x3 x4 x5 x6 x8 x9 x13 x14 true x309000 x309001 x309002)) else (impl_isDiagonal.j3 k x3 x4 x5 x6 x8 x9 x13 x14 ((Int.tmod x6 x3) != 0) x309000 x309001 x309002)) else (impl_isDiagonal.j3 k x3 x4 x5 x6 x8 x9 x13 x14 false x309000 x309001 x309002))
def impl_isDiagonal.j3 : Nat → Int → Int → Int → Int → Int → Int → Int → Int → Bool → Int → Int → List Int → Option (Bool)
 | 0, _, _, _, _, _, _, _, _, _, _, _, _ => none
 | k + 1, x3, x4, x5, x6, x8, x9, x13, x14, x35, x309000, x309001, x309002 => if x35 = true then (some false) else (if x4 = x5 then (impl_isDiagonal.l1 k x6 x4 x8 x9 x13 (wrap64 (x14 + 1)) x309000 x309001 x309002) else (impl_isDiagonal.l1 k x3 x4 x8 x9 x13 (wrap64 (x14 + 1)) x309000 x309001 x309002))
end
def impl_isDiagonal.f (k : Nat) (a0_0 : Int) (a0_1 : Int) (l0_2 : List Int) : Option (Bool) := impl_isDiagonal.l0 k 1 a0_0 0 a0_0 a0_1 l0_2
theorem impl_isDiagonal.mono_l : ∀ k, (∀ y0 y1 y2 y3 y4 y5, LeO (impl_isDiagonal.l0 k y0 y1 y2 y3 y4 y5) (impl_isDiagonal.l0 (k + 1) y0 y1 y2 y3 y4 y5)) ∧ (∀ y0 y1 y2 y3 y4 y5 y6 y7 y8, LeO (impl_isDiagonal.l1 k y0 y1 y2 y3 y4 y5 y6 y7 y8) (impl_isDiagonal.l1 (k + 1) y0 y1 y2 y3 y4 y5 y6 y7 y8)) ∧ (∀ y0 y1 y2 y3 y4 y5 y6 y7 y8 y9 y10 y11, LeO (impl_isDiagonal.j2 k y0 y1 y2 y3 y4 y5 y6 y7 y8 y9 y10 y11) (impl_isDiagonal.j2 (k + 1) y0 y1 y2 y3 y4 y5 y6 y7 y8 y9 y10 y11)) ∧ (∀ y0 y1 y2 y3 y4 y5 y6 y7 y8 y9 y10 y11, LeO (impl_isDiagonal.j3 k y0 y1 y2 y3 y4 y5 y6 y7 y8 y9 y10 y11) (impl_isDiagonal.j3 (k + 1) y0 y1 y2 y3 y4 y5 y6 y7 y8 y9 y10 y11))
 | 0 => ⟨fun _ _ _ _ _ _ r h => by simp [impl_isDiagonal.l0] at h, fun _ _ _ _ _ _ _ _ _ r h => by simp [impl_isDiagonal.l1] at h, fun _ _ _ _ _ _ _ _ _ _ _ _ r h => by simp [impl_isDiagonal.j2] at h, fun _ _ _ _ _ _ _ _ _ _ _ _ r h => by simp [impl_isDiagonal.j3] at h⟩
 | k + 1 => by
  obtain ⟨ih0, ih1, ih2, ih3⟩ := impl_isDiagonal.mono_l k
  refine ⟨?_, ?_, ?_, ?_⟩
  ·intro y0 y1 y2 y3 y4 y5
   unfold impl_isDiagonal.l0
   repeat' first
   | (with_reducible exact ih0 _ _ _ _ _ _)
   | (with_reducible exact ih1 _ _ _ _ _ _ _ _ _)
   | (with_reducible exact ih2 _ _ _ _ _ _ _ _ _ _ _ _)
   | (with_reducible exact ih3 _ _ _ _ _ _ _ _ _ _ _ _)
   | (with_reducible exact LeO.refl _)
   | (with_reducible exact LeO.none _)
   | (with_reducible refine LeO.ite ?_ ?_)
   | (with_reducible refine LeO.bind ?_ (fun _ => ?_))
   | exact ih0 _ _ _ _ _ _
   | exact ih1 _ _ _ _ _ _ _ _ _
   | exact ih2 _ _ _ _ _ _ _ _ _ _ _ _
   | exact ih3 _ _ _ _ _ _ _ _ _ _ _ _
   | exact LeO.none _
   | refine LeO.ite ?_ ?_
   | refine LeO.bind ?_ (fun _ => ?_)
  ·intro y0 y1 y2 y3 y4 y5 y6 y7 y8
   unfold impl_isDiagonal.l1
   repeat' first
   | (with_reducible exact ih0 _ _ _ _ _ _)
   | (with_reducible exact ih1 _ _ _ _ _ _ _ _ _)
   | (with_reducible exact ih2 _ _ _ _ _ _ _ _ _ _ _ _)
   | (with_reducible exact ih3 _ _ _ _ _ _ _ _ _ _ _ _)
   | (with_reducible exact LeO.refl _)
   | (with_reducible exact LeO.none _)
   | (with_reducible refine LeO.ite ?_ ?_)
   | (with_reducible refine LeO.bind ?_ (fun _ => ?_))
   | exact ih0 _ _ _ _ _ _
   | exact ih1 _ _ _ _ _ _ _ _ _
   | exact ih2 _ _ _ _ _ _ _ _ _ _ _ _
   | exact ih3 _ _ _ _ _ _ _ _ _ _ _ _
   | exact LeO.none _
   | refine LeO.ite ?_ ?_
   | refine LeO.bind ?_ (fun _ => ?_)
  ·intro y0 y1 y2 y3 y4 y5 y6 y7 y8 y9 y10 y11
   unfold impl_isDiagonal.j2
   repeat' first
   | (with_reducible exact ih0 _ _ _ _ _ _)
   | (with_reducible exact ih1 _ _ _ _ _ _ _ _ _)
   | (with_reducible exact ih2 _ _ _ _ _ _ _ _ _ _ _ _)
   | (with_reducible exact ih3 _ _ _ _ _ _ _ _ _ _ _ _)
   | (with_reducible exact LeO.refl _)
   | (with_reducible exact LeO.none _)
   | (with_reducible refine LeO.ite ?_ ?_)
   | (with_reducible refine LeO.bind ?_ (fun _ => ?_))
   | exact ih0 _ _ _ _ _ _
   | exact ih1 _ _ _ _ _ _ _ _ _
   | exact ih2 _ _ _ _ _ _ _ _ _ _ _ _
   | exact ih3 _ _ _ _ _ _ _ _ _ _ _ _
   | exact LeO.none _
   | refine LeO.ite ?_ ?_
   | refine LeO.bind ?_ (fun _ => ?_)
  ·intro y0 y1 y2 y3 y4 y5 y6 y7 y8 y9 y10 y11
   unfold impl_isDiagonal.j3
   repeat' first
   | (with_reducible exact ih0 _ _ _ _ _ _)
   | (with_reducible exact ih1 _ _ _ _ _ _ _ _ _)
   | (with_reducible exact ih2 _ _ _ _ _ _ _ _ _ _ _ _)
   | (with_reducible exact ih3 _ _ _ _ _ _ _ _ _ _ _ _)
   | (with_reducible exact LeO.refl _)
   | (with_reducible exact LeO.none _)
   | (with_reducible refine LeO.ite ?_ ?_)
   | (with_reducible refine LeO.bind ?_ (fun _ => ?_))
   | exact ih0 _ _ _ _ _ _
   | exact ih1 _ _ _ _ _ _ _ _ _
   | exact ih2 _ _ _ _ _ _ _ _ _ _ _ _
   | exact ih3 _ _ _ _ _ _ _ _ _ _ _ _
   | exact LeO.none _
   | refine LeO.ite ?_ ?_
   | refine LeO.bind ?_ (fun _ => ?_)
theorem impl_isDiagonal.mono : ∀ a0 a1 a2 k, LeO (impl_isDiagonal.f k a0 a1 a2) (impl_isDiagonal.f (k + 1) a0 a1 a2) := by
 intro a0 a1 a2 k
 obtain ⟨ih0, ih1, ih2, ih3⟩ := impl_isDiagonal.mono_l k
 unfold impl_isDiagonal.f
 repeat' first
   | (with_reducible exact ih0 _ _ _ _ _ _)
   | (with_reducible exact ih1 _ _ _ _ _ _ _ _ _)
   | (with_reducible exact ih2 _ _ _ _ _ _ _ _ _ _ _ _)
   | (with_reducible exact ih3 _ _ _ _ _ _ _ _ _ _ _ _)
   | (with_reducible exact LeO.refl _)
   | (with_reducible exact LeO.none _)
   | (with_reducible refine LeO.ite ?_ ?_)
   | (with_reducible refine LeO.bind ?_ (fun _ => ?_))
   | exact ih0 _ _ _ _ _ _
   | exact ih1 _ _ _ _ _ _ _ _ _
   | exact ih2 _ _ _ _ _ _ _ _ _ _ _ _
   | exact ih3 _ _ _ _ _ _ _ _ _ _ _ _
   | exact LeO.none _
   | refine LeO.ite ?_ ?_
   | refine LeO.bind ?_ (fun _ => ?_)
set_option maxHeartbeats 8000000 in
set_option maxRecDepth 100000 in
theorem impl_isDiagonal.calls (k : Nat) (a0_0 : Int) (a0_1 : Int) (A0_2 : Option Addr) (c0_2 : Nat) (l0_2 : List Int) (r : Bool) (w : World) (hr0_2 : Kd.C (Kd.int .i64) w A0_2 l0_2.length l0_2) (hc0_2 : l0_2.length ≤ c0_2) (h : impl_isDiagonal.f k a0_0 a0_1 l0_2 = some r) :
  Calls Try.prog 46 #[.agg #[.int .i64 a0_0, .int .i64 a0_1, .slice A0_2 l0_2.length c0_2]] w fun e w' => e = .returned (.bool r) ∧ Below w.heap.size w w' := by
 have hu28 := Try.underlying28
 have HR0_2 := am_ hr0_2
 have HC0_2 := am_ hc0_2
 clear hr0_2 hc0_2
 have HB := am_ (Below.refl w.heap.size w)
 have H : (impl_isDiagonal.l0 k 1 a0_0 0 a0_0 a0_1 l0_2) = some r := h
 clear h
 have H' := am_ H
 clear H
 go_enter Try.func46, Try.ntmps46
 go_wp2_with (first | ((with_reducible refine gate_dst (N := 1) rfl ?_); refine box_event ?hg (N := 1) ?hd (cs := #[.int .i64 a0_0, .int .i64 a0_1, .slice A0_2 l0_2.length c0_2]) (t := 28) ?hr ?_; (case hd => rfl); (case hg => rfl); (case hr => first | (go_simp; done) | (go_simp; rfl)); intro gb308 hg w2 hbox hb; have n0_ := am_ (below_step (bb_ HB.out) hb); have n1_ := am_ (hbox); have n2_ := am_ ((by rw [hg]; exact (below_size (bb_ HB.out)) : w.heap.size ≤ gb308)); have n3_ := am_ ((by rw [hg]; exact (below_size (bb_ HB.out)) : w.heap.size ≤ gb308)); clear HB; revert n0_ n1_ n2_ n3_; intro HB BK308 GW308 GE308; clear hb hbox hg; obtain ⟨hcz3_0, hcz3_1, hcz3_2, hfz3_0, hfz3_1, hfz3_2⟩ := bx3_ BK308))
 go_loopg [3, 9] k (fun kq v3 v9 w' => ∃ (x3_1 : Int) (x9_1 : Int), v3 = .int .i64 x3_1 ∧ v9 = .int .i64 x9_1 ∧ Aside0 (impl_isDiagonal.l0 kq x3_1 a0_0 x9_1 a0_0 a0_1 l0_2 = some r) ∧ Aside0 (kq ≤ k) ∧ Aside0 (w'.heap[gb308]? = some (.cells #[.int .i64 a0_0, .int .i64 a0_1, (.slice A0_2 l0_2.length c0_2)] 28 (0, 0))) ∧ Aside0 (Below w.heap.size w w'))
 case atStart => exact ⟨(1), (0), (by first | rfl | (simp; done) | (simp [*]; done)), (by first | rfl | (simp; done) | (simp [*]; done)), H', ⟨Nat.le_refl _⟩, ⟨bk_ BK308.out⟩, ⟨bb_ HB.out⟩⟩
 case round =>
  clear H'
  try clear p2
  try clear hcz3_0
  try clear hcz3_1
  try clear hcz3_2
  try clear hfz3_0
  try clear hfz3_1
  try clear hfz3_2
  obtain ⟨x3_1, x9_1, rfl, rfl, HA, HK1, BK308, HB⟩ := hrel
  cases gk with
  | zero => exact absurd HA.out (by simp [impl_isDiagonal.l0])
  | succ k1 =>
   have H := HA.out
   clear HA
   simp only [impl_isDiagonal.l0] at H
   by_cases c4 : x9_1 < a0_0
   ·rw [if_pos c4] at H
    have c4b0 : decide (x9_1 < a0_0) = true := decide_eq_true c4
    clear c4
    have H' := am_ H
    clear H
    obtain ⟨hcz5_0, hcz5_1, hcz5_2, hfz5_0, hfz5_1, hfz5_2⟩ := bx3_ BK308
    go_wp2
    go_loopg [3, 14] k1 (fun kq v3 v14 w' => ∃ (x3_2 : Int) (x14_2 : Int), v3 = .int .i64 x3_2 ∧ v14 = .int .i64 x14_2 ∧ Aside0 (impl_isDiagonal.l1 kq x3_2 x9_1 a0_0 x9_1 a0_1 x14_2 a0_0 a0_1 l0_2 = some r) ∧ Aside0 (kq ≤ k1) ∧ Aside0 (w'.heap[gb308]? = some (.cells #[.int .i64 a0_0, .int .i64 a0_1, (.slice A0_2 l0_2.length c0_2)] 28 (0, 0))) ∧ Aside0 (Below w.heap.size w w'))
    case atStart => exact ⟨(x3_1), (0), (by first | rfl | (simp; done) | (simp [*]; done)), (by first | rfl | (simp; done) | (simp [*]; done)), H', ⟨Nat.le_refl _⟩, ⟨bk_ BK308.out⟩, ⟨bb_ HB.out⟩⟩
    case round =>
     clear H'
     try clear p2
     try clear c4
     try clear c4b0
     try clear hcz3_0
     try clear hcz3_1
     try clear hcz3_2
     try clear hcz5_0
     try clear hcz5_1
     try clear hcz5_2
     try clear hfz3_0
     try clear hfz3_1
     try clear hfz3_2
     try clear hfz5_0
     try clear hfz5_1
     try clear hfz5_2
     try clear p2
     obtain ⟨x3_2, x14_2, rfl, rfl, HA, HK2, BK308, HB⟩ := hrel
     cases gk with
     | zero => exact absurd HA.out (by simp [impl_isDiagonal.l1])
     | succ k2 =>
      have H := HA.out
      clear HA
      simp only [impl_isDiagonal.l1] at H
      by_cases c6 : x14_2 < a0_1
      ·rw [if_pos c6] at H
       have c6b0 : decide (x14_2 < a0_1) = true := decide_eq_true c6
       clear c6
       replace H := Option.bind_eq_some_iff.mp H
       obtain ⟨t309, A70, H⟩ := H
       replace H : (if 0 ≤ t309 then (if t309 < (l0_2.length : Int) then (if x9_1 = x14_2 then (impl_isDiagonal.j2 k2 x3_2 x9_1 x14_2 (rd l0_2 t309) a0_0 x9_1 a0_1 x14_2 (decide ((rd l0_2 t309) < 0)) a0_0 a0_1 l0_2) else (if (rd l0_2 t309) = 0 then (impl_isDiagonal.j2 k2 x3_2 x9_1 x14_2 (rd l0_2 t309) a0_0 x9_1 a0_1 x14_2 (decide ((rd l0_2 t309) < 0)) a0_0 a0_1 l0_2) else (impl_isDiagonal.j2 k2 x3_2 x9_1 x14_2 (rd l0_2 t309) a0_0 x9_1 a0_1 x14_2 true a0_0 a0_1 l0_2))) else (none)) else (none)) = some r := H
       have A7 := am_ A70
       clear A70
       by_cases c8 : 0 ≤ t309
       ·rw [if_pos c8] at H
        have c8b0 : decide (0 ≤ t309) = true := decide_eq_true c8
        clear c8
        by_cases c9 : t309 < (l0_2.length : Int)
        ·rw [if_pos c9] at H
         have c9b0 : decide (t309 < (l0_2.length : Int)) = true := decide_eq_true c9
         clear c9
         have HC10 := am_ H
         clear H
         obtain ⟨hcz11_0, hcz11_1, hcz11_2, hfz11_0, hfz11_1, hfz11_2⟩ := bx3_ BK308
         go_upto_region 9 with (first | ((with_reducible refine gate_callee (f := 38) rfl ?_); refine goesL_ (some 20) rfl rfl Try.func38 (by kernel_rfl) rfl #[.agg #[.int .i64 a0_0, .int .i64 a0_1, .slice A0_2 l0_2.length c0_2], .int .i64 x9_1, .int .i64 x14_2] rfl lm_ ?_; (with_reducible refine (impl_Matrix_at.calls a0_0 a0_1 _ _ l0_2 x9_1 x14_2 t309 _ ?side1 ?side2 A7.out).mono ?_); (case side1 => repeat (first | exact (Kd.C_below HR0_2.out HB.out) | (with_reducible refine Kd.C_alloc ?_ _) | (with_reducible refine Kd.C_drewN ?_ _) | (with_reducible refine Kd.C_drew ?_))); (case side2 => exact HC0_2.out); rintro e w12 ⟨rfl, hb⟩; refine ⟨_, rfl, ?_⟩; have n0_ := am_ (bw_ BK308 hb); have n1_ := am_ (below_step (bb_ HB.out) hb); clear BK308 HB; revert n0_ n1_; intro BK308 HB; (try clear hb); (try clear hb2); (try clear hk); (try clear hi); have p310 : 0 ≤ (t309 : Int) := of_decide_eq_true (by first | (with_reducible assumption) | assumption); have q310 : t309 < (l0_2.length : Int) := of_decide_eq_true (by first | (with_reducible assumption) | assumption); obtain ⟨ad310, e310, hx310_0⟩ := Kd.at_int HR0_2.out t309 p310 q310; cases e310; replace hx310_0 := (HB.out.cell (World.block_lt_of_cell? w _ hx310_0)).trans hx310_0; replace p310 := eq_true p310; replace q310 := eq_true q310))
         (try simp only [Act.put, List.setIfInBounds_toArray, List.set_cons_zero, List.set_cons_succ])
         go_cut [23] (fun v23 wc => ∃ (kq : Nat) (x23_9 : Bool), v23 = .bool x23_9 ∧ Aside0 (impl_isDiagonal.j2 kq x3_2 x9_1 x14_2 (rd l0_2 t309) a0_0 x9_1 a0_1 x14_2 x23_9 a0_0 a0_1 l0_2 = some r) ∧ Aside0 (kq ≤ k2) ∧ Aside0 (wc.heap[gb308]? = some (.cells #[.int .i64 a0_0, .int .i64 a0_1, (.slice (some ad310) l0_2.length c0_2)] 28 (0, 0))) ∧ Aside0 (Below w.heap.size w wc))
         case first =>
          have H := HC10.out
          clear HC10
          by_cases c13 : x9_1 = x14_2
          ·rw [if_pos c13] at H
           have c13b0 : (x9_1 == x14_2) = true := beq_iff_eq.mpr c13
           have c13b1 : (x9_1 != x14_2) = false := bne_eq_false_iff_eq.mpr c13
           clear c13
           (first | rw [c13b0] | (simp only [i64_w, i32_w]; rw [c13b0]) | skip)
           have H' := am_ H
           clear H
           go_wp2
           go_meet
           case rel => exact ⟨_, (decide ((rd l0_2 t309) < 0)), (by first | rfl | (simp; done) | (simp [*]; done)), H', ⟨by have := HK1.out; have := HK2.out; first | omega | exact Nat.le_refl _⟩, ⟨bk_ BK308.out⟩, ⟨bb_ HB.out⟩⟩
          ·rw [if_neg c13] at H
           have c13b0 : (x9_1 == x14_2) = false := beq_eq_false_iff_ne.mpr c13
           have c13b1 : (x9_1 != x14_2) = true := bne_iff_ne.mpr c13
           (first | rw [c13b0] | (simp only [i64_w, i32_w]; rw [c13b0]) | skip)
           by_cases c14 : (rd l0_2 t309) = 0
           ·rw [if_pos c14] at H
            have c14b0 : ((rd l0_2 t309) == 0) = true := beq_iff_eq.mpr c14
            have c14b1 : ((rd l0_2 t309) != 0) = false := bne_eq_false_iff_eq.mpr c14
            clear c14
            have H' := am_ H
            clear H
            go_wp2
            go_meet
            case rel => exact ⟨_, (decide ((rd l0_2 t309) < 0)), (by first | rfl | (simp; done) | (simp [*]; done)), H', ⟨by have := HK1.out; have := HK2.out; first | omega | exact Nat.le_refl _⟩, ⟨bk_ BK308.out⟩, ⟨bb_ HB.out⟩⟩
           ·rw [if_neg c14] at H
            have c14b0 : ((rd l0_2 t309) == 0) = false := beq_eq_false_iff_ne.mpr c14
            have c14b1 : ((rd l0_2 t309) != 0) = true := bne_iff_ne.mpr c14
            have H' := am_ H
            clear H
            go_wp2
            go_meet
            case rel => exact ⟨_, (true), (by first | rfl | (simp; done) | (simp [*]; done)), H', ⟨by have := HK1.out; have := HK2.out; first | omega | exact Nat.le_refl _⟩, ⟨bk_ BK308.out⟩, ⟨bb_ HB.out⟩⟩
         case rest =>
          clear HC10
          try clear c1
          try clear p2
          try clear c3
          try clear p3
          try clear q3
          try clear hx3
          try clear c4
          try clear c4b0
          try clear c6
          try clear c6b0
          try clear c8
          try clear c8b0
          try clear c9
          try clear c9b0
          try clear c13
          try clear c13b0
          try clear c13b1
          try clear c14
          try clear c14b0
          try clear c14b1
          try clear hcz11_0
          try clear hcz11_1
          try clear hcz11_2
          try clear hcz3_0
          try clear hcz3_1
          try clear hcz3_2
          try clear hcz5_0
          try clear hcz5_1
          try clear hcz5_2
          try clear hfz11_0
          try clear hfz11_1
          try clear hfz11_2
          try clear hfz3_0
          try clear hfz3_1
          try clear hfz3_2
          try clear hfz5_0
          try clear hfz5_1
          try clear hfz5_2
          try clear hx310_0
          try clear p2
          try clear p310
          try clear q310
          obtain ⟨kq, x23_9, rfl, HA, HJ9, BK308, HB⟩ := hcut
          cases kq with
          | zero => exact absurd HA.out (by simp [impl_isDiagonal.j2])
          | succ kj9 =>
           have H := HA.out
           clear HA
           simp only [impl_isDiagonal.j2] at H
           by_cases c15 : x23_9 = true
           ·subst c15
            have H1 : (some false) = some r := by rw [if_pos rfl] at H; exact H
            clear H
            have H := H1
            clear H1
            obtain rfl := Option.some.inj H
            go_wp2
            go_ret
            exact ⟨by first | rfl | (simp [errW_none, errW_some] <;> rfl) | (simp [*, errW_none, errW_some] <;> rfl), bb_ HB.out⟩
           ·replace c15 := Bool.eq_false_iff.mpr c15
            subst c15
            have H1 : (if x9_1 = x14_2 then (if x3_2 = 0 then (if (rd l0_2 t309) = 0 then (impl_isDiagonal.j3 kj9 x3_2 x9_1 x14_2 (rd l0_2 t309) a0_0 x9_1 a0_1 x14_2 false a0_0 a0_1 l0_2) else (impl_isDiagonal.j3 kj9 x3_2 x9_1 x14_2 (rd l0_2 t309) a0_0 x9_1 a0_1 x14_2 true a0_0 a0_1 l0_2)) else (impl_isDiagonal.j3 kj9 x3_2 x9_1 x14_2 (rd l0_2 t309) a0_0 x9_1 a0_1 x14_2 ((Int.tmod (rd l0_2 t309) x3_2) != 0) a0_0 a0_1 l0_2)) else (impl_isDiagonal.j3 kj9 x3_2 x9_1 x14_2 (rd l0_2 t309) a0_0 x9_1 a0_1 x14_2 false a0_0 a0_1 l0_2)) = some r := by rw [if_neg (show ¬ (false = true) by decide)] at H; exact H
            clear H
            have H := H1
            clear H1
            have HC16 := am_ H
            clear H
            go_upto_region 11 with (fail)
            go_cut [35] (fun v35 wc => ∃ (kq : Nat) (x35_15 : Bool), v35 = .bool x35_15 ∧ Aside0 (impl_isDiagonal.j3 kq x3_2 x9_1 x14_2 (rd l0_2 t309) a0_0 x9_1 a0_1 x14_2 x35_15 a0_0 a0_1 l0_2 = some r) ∧ Aside0 (kq ≤ kj9) ∧ Aside0 (wc.heap[gb308]? = some (.cells #[.int .i64 a0_0, .int .i64 a0_1, (.slice (some ad310) l0_2.length c0_2)] 28 (0, 0))) ∧ Aside0 (Below w.heap.size w wc))
            case first =>
             have H := HC16.out
             clear HC16
             by_cases c17 : x9_1 = x14_2
             ·rw [if_pos c17] at H
              have c17b0 : (x9_1 == x14_2) = true := beq_iff_eq.mpr c17
              have c17b1 : (x9_1 != x14_2) = false := bne_eq_false_iff_eq.mpr c17
              clear c17
              (first | rw [c17b0] | (simp only [i64_w, i32_w]; rw [c17b0]) | skip)
              by_cases c18 : x3_2 = 0
              ·rw [if_pos c18] at H
               have c18b0 : (x3_2 == 0) = true := beq_iff_eq.mpr c18
               have c18b1 : (x3_2 != 0) = false := bne_eq_false_iff_eq.mpr c18
               clear c18
               by_cases c19 : (rd l0_2 t309) = 0
               ·rw [if_pos c19] at H
                have c19b0 : ((rd l0_2 t309) == 0) = true := beq_iff_eq.mpr c19
                have c19b1 : ((rd l0_2 t309) != 0) = false := bne_eq_false_iff_eq.mpr c19
                clear c19
                have H' := am_ H
                clear H
                go_wp2
                go_meet
                case rel => exact ⟨_, (false), (by first | rfl | (simp; done) | (simp [*]; done)), H', ⟨by have := HK1.out; have := HK2.out; have := HJ9.out; first | omega | exact Nat.le_refl _⟩, ⟨bk_ BK308.out⟩, ⟨bb_ HB.out⟩⟩
               ·rw [if_neg c19] at H
                have c19b0 : ((rd l0_2 t309) == 0) = false := beq_eq_false_iff_ne.mpr c19
                have c19b1 : ((rd l0_2 t309) != 0) = true := bne_iff_ne.mpr c19
                have H' := am_ H
                clear H
                go_wp2
                go_meet
                case rel => exact ⟨_, (true), (by first | rfl | (simp; done) | (simp [*]; done)), H', ⟨by have := HK1.out; have := HK2.out; have := HJ9.out; first | omega | exact Nat.le_refl _⟩, ⟨bk_ BK308.out⟩, ⟨bb_ HB.out⟩⟩
              ·rw [if_neg c18] at H
               have c18b0 : (x3_2 == 0) = false := beq_eq_false_iff_ne.mpr c18
               have c18b1 : (x3_2 != 0) = true := bne_iff_ne.mpr c18
               have H' := am_ H
               clear H
               go_wp2
               go_meet
               case rel => exact ⟨_, (((Int.tmod (rd l0_2 t309) x3_2) != 0)), (by first | rfl | (simp; done) | (simp [*]; done)), H', ⟨by have := HK1.out; have := HK2.out; have := HJ9.out; first | omega | exact Nat.le_refl _⟩, ⟨bk_ BK308.out⟩, ⟨bb_ HB.out⟩⟩
             ·rw [if_neg c17] at H
              have c17b0 : (x9_1 == x14_2) = false := beq_eq_false_iff_ne.mpr c17
              have c17b1 : (x9_1 != x14_2) = true := bne_iff_ne.mpr c17
              (first | rw [c17b0] | (simp only [i64_w, i32_w]; rw [c17b0]) | skip)
              have H' := am_ H
              clear H
              go_wp2
              go_meet
              case rel => exact ⟨_, (false), (by first | rfl | (simp; done) | (simp [*]; done)), H', ⟨by have := HK1.out; have := HK2.out; have := HJ9.out; first | omega | exact Nat.le_refl _⟩, ⟨bk_ BK308.out⟩, ⟨bb_ HB.out⟩⟩
            case rest =>
             clear HC16
             try clear c1
             try clear p2
             try clear c3
             try clear p3
             try clear q3
             try clear hx3
             try clear c4
             try clear c4b0
             try clear c6
             try clear c6b0
             try clear c8
             try clear c8b0
             try clear c9
             try clear c9b0
             try clear c13
             try clear c13b0
             try clear c13b1
             try clear c14
             try clear c14b0
             try clear c14b1
             try clear c15
             try clear c17
             try clear c17b0
             try clear c17b1
             try clear c18
             try clear c18b0
             try clear c18b1
             try clear c19
             try clear c19b0
             try clear c19b1
             try clear hcz11_0
             try clear hcz11_1
             try clear hcz11_2
             try clear hcz3_0
             try clear hcz3_1
             try clear hcz3_2
             try clear hcz5_0
             try clear hcz5_1
             try clear hcz5_2
             try clear hfz11_0
             try clear hfz11_1
             try clear hfz11_2
             try clear hfz3_0
             try clear hfz3_1
             try clear hfz3_2
             try clear hfz5_0
             try clear hfz5_1
             try clear hfz5_2
             try clear hx310_0
             try clear p2
             try clear p3
             try clear p310
             try clear q3
             try clear q310
             obtain ⟨kq, x35_15, rfl, HA, HJ15, BK308, HB⟩ := hcut
             cases kq with
             | zero => exact absurd HA.out (by simp [impl_isDiagonal.j3])
             | succ kj15 =>
              have H := HA.out
              clear HA
              simp only [impl_isDiagonal.j3] at H
              by_cases c20 : x35_15 = true
              ·subst c20
               have H1 : (some false) = some r := by rw [if_pos rfl] at H; exact H
               clear H
               have H := H1
               clear H1
               obtain rfl := Option.some.inj H
               go_wp2
               go_ret
               exact ⟨by first | rfl | (simp [errW_none, errW_some] <;> rfl) | (simp [*, errW_none, errW_some] <;> rfl), bb_ HB.out⟩
              ·replace c20 := Bool.eq_false_iff.mpr c20
               subst c20
               have H1 : (if x9_1 = x14_2 then (impl_isDiagonal.l1 kj15 (rd l0_2 t309) x9_1 a0_0 x9_1 a0_1 (wrap64 (x14_2 + 1)) a0_0 a0_1 l0_2) else (impl_isDiagonal.l1 kj15 x3_2 x9_1 a0_0 x9_1 a0_1 (wrap64 (x14_2 + 1)) a0_0 a0_1 l0_2)) = some r := by rw [if_neg (show ¬ (false = true) by decide)] at H; exact H
               clear H
               have H := H1
               clear H1
               by_cases c21 : x9_1 = x14_2
               ·rw [if_pos c21] at H
                have c21b0 : (x9_1 == x14_2) = true := beq_iff_eq.mpr c21
                have c21b1 : (x9_1 != x14_2) = false := bne_eq_false_iff_eq.mpr c21
                clear c21
                have H' := am_ H
                clear H
                go_wp2
                go_roundg kj15
                case measure => have := HK1.out; have := HK2.out; have := HJ9.out; have := HJ15.out; omega
                case rel => exact ⟨((rd l0_2 t309)), (wrap64 (x14_2 + 1)), (by first | rfl | (simp; done) | (simp [*]; done)), (by first | rfl | (simp; done) | (simp [*]; done)), H', ⟨by have := HK1.out; have := HK2.out; have := HJ9.out; have := HJ15.out; omega⟩, ⟨bk_ BK308.out⟩, ⟨bb_ HB.out⟩⟩
               ·rw [if_neg c21] at H
                have c21b0 : (x9_1 == x14_2) = false := beq_eq_false_iff_ne.mpr c21
                have c21b1 : (x9_1 != x14_2) = true := bne_iff_ne.mpr c21
                have H' := am_ H
                clear H
                go_wp2
                go_roundg kj15
                case measure => have := HK1.out; have := HK2.out; have := HJ9.out; have := HJ15.out; omega
                case rel => exact ⟨(x3_2), (wrap64 (x14_2 + 1)), (by first | rfl | (simp; done) | (simp [*]; done)), (by first | rfl | (simp; done) | (simp [*]; done)), H', ⟨by have := HK1.out; have := HK2.out; have := HJ9.out; have := HJ15.out; omega⟩, ⟨bk_ BK308.out⟩, ⟨bb_ HB.out⟩⟩
        ·rw [if_neg c9] at H
         exact absurd H (by simp)
       ·rw [if_neg c8] at H
        exact absurd H (by simp)
      ·rw [if_neg c6] at H
       have c6b0 : decide (x14_2 < a0_1) = false := decide_eq_false c6
       clear c6
       have H' := am_ H
       clear H
       go_wp2
       go_roundg k2
       case measure => have := HK1.out; have := HK2.out; omega
       case rel => exact ⟨(x3_2), (wrap64 (x9_1 + 1)), (by first | rfl | (simp; done) | (simp [*]; done)), (by first | rfl | (simp; done) | (simp [*]; done)), H', ⟨by have := HK1.out; have := HK2.out; omega⟩, ⟨bk_ BK308.out⟩, ⟨bb_ HB.out⟩⟩
   ·rw [if_neg c4] at H
    have c4b0 : decide (x9_1 < a0_0) = false := decide_eq_false c4
    clear c4
    obtain rfl := Option.some.inj H
    go_wp2
    go_ret
    exact ⟨by first | rfl | (simp [errW_none, errW_some] <;> rfl) | (simp [*, errW_none, errW_some] <;> rfl), bb_ HB.out⟩

end Go.Proofs.Ytifbfloifdkacaa.PFnExactIsReduction
