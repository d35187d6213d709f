/- Written by this session's program out of the kit's print and this session's contracts. -/
import Derived.Test.YtbcdngjajjgmkaaVFnExactSimplifyPresentationPx0
import Derived.Test.YtbcdngjajjgmkaaVFnExactSimplifyPresentationPx4
import Derived.Test.YtbcdngjajjgmkaaVFnExactSimplifyPresentationPx5
namespace Go.Proofs.Ytbcdngjajjgmkaa.PFnExactSimplifyPresentation
open Go.RowKit Go.Proofs.YtbcdngjajjgmkaaW.PrintWords Go.Proofs.YtbcdngjajjgmkaaW.PrintLast Go.Proofs.YtbcdngjajjgmkaaW.PrintMore
set_option maxHeartbeats 8000000
set_option maxRecDepth 100000
set_option linter.unusedVariables false
set_option linter.unusedSimpArgs false

/-! ### spec_l04Put: function 120 -/
mutual
def spec_l04Put.l0 : Nat → List Int → Int → List Int → List Int → Int → Option (List Int)
 | 0, _, _, _, _, _ => none
 | k + 1, x0, x1, x2, x7, x8 => if x8 < (x0.length : Int) then (if 0 ≤ x8 then (if (rd x0 x8) = x1 then (if x7.length + x2.length < 17592186044416 then (spec_l04Put.l0 k x0 x1 x2 (x7 ++ x2) (wrap64 (x8 + 1))) else (none)) else (if (rd x0 x8) = (wrap64 (-x1)) then ((spec_l04Inverse.f k x2).bind fun t233 => (if x7.length + t233.length < 17592186044416 then (spec_l04Put.l0 k x0 x1 x2 (x7 ++ t233) (wrap64 (x8 + 1))) else (none))) else (if x7.length < 17592186044416 then (spec_l04Put.l0 k x0 x1 x2 (x7 ++ [rd x0 x8]) (wrap64 (x8 + 1))) else (none)))) else (none)) else ((spec_l04Reduce.f k x7).bind fun t243 => (spec_l04Put.l1 k x1 t243 0))
def spec_l04Put.l1 : Nat → Int → List Int → Int → Option (List Int)
 | 0, _, _, _ => none
 | k + 1, x1, x7, x9 => if x9 < (x7.length : Int) then (if 0 ≤ x9 then (if (rd x7 x9) > x1 then (spec_l04Put.l1 k x1 (x7.set (x9 : Int).toNat (wrap64 ((rd x7 x9) - 1))) (wrap64 (x9 + 1))) else (if (rd x7 x9) < (wrap64 (-x1)) then (spec_l04Put.l1 k x1 (x7.set (x9 : Int).toNat (wrap64 ((rd x7 x9) + 1))) (wrap64 (x9 + 1))) else (spec_l04Put.l1 k x1 x7 (wrap64 (x9 + 1))))) else (none)) else (some x7)
end
def spec_l04Put.f (k : Nat) (l0 : List Int) (a1 : Int) (l2 : List Int) : Option (List Int) := spec_l04Put.l0 k l0 a1 l2 (([] : List Int)) 0
theorem spec_l04Put.calls (k : Nat) (A0 : Option Addr) (c0 : Nat) (l0 : List Int) (a1 : Int) (A2 : Option Addr) (c2 : Nat) (l2 : List Int) (r : List Int) (w : World) (hr0 : Kd.C (Kd.int .i64) w A0 l0.length l0) (hc0 : l0.length ≤ c0) (hr2 : Kd.C (Kd.int .i64) w A2 l2.length l2) (hc2 : l2.length ≤ c2) (h : spec_l04Put.f k l0 a1 l2 = some r) :
  Calls Try.prog 120 #[.slice A0 l0.length c0, .int .i64 a1, .slice A2 l2.length c2] w fun e w' => ∃ v0_ : Value, e = .returned (v0_) ∧ Kd.R (Kd.int .i64) 2 w' w.heap.size (fun _ => True) v0_ r ∧ Below w.heap.size w w' := by
 have HR0 := am_ hr0
 have HC0 := am_ hc0
 clear hr0 hc0
 have HR2 := am_ hr2
 have HC2 := am_ hc2
 clear hr2 hc2
 have HB := am_ (Below.refl w.heap.size w)
 have H : (spec_l04Put.l0 k l0 a1 l2 (([] : List Int)) 0) = some r := h
 clear h
 obtain ⟨y226, hy226⟩ : ∃ y_ : List Int, y_ = (([] : List Int)) := ⟨_, rfl⟩
 replace H : (spec_l04Put.l0 k l0 a1 l2 y226 0) = some r := hq_ hy226 H
 have Ny226 := am_ hy226
 clear hy226
 have H' := am_ H
 clear H
 go_enter Try.func120, Try.ntmps120
 go_wp2_with (first | ((with_reducible refine gate_dst (N := 10) rfl ?_); refine Kd.R_lit (Kd.int .i64) _ 2 ?hg (N := 10) ?hd (xs := ([] : List Int)) (inner := []) (ok := fun _ => True) (okp := fun _ => True) ?hr ?hp (fun _ hk => hk) trivial (Below.refl _ _) (Nat.le_refl _) (by simp) ?_; (case hd => rfl); (case hg => rfl); (case hr => first | (go_simp; done) | (go_simp; rfl)); (case hp => exact (Reps.none _ _)); intro v227 w4 ho5 hb hg_ hnew_; clear hg_ hnew_; (first | rw [← Ny226.out] at ho5 | (simp only [Int.reduceToNat] at ho5; rw [← Ny226.out] at ho5)); have n0_ := am_ (Kd.R_lower ho5 (below_size (bb_ HB.out))); have n1_ := am_ (below_step (bb_ HB.out) hb); clear HB; revert n0_ n1_; intro HO228 HB; clear hb ho5))
 go_loopg [7, 8] k (fun kq v7 v8 w' => ∃ (x7_1 : List Int) (x8_1 : Int), v8 = .int .i64 x8_1 ∧ Aside0 (spec_l04Put.l0 kq l0 a1 l2 x7_1 x8_1 = some r) ∧ Aside0 (kq ≤ k) ∧ Aside0 (Kd.R (Kd.int .i64) 2 w' w.heap.size (fun _ => True) v7 x7_1) ∧ Aside0 (Below w.heap.size w w'))
 case atStart => exact ⟨(y226), (0), (by first | rfl | (simp; done) | (simp [*]; done)), H', ⟨Nat.le_refl _⟩, ⟨rk_ HO228.out⟩, ⟨bb_ HB.out⟩⟩
 case round =>
  clear H'
  try clear c1
  try clear c2
  try clear p2
  obtain ⟨x7_1, x8_1, rfl, HA, HK1, HO_7, HB⟩ := hrel
  cases gk with
  | zero => exact absurd HA.out (by simp [spec_l04Put.l0])
  | succ k1 =>
   have H := HA.out
   clear HA
   simp only [spec_l04Put.l0] at H
   by_cases c6 : x8_1 < (l0.length : Int)
   ·rw [if_pos c6] at H
    have c6b0 : decide (x8_1 < (l0.length : Int)) = true := decide_eq_true c6
    clear c6
    by_cases c7 : 0 ≤ x8_1
    ·rw [if_pos c7] at H
     have c7b0 : decide (0 ≤ x8_1) = true := decide_eq_true c7
     clear c7
     by_cases c8 : (rd l0 x8_1) = a1
     ·rw [if_pos c8] at H
      have c8b0 : ((rd l0 x8_1) == a1) = true := beq_iff_eq.mpr c8
      have c8b1 : ((rd l0 x8_1) != a1) = false := bne_eq_false_iff_eq.mpr c8
      clear c8
      by_cases c9 : x7_1.length + l2.length < 17592186044416
      ·rw [if_pos c9] at H
       have LMc9 := am_ c9
       clear c9
       obtain ⟨y230, hy230⟩ : ∃ y_ : List Int, y_ = (x7_1 ++ l2) := ⟨_, rfl⟩
       replace H : (spec_l04Put.l0 k1 l0 a1 l2 y230 (wrap64 (x8_1 + 1))) = some r := hq_ hy230 H
       have Ny230 := am_ hy230
       clear hy230
       have H' := am_ H
       clear H
       have p229 : 0 ≤ (x8_1 : Int) := da_
       have q229 : x8_1 < (l0.length : Int) := da_
       obtain ⟨ad229, e229, hx229_0⟩ := Kd.at_int HR0.out x8_1 p229 q229
       cases e229
       replace hx229_0 := ce_ HB hx229_0
       replace p229 := eq_true p229
       replace q229 := eq_true q229
       go_wp2_with (first | ((with_reducible refine gate_builtin (b := .append) (xs := #[.tmp 31, .tmp 32]) rfl ?_); at_builtin; refine Kd.R_append_rows (Kd.int .i64) (w0 := w) w.heap.size rfl (.tmp 31) (.tmp 32) 39 2 (.int .i64 0) 8 rfl Try.underlying39 info2 rfl (by decide) (by omega) u7 x7_1 l2 _ _ _ (fun _ => True) (fun _ => False) rfl rfl ?aO ?aR (fun _ _ h => h) (fun _ h => h.elim) ?aF ?aB ?aS ?aL ?_; (case aR => exact cb_ HR2 HB); (case aB => exact (bb_ HB.out)); (case aF => exact (fun _ _ => trivial)); (case aO => exact (rk_ HO_7.out)); (case aS => exact (below_size (bb_ HB.out))); (case aL => have := LMc9.out; omega); intro v231 w10 ho hb hg hat; rw [← Ny230.out] at ho; have n0_ := am_ (hb); have n1_ := am_ (ho); clear HB HO_7; revert n0_ n1_; intro HB HO232; clear ho hb hg hat))
       go_roundg k1
       case measure => have := HK1.out; omega
       case rel => exact ⟨(y230), (wrap64 (x8_1 + 1)), (by first | rfl | (simp; done) | (simp [*]; done)), H', ⟨by have := HK1.out; omega⟩, ⟨rk_ HO232.out⟩, ⟨bb_ HB.out⟩⟩
      ·rw [if_neg c9] at H
       exact absurd H (by simp)
     ·rw [if_neg c8] at H
      have c8b0 : ((rd l0 x8_1) == a1) = false := beq_eq_false_iff_ne.mpr c8
      have c8b1 : ((rd l0 x8_1) != a1) = true := bne_iff_ne.mpr c8
      by_cases c11 : (rd l0 x8_1) = (wrap64 (-a1))
      ·rw [if_pos c11] at H
       have c11b0 : ((rd l0 x8_1) == (wrap64 (-a1))) = true := beq_iff_eq.mpr c11
       have c11b1 : ((rd l0 x8_1) != (wrap64 (-a1))) = false := bne_eq_false_iff_eq.mpr c11
       clear c11
       replace H := Option.bind_eq_some_iff.mp H
       obtain ⟨t233, A120, H⟩ := H
       replace H : (if x7_1.length + t233.length < 17592186044416 then (spec_l04Put.l0 k1 l0 a1 l2 (x7_1 ++ t233) (wrap64 (x8_1 + 1))) else (none)) = some r := H
       have A12 := am_ A120
       clear A120
       by_cases c13 : x7_1.length + t233.length < 17592186044416
       ·rw [if_pos c13] at H
        have LMc13 := am_ c13
        clear c13
        obtain ⟨y236, hy236⟩ : ∃ y_ : List Int, y_ = (x7_1 ++ t233) := ⟨_, rfl⟩
        replace H : (spec_l04Put.l0 k1 l0 a1 l2 y236 (wrap64 (x8_1 + 1))) = some r := hq_ hy236 H
        have Ny236 := am_ hy236
        clear hy236
        have H' := am_ H
        clear H
        have p229 : 0 ≤ (x8_1 : Int) := da_
        have q229 : x8_1 < (l0.length : Int) := da_
        obtain ⟨ad229, e229, hx229_0⟩ := Kd.at_int HR0.out x8_1 p229 q229
        cases e229
        replace hx229_0 := ce_ HB hx229_0
        replace p229 := eq_true p229
        replace q229 := eq_true q229
        go_wp2_with (first | ((with_reducible refine gate_callee (f := 96) rfl ?_); refine goesL_ (some 40) rfl rfl Try.func96 (by kernel_rfl) rfl #[.slice A2 l2.length c2] rfl lm_ ?_; (with_reducible refine (spec_l04Inverse.calls k1 _ _ l2 t233 _ ?side1 ?side2 A12.out).mono ?_); (case side1 => exact cb_ HR2 HB); (case side2 => exact HC2.out); rintro e w14 ⟨v234, rfl, ho0, hb⟩; refine ⟨_, rfl, ?_⟩; have n0_ := am_ (Kd.R_elder' (rk_ HO_7.out) (Kd.R_base ho0) hb); have n1_ := am_ (Kd.R_lower (Kd.R_new' ho0 (Kd.R_lt (rk_ HO_7.out))) (below_size (bb_ HB.out))); have n2_ := am_ (below_step (bb_ HB.out) hb); clear HO_7 HB; revert n0_ n1_ n2_; intro HO_7 HO235 HB; (try clear hb); (try clear hb2); (try clear hk); (try clear hi); (try clear ho0); obtain ⟨Ao16, co16, eo16⟩ := Kd.R_slice HO235.out; subst eo16) | ((with_reducible refine gate_builtin (b := .append) (xs := #[.tmp 38, .tmp 40]) rfl ?_); at_builtin; refine Kd.R_append_rows (Kd.int .i64) (w0 := w) w.heap.size rfl (.tmp 38) (.tmp 40) 39 2 (.int .i64 0) 8 rfl Try.underlying39 info2 rfl (by decide) (by omega) u7 x7_1 t233 _ _ _ (fun k_ => some k_ ≠ (.slice Ao16 t233.length co16 : Value).ownBlock) (fun _ => False) rfl rfl ?aO ?aR (fun _ _ h => h) (fun _ h => h.elim) ?aF ?aB ?aS ?aL ?_; (case aR => exact cz_ (Kd.R_reads' HO235.out).2.2); (case aB => exact (bb_ HB.out)); (case aF => exact (fun k_ hk => Kd.fresh' (Kd.R_lt (rk_ HO235.out)) k_ hk)); (case aO => exact (rm_ HO_7.out (fun _ hk => hk.2))); (case aS => exact (below_size (bb_ HB.out))); (case aL => have := LMc13.out; omega); intro v237 w15 ho hb hg hat; rw [← Ny236.out] at ho; have n0_ := am_ (Kd.R_after (ok := (fun _ => True)) (rk_ HO235.out) hg hat); have n1_ := am_ (hb); have n2_ := am_ (ho); clear HO235 HB HO_7; revert n0_ n1_ n2_; intro HO235 HB HO238; clear ho hb hg hat))
        go_roundg k1
        case measure => have := HK1.out; omega
        case rel => exact ⟨(y236), (wrap64 (x8_1 + 1)), (by first | rfl | (simp; done) | (simp [*]; done)), H', ⟨by have := HK1.out; omega⟩, ⟨rm_ HO238.out (fun _ hk => trivial)⟩, ⟨bb_ HB.out⟩⟩
       ·rw [if_neg c13] at H
        exact absurd H (by simp)
      ·rw [if_neg c11] at H
       have c11b0 : ((rd l0 x8_1) == (wrap64 (-a1))) = false := beq_eq_false_iff_ne.mpr c11
       have c11b1 : ((rd l0 x8_1) != (wrap64 (-a1))) = true := bne_iff_ne.mpr c11
       by_cases c17 : x7_1.length < 17592186044416
       ·rw [if_pos c17] at H
        have LMc17 := am_ c17
        clear c17
        obtain ⟨y240, hy240⟩ : ∃ y_ : List Int, y_ = (x7_1 ++ [rd l0 x8_1]) := ⟨_, rfl⟩
        replace H : (spec_l04Put.l0 k1 l0 a1 l2 y240 (wrap64 (x8_1 + 1))) = some r := hq_ hy240 H
        have Ny240 := am_ hy240
        clear hy240
        have H' := am_ H
        clear H
        have p229 : 0 ≤ (x8_1 : Int) := da_
        have q229 : x8_1 < (l0.length : Int) := da_
        obtain ⟨ad229, e229, hx229_0⟩ := Kd.at_int HR0.out x8_1 p229 q229
        cases e229
        replace hx229_0 := ce_ HB hx229_0
        replace p229 := eq_true p229
        replace q229 := eq_true q229
        have p239 : 0 ≤ (x8_1 : Int) := da_
        have q239 : x8_1 < (l0.length : Int) := da_
        obtain ⟨ad239, e239, hx239_0⟩ := Kd.at_int HR0.out x8_1 p239 q239
        obtain rfl : ad229 = ad239 := (by injection e239)
        replace hx239_0 := ce_ HB hx239_0
        replace p239 := eq_true p239
        replace q239 := eq_true q239
        go_wp2_with (first | ((with_reducible refine gate_builtin (b := .append) (xs := #[.tmp 21, .tmp 26]) rfl ?_); at_builtin; refine Kd.R_append (Kd.int .i64) (w0 := w) w.heap.size rfl (.tmp 21) (.tmp 26) 39 2 (.int .i64 0) 8 rfl Try.underlying39 info2 rfl (by decide) (by omega) u7 x7_1 (rd l0 x8_1) [.int .i64 (rd l0 x8_1)] (fun _ => True) (fun _ => False) rfl rfl ?aP (fun _ hk => hk.elim) ?aF ?aO ?aB ?aS ?aL ?_; (case aP => exact rfl); (case aB => exact (bb_ HB.out)); (case aF => exact (fun _ _ => trivial)); (case aO => exact (rk_ HO_7.out)); (case aS => exact (below_size (bb_ HB.out))); (case aL => have := LMc17.out; omega); intro v241 w18 ho hb hg hat; rw [← Ny240.out] at ho; have n0_ := am_ (hb); have n1_ := am_ (ho); clear HB HO_7; revert n0_ n1_; intro HB HO242; clear ho hb hg hat))
        go_roundg k1
        case measure => have := HK1.out; omega
        case rel => exact ⟨(y240), (wrap64 (x8_1 + 1)), (by first | rfl | (simp; done) | (simp [*]; done)), H', ⟨by have := HK1.out; omega⟩, ⟨rk_ HO242.out⟩, ⟨bb_ HB.out⟩⟩
       ·rw [if_neg c17] at H
        exact absurd H (by simp)
    ·rw [if_neg c7] at H
     exact absurd H (by simp)
   ·rw [if_neg c6] at H
    have c6b0 : decide (x8_1 < (l0.length : Int)) = false := decide_eq_false c6
    clear c6
    replace H := Option.bind_eq_some_iff.mp H
    obtain ⟨t243, A190, H⟩ := H
    replace H : (spec_l04Put.l1 k1 a1 t243 0) = some r := H
    have A19 := am_ A190
    clear A190
    have H' := am_ H
    clear H
    obtain ⟨Ao20, co20, eo20⟩ := Kd.R_slice HO_7.out
    subst eo20
    go_wp2_with (first | ((with_reducible refine gate_callee (f := 87) rfl ?_); refine goesL_ (some 43) rfl rfl Try.func87 (by kernel_rfl) rfl #[.slice Ao20 x7_1.length co20] rfl lm_ ?_; (with_reducible refine (spec_l04Reduce.calls k1 _ _ x7_1 t243 _ ?side1 ?side2 A19.out).mono ?_); (case side1 => exact cz_ (Kd.R_reads' HO_7.out).2.2); (case side2 => exact (Kd.R_reads' HO_7.out).2.1); rintro e w21 ⟨v244, rfl, ho0, hb⟩; refine ⟨_, rfl, ?_⟩; have n0_ := am_ (Kd.R_elder' (rk_ HO_7.out) (Kd.R_base ho0) hb); have n1_ := am_ (Kd.R_lower (Kd.R_new' ho0 (Kd.R_lt (rk_ HO_7.out))) (below_size (bb_ HB.out))); have n2_ := am_ (below_step (bb_ HB.out) hb); clear HO_7 HB; revert n0_ n1_ n2_; intro HO_7 HO245 HB; (try clear hb); (try clear hb2); (try clear hk); (try clear hi); (try clear ho0)))
    go_loopg [9] k1 (fun kq v9 w' => ∃ (x7_2 : List Int) (x9_2 : Int), v9 = .int .i64 x9_2 ∧ Aside0 (spec_l04Put.l1 kq a1 x7_2 x9_2 = some r) ∧ Aside0 (kq ≤ k1) ∧ Aside0 (Kd.R (Kd.int .i64) 2 w' w.heap.size (fun _ => True) v244 x7_2) ∧ Aside0 (Below w.heap.size w w'))
    case atStart => exact ⟨(t243), (0), (by first | rfl | (simp; done) | (simp [*]; done)), H', ⟨Nat.le_refl _⟩, ⟨rm_ HO245.out (fun _ hk => trivial)⟩, ⟨bb_ HB.out⟩⟩
    case round =>
     clear H'
     try clear c1
     try clear c2
     try clear p2
     try clear q2
     try clear hx2
     try clear c6
     try clear c6b0
     try clear p6
     try clear c7
     try clear c7b0
     try clear c8
     try clear c8b0
     try clear c8b1
     try clear c9
     try clear c11
     try clear c11b0
     try clear c11b1
     try clear c12
     try clear c13
     try clear c17
     try clear hx229_0
     try clear hx239_0
     try clear p2
     try clear p229
     try clear p239
     try clear q229
     try clear q239
     obtain ⟨x7_2, x9_2, rfl, HA, HK2, HO_7, HB⟩ := hrel
     cases gk with
     | zero => exact absurd HA.out (by simp [spec_l04Put.l1])
     | succ k2 =>
      have H := HA.out
      clear HA
      simp only [spec_l04Put.l1] at H
      by_cases c22 : x9_2 < (x7_2.length : Int)
      ·rw [if_pos c22] at H
       have c22b0 : decide (x9_2 < (x7_2.length : Int)) = true := decide_eq_true c22
       clear c22
       by_cases c23 : 0 ≤ x9_2
       ·rw [if_pos c23] at H
        have c23b0 : decide (0 ≤ x9_2) = true := decide_eq_true c23
        clear c23
        by_cases c24 : (rd x7_2 x9_2) > a1
        ·rw [if_pos c24] at H
         have c24b0 : decide (a1 < (rd x7_2 x9_2)) = true := decide_eq_true c24
         clear c24
         obtain ⟨y248, hy248⟩ : ∃ y_ : List Int, y_ = (x7_2.set (x9_2 : Int).toNat (wrap64 ((rd x7_2 x9_2) - 1))) := ⟨_, rfl⟩
         replace H : (spec_l04Put.l1 k2 a1 y248 (wrap64 (x9_2 + 1))) = some r := hq_ hy248 H
         have Ny248 := am_ hy248
         clear hy248
         have H' := am_ H
         clear H
         obtain ⟨Ao26, co26, eo26⟩ := Kd.R_slice HO_7.out
         subst eo26
         have p246 : 0 ≤ (x9_2 : Int) := da_
         have q246 : x9_2 < (x7_2.length : Int) := da_
         obtain ⟨ad246, e246, hx246_0⟩ := Kd.at_int (Kd.R_reads' HO_7.out).2.2 x9_2 p246 q246
         cases e246
         replace p246 := eq_true p246
         replace q246 := eq_true q246
         have p247 : 0 ≤ (x9_2 : Int) := da_
         have q247 : x9_2 < (x7_2.length : Int) := da_
         obtain ⟨ad247, e247, hx247_0⟩ := Kd.at_int (Kd.R_reads' HO_7.out).2.2 x9_2 p247 q247
         obtain rfl : ad246 = ad247 := (by injection e247)
         replace p247 := eq_true p247
         replace q247 := eq_true q247
         have p25 : 0 ≤ (x9_2 : Int) := da_
         have q25 : (x9_2 : Int) < ((x7_2.length : Int) : Int) := da_
         obtain ⟨go25, co25, eo25, gb25, gl25, cl25, HG25⟩ := Kd.R_form HO_7.out (by omega)
         (first | cases eo25 | (injection eo25 with ea_ en_ ec_; (first | subst ea_ | (injection ea_ with ea_; subst ea_)); subst ec_; clear en_))
         have GB25 := am_ gb25
         have GG25 := am_ HG25
         clear gb25 gl25 HG25
         (first | simp only [add_plain] at hx246_0 | skip)
         (first | simp only [add_plain] at hx247_0 | skip)
         obtain ⟨hx25_0, hf25_0⟩ := Kd.R_celln 0 HO_7.out (x9_2 : Int) p25 q25
         replace p25 := eq_true p25
         replace q25 := eq_true q25
         have HP27 := Kd.R_putg HO_7.out (x9_2 : Int) (wrap64 ((rd x7_2 x9_2) - 1))
         go_wp2_with (first | ((with_reducible refine gate_store (t := 2) (p := 63) rfl ?_); refine store_event (t := 2) (p := 63) (v := ?vo_w28) (w1 := (wr.setCell ⟨go25, (x9_2 : Int).toNat, none⟩ (.int .i64 (wrap64 ((rd x7_2 x9_2) - 1))))) ?hg ?ho ?hn ?hr ?_; (case ho => rfl); (case hg => rfl); (case hn => rfl); (case hr => first | (go_simp; done) | (go_simp; rfl)); intro w28 hw; have hg : wr.grownBy w28 (some go25) := (by rw [hw]; exact HP27.2); have hp_ : Kd.R (Kd.int .i64) 2 w28 w.heap.size (fun _ => True) (.slice (some ⟨go25, 0, none⟩) x7_2.length co26) y248 := (by rw [hw, Ny248.out]; exact HP27.1); clear HP27; have n0_ := am_ (hp_); have n1_ := am_ ((by rw [hw]; exact below_set (HB.out) GB25.out : Below w.heap.size w w28)); clear HO_7 HB; revert n0_ n1_; intro HO_7 HB; clear hg hw hp_))
         go_roundg k2
         case measure => have := HK1.out; have := HK2.out; omega
         case rel => exact ⟨(y248), (wrap64 (x9_2 + 1)), (by first | rfl | (simp; done) | (simp [*]; done)), H', ⟨by have := HK1.out; have := HK2.out; omega⟩, ⟨rk_ HO_7.out⟩, ⟨bb_ HB.out⟩⟩
        ·rw [if_neg c24] at H
         have c24b0 : decide (a1 < (rd x7_2 x9_2)) = false := decide_eq_false c24
         clear c24
         by_cases c29 : (rd x7_2 x9_2) < (wrap64 (-a1))
         ·rw [if_pos c29] at H
          have c29b0 : decide ((rd x7_2 x9_2) < (wrap64 (-a1))) = true := decide_eq_true c29
          clear c29
          obtain ⟨y251, hy251⟩ : ∃ y_ : List Int, y_ = (x7_2.set (x9_2 : Int).toNat (wrap64 ((rd x7_2 x9_2) + 1))) := ⟨_, rfl⟩
          replace H : (spec_l04Put.l1 k2 a1 y251 (wrap64 (x9_2 + 1))) = some r := hq_ hy251 H
          have Ny251 := am_ hy251
          clear hy251
          have H' := am_ H
          clear H
          obtain ⟨Ao31, co31, eo31⟩ := Kd.R_slice HO_7.out
          subst eo31
          have p246 : 0 ≤ (x9_2 : Int) := da_
          have q246 : x9_2 < (x7_2.length : Int) := da_
          obtain ⟨ad246, e246, hx246_0⟩ := Kd.at_int (Kd.R_reads' HO_7.out).2.2 x9_2 p246 q246
          cases e246
          replace p246 := eq_true p246
          replace q246 := eq_true q246
          have p249 : 0 ≤ (x9_2 : Int) := da_
          have q249 : x9_2 < (x7_2.length : Int) := da_
          obtain ⟨ad249, e249, hx249_0⟩ := Kd.at_int (Kd.R_reads' HO_7.out).2.2 x9_2 p249 q249
          obtain rfl : ad246 = ad249 := (by injection e249)
          replace p249 := eq_true p249
          replace q249 := eq_true q249
          have p250 : 0 ≤ (x9_2 : Int) := da_
          have q250 : x9_2 < (x7_2.length : Int) := da_
          obtain ⟨ad250, e250, hx250_0⟩ := Kd.at_int (Kd.R_reads' HO_7.out).2.2 x9_2 p250 q250
          obtain rfl : ad246 = ad250 := (by injection e250)
          replace p250 := eq_true p250
          replace q250 := eq_true q250
          have p30 : 0 ≤ (x9_2 : Int) := da_
          have q30 : (x9_2 : Int) < ((x7_2.length : Int) : Int) := da_
          obtain ⟨go30, co30, eo30, gb30, gl30, cl30, HG30⟩ := Kd.R_form HO_7.out (by omega)
          (first | cases eo30 | (injection eo30 with ea_ en_ ec_; (first | subst ea_ | (injection ea_ with ea_; subst ea_)); subst ec_; clear en_))
          have GB30 := am_ gb30
          have GG30 := am_ HG30
          clear gb30 gl30 HG30
          (first | simp only [add_plain] at hx246_0 | skip)
          (first | simp only [add_plain] at hx249_0 | skip)
          (first | simp only [add_plain] at hx250_0 | skip)
          obtain ⟨hx30_0, hf30_0⟩ := Kd.R_celln 0 HO_7.out (x9_2 : Int) p30 q30
          replace p30 := eq_true p30
          replace q30 := eq_true q30
          have HP32 := Kd.R_putg HO_7.out (x9_2 : Int) (wrap64 ((rd x7_2 x9_2) + 1))
          go_wp2_with (first | ((with_reducible refine gate_store (t := 2) (p := 78) rfl ?_); refine store_event (t := 2) (p := 78) (v := ?vo_w33) (w1 := (wr.setCell ⟨go30, (x9_2 : Int).toNat, none⟩ (.int .i64 (wrap64 ((rd x7_2 x9_2) + 1))))) ?hg ?ho ?hn ?hr ?_; (case ho => rfl); (case hg => rfl); (case hn => rfl); (case hr => first | (go_simp; done) | (go_simp; rfl)); intro w33 hw; have hg : wr.grownBy w33 (some go30) := (by rw [hw]; exact HP32.2); have hp_ : Kd.R (Kd.int .i64) 2 w33 w.heap.size (fun _ => True) (.slice (some ⟨go30, 0, none⟩) x7_2.length co31) y251 := (by rw [hw, Ny251.out]; exact HP32.1); clear HP32; have n0_ := am_ (hp_); have n1_ := am_ ((by rw [hw]; exact below_set (HB.out) GB30.out : Below w.heap.size w w33)); clear HO_7 HB; revert n0_ n1_; intro HO_7 HB; clear hg hw hp_))
          go_roundg k2
          case measure => have := HK1.out; have := HK2.out; omega
          case rel => exact ⟨(y251), (wrap64 (x9_2 + 1)), (by first | rfl | (simp; done) | (simp [*]; done)), H', ⟨by have := HK1.out; have := HK2.out; omega⟩, ⟨rk_ HO_7.out⟩, ⟨bb_ HB.out⟩⟩
         ·rw [if_neg c29] at H
          have c29b0 : decide ((rd x7_2 x9_2) < (wrap64 (-a1))) = false := decide_eq_false c29
          clear c29
          have H' := am_ H
          clear H
          obtain ⟨Ao34, co34, eo34⟩ := Kd.R_slice HO_7.out
          subst eo34
          have p246 : 0 ≤ (x9_2 : Int) := da_
          have q246 : x9_2 < (x7_2.length : Int) := da_
          obtain ⟨ad246, e246, hx246_0⟩ := Kd.at_int (Kd.R_reads' HO_7.out).2.2 x9_2 p246 q246
          cases e246
          replace p246 := eq_true p246
          replace q246 := eq_true q246
          have p249 : 0 ≤ (x9_2 : Int) := da_
          have q249 : x9_2 < (x7_2.length : Int) := da_
          obtain ⟨ad249, e249, hx249_0⟩ := Kd.at_int (Kd.R_reads' HO_7.out).2.2 x9_2 p249 q249
          obtain rfl : ad246 = ad249 := (by injection e249)
          replace p249 := eq_true p249
          replace q249 := eq_true q249
          go_wp2
          go_roundg k2
          case measure => have := HK1.out; have := HK2.out; omega
          case rel => exact ⟨(x7_2), (wrap64 (x9_2 + 1)), (by first | rfl | (simp; done) | (simp [*]; done)), H', ⟨by have := HK1.out; have := HK2.out; omega⟩, ⟨rk_ HO_7.out⟩, ⟨bb_ HB.out⟩⟩
       ·rw [if_neg c23] at H
        exact absurd H (by simp)
      ·rw [if_neg c22] at H
       have c22b0 : decide (x9_2 < (x7_2.length : Int)) = false := decide_eq_false c22
       clear c22
       obtain rfl := Option.some.inj H
       obtain ⟨Ao35, co35, eo35⟩ := Kd.R_slice HO_7.out
       subst eo35
       go_wp2
       go_ret
       exact ⟨_, er_, Rx_ HO_7.out, bb_ HB.out⟩

/-! ### spec_l04Remove: function 97 -/
def spec_l04Remove.l0 : Nat → Int → List Int → List (List Int) → Int → Int → List (List Int) → Option (Int × (List (List Int)))
 | 0, _, _, _, _, _, _ => none
 | k + 1, x2, x7, x9, x10, x259000, x259001 => if x10 < (x9.length : Int) then (if 0 ≤ x10 then ((spec_l04Put.f k (rd_L1 x9 x10) x2 x7).bind fun t263 => (if x259001.length < 5864062014805 then (spec_l04Remove.l0 k x2 x7 x9 (wrap64 (x10 + 1)) x259000 (x259001 ++ [t263])) else (none))) else (none)) else (some (x259000, x259001))
def spec_l04Remove.f (k : Nat) (a0_0 : Int) (l0_1 : List (List Int)) (a1 : Int) (a2 : Int) : Option (Int × (List (List Int))) := if 0 ≤ a1 then (if a1 < (l0_1.length : Int) then ((spec_l04Solve.f k (rd_L1 l0_1 a1) a2).bind fun t255 => ((spec_l04Copy.f k l0_1 a1).bind fun t259 => (spec_l04Remove.l0 k a2 t255 t259 0 (wrap64 (a0_0 - 1)) ([] : List (List Int))))) else (none)) else (none)
def spec_l04Remove.T7 : Bool × List (List Nat × List Nat) := (true, [([], []), ([0], [0]), ([], []), ([], []), ([2, 3], [2, 3]), ([4], [4]), ([], []), ([], []), ([5, 6, 7], [5, 6, 7]), ([8], [8]), ([1, 9, 8], [1, 9]), ([0, 1, 2, 3, 4, 5, 6, 7, 8, 9, 10], []), ([11, 10, 10, 0, 1, 2, 3, 4, 5, 6, 7, 8, 9, 10], [10, 11])])
def spec_l04Remove.B7 : List Nat := [0, 1, 0, 0, 12, 28, 0, 0, 252, 508, 1023, 2047, 4095]
theorem spec_l04Remove.tab7 : rtab .any (opsOf Try.f97 7) = spec_l04Remove.T7 := by kernel_rfl
theorem spec_l04Remove.bits7 : waitsOk spec_l04Remove.T7.2 spec_l04Remove.B7 = true := by kernel_rfl
theorem spec_l04Remove.calls (k : Nat) (a0_0 : Int) (A0_1 : Option Addr) (c0_1 : Nat) (l0_1 : List (List Int)) (a1 : Int) (a2 : Int) (r1 : Int) (r2 : List (List Int)) (w : World) (hr0_1 : Kd.C (Kd.slice 2 (Kd.int .i64)) w A0_1 l0_1.length l0_1) (hc0_1 : l0_1.length ≤ c0_1) (h : spec_l04Remove.f k a0_0 l0_1 a1 a2 = some (r1, r2)) :
  Calls Try.prog 97 #[.agg #[.int .i64 a0_0, .slice A0_1 l0_1.length c0_1], .int .i64 a1, .int .i64 a2] w fun e w' => ∃ v1_ : Value, e = .returned (.agg #[.int .i64 r1, v1_]) ∧ Kd.S (Kd.slice 2 (Kd.int .i64)) 39 w' w.heap.size (fun _ => True) v1_ r2 ∧ Below w.heap.size w w' := by
 have hu28 := Try.underlying28
 have HR0_1 := am_ hr0_1
 have HC0_1 := am_ hc0_1
 clear hr0_1 hc0_1
 have HB := am_ (Below.refl w.heap.size w)
 have H : (if 0 ≤ a1 then (if a1 < (l0_1.length : Int) then ((spec_l04Solve.f k (rd_L1 l0_1 a1) a2).bind fun t255 => ((spec_l04Copy.f k l0_1 a1).bind fun t259 => (spec_l04Remove.l0 k a2 t255 t259 0 (wrap64 (a0_0 - 1)) ([] : List (List Int))))) else (none)) else (none)) = some (r1, r2) := h
 clear h
 by_cases c4 : 0 ≤ a1
 ·rw [if_pos c4] at H
  have c4b0 : decide (0 ≤ a1) = true := decide_eq_true c4
  clear c4
  by_cases c5 : a1 < (l0_1.length : Int)
  ·rw [if_pos c5] at H
   have c5b0 : decide (a1 < (l0_1.length : Int)) = true := decide_eq_true c5
   clear c5
   replace H := Option.bind_eq_some_iff.mp H
   obtain ⟨t255, A60, H⟩ := H
   replace H : ((spec_l04Copy.f k l0_1 a1).bind fun t259 => (spec_l04Remove.l0 k a2 t255 t259 0 (wrap64 (a0_0 - 1)) ([] : List (List Int)))) = some (r1, r2) := H
   have A6 := am_ A60
   clear A60
   replace H := Option.bind_eq_some_iff.mp H
   obtain ⟨t259, A70, H⟩ := H
   replace H : (spec_l04Remove.l0 k a2 t255 t259 0 (wrap64 (a0_0 - 1)) ([] : List (List Int))) = some (r1, r2) := H
   have A7 := am_ A70
   clear A70
   have H' := am_ H
   clear H
   go_enter Try.func97, Try.ntmps97
   go_wp2_with (first | (refine be_ 3 28 #[.int .i64 a0_0, .slice A0_1 l0_1.length c0_1] ?_; intro gb252 hg w8 hbox hb; have n_ := ba0_ HB hbox hb hg; clear  HB hb hbox hg; obtain ⟨HB, BK252, GW252, GE252⟩ := n_) | (refine be_ 6 28 #[.int .i64 0, .slice none 0 0] ?_; intro gb253 hg w9 hbox hb; have n_ := ba1_ BK252 HB hbox hb hg; clear BK252 HB hb hbox hg; obtain ⟨BK252, HB, BK253, GW253, GE253, NB252_253, NB253_252⟩ := n_; have hnb10 := NB252_253.out; have hnc10 := NB253_252.out; obtain ⟨hcz11_0, hcz11_1, hfz11_0, hfz11_1⟩ := bx2_ BK252; have p254 : 0 ≤ (a1 : Int) := da_; have q254 : a1 < (l0_1.length : Int) := da_; obtain ⟨ad254, A254_0, c254_0, e254, hx254_0, hl254_0, hi254_0⟩ := at_L1 HR0_1.out a1 p254 q254; cases e254; replace hx254_0 := ce_ HB hx254_0; have HR254_0 := am_ hi254_0; have HC254_0 := am_ hl254_0; clear hi254_0 hl254_0; replace p254 := eq_true p254; replace q254 := eq_true q254) | ((with_reducible refine gate_callee (f := 119) rfl ?_); refine goesL_ (some 17) rfl rfl Try.func119 (by kernel_rfl) rfl #[.slice A254_0 (rd_L1 l0_1 a1).length c254_0, .int .i64 a2] rfl lm_ ?_; (with_reducible refine (spec_l04Solve.calls k _ _ (rd_L1 l0_1 a1) a2 t255 _ ?side1 ?side2 A6.out).mono ?_); (case side1 => exact cb_ HR254_0 HB); (case side2 => exact HC254_0.out); rintro e w12 ⟨v256, rfl, ho0, hb⟩; refine ⟨_, rfl, ?_⟩; have n0_ := am_ (Kd.R_lower ho0 (below_size (bb_ HB.out))); have n1_ := am_ (bw_ BK252 hb); have n2_ := am_ (bw_ BK253 hb); have n3_ := am_ (below_step (bb_ HB.out) hb); clear BK252 BK253 HB; revert n0_ n1_ n2_ n3_; intro HO257 BK252 BK253 HB; (try clear hb); (try clear hb2); (try clear hk); (try clear hi); (try clear ho0); obtain ⟨hcz13_0, hcz13_1, hfz13_0, hfz13_1⟩ := bx2_ BK252) | (refine be_ 8 28 #[.int .i64 0, .slice none 0 0] ?_; intro gb258 hg w14 hbox hb; have n0_ := am_ (Kd.R_below (rk_ HO257.out) hb); have n1_ := am_ (bw_ BK252 hb); have n2_ := am_ (bw_ BK253 hb); have n3_ := am_ (below_step (bb_ HB.out) hb); have n4_ := am_ (hbox); have n5_ := gs_ HB hg; have n6_ := gs_ HB hg; have n7_ := am_ (nl_ BK252 hg); have n8_ := am_ (ng_ BK252 hg); have n9_ := am_ (nl_ BK253 hg); have n10_ := am_ (ng_ BK253 hg); clear HO257 BK252 BK253 HB; revert n0_ n1_ n2_ n3_ n4_ n5_ n6_ n7_ n8_ n9_ n10_; intro HO257 BK252 BK253 HB BK258 GW258 GE258 NB252_258 NB258_252 NB253_258 NB258_253; clear hb hbox hg; have hnb15 := NB258_252.out; have hnc15 := NB252_258.out; have hnb16 := NB258_253.out; have hnc16 := NB253_258.out; obtain ⟨hcz17_0, hcz17_1, hfz17_0, hfz17_1⟩ := bx2_ BK258; obtain ⟨hcz18_0, hcz18_1, hfz18_0, hfz18_1⟩ := bx2_ BK252) | ((with_reducible refine gate_callee (f := 40) rfl ?_); refine goesL_ (some 25) rfl rfl Try.func40 (by kernel_rfl) rfl #[.slice (some ad254) l0_1.length c0_1, .int .i64 a1] rfl lm_ ?_; (with_reducible refine (spec_l04Copy.calls k _ _ l0_1 a1 t259 _ ?side1 ?side2 A7.out).mono ?_); (case side1 => exact Kd.C_below HR0_1.out (bb_ HB.out)); (case side2 => exact HC0_1.out); rintro e w19 ⟨v260, rfl, ho0, hb⟩; refine ⟨_, rfl, ?_⟩; have n0_ := am_ (Kd.R_below ((rm_ (Kd.R_far (p := ⟨gb258, 1, none⟩) (Kd.R_far (p := ⟨gb258, 0, none⟩) (Kd.R_types HO257.out BK258.out (by decide)) (fun _ hk => hk.2) (.int .i64 (wrap64 (a0_0 - 1)))) (fun _ hk => hk.2) (.slice none 0 0)) (fun _ h_ => h_.1))) hb); have n1_ := am_ (Kd.S_lower (Kd.S_new' ho0 (Kd.R_lt ((rm_ (Kd.R_far (p := ⟨gb258, 1, none⟩) (Kd.R_far (p := ⟨gb258, 0, none⟩) (Kd.R_types HO257.out BK258.out (by decide)) (fun _ hk => hk.2) (.int .i64 (wrap64 (a0_0 - 1)))) (fun _ hk => hk.2) (.slice none 0 0)) (fun _ h_ => h_.1))))) (below_size (bb_ HB.out))); have n2_ := am_ (bw_ BK252 hb); have n3_ := am_ (bw_ BK253 hb); have n4_ := am_ (blk_below (g := gb258) (o := .cells #[.int .i64 (wrap64 (a0_0 - 1)), .slice none 0 0] 28 (0, 0)) (pu2_ BK258) hb); have n5_ := am_ (below_step (bb_ HB.out) hb); clear HO257 BK252 BK253 BK258 HB; revert n0_ n1_ n2_ n3_ n4_ n5_; intro HO257 HO261 BK252 BK253 BK258 HB; (try clear hb); (try clear hb2); (try clear hk); (try clear hi); (try clear ho0)))
   go_loopg [10] k (fun kq v10 w' => ∃ (x10_1 : Int) (x259001_1 : List (List Int)) (u259001 : Value), v10 = .int .i64 x10_1 ∧ Aside0 (spec_l04Remove.l0 kq a2 t255 t259 x10_1 (wrap64 (a0_0 - 1)) x259001_1 = some (r1, r2)) ∧ Aside0 (kq ≤ k) ∧ Aside0 (Kd.R (Kd.int .i64) 2 w' w.heap.size (fun _ => True) v256 t255) ∧ Aside0 (Kd.S (Kd.slice 2 (Kd.int .i64)) 39 w' w.heap.size (fun k_ => some k_ ≠ (v256 : Value).ownBlock ∧ some k_ ≠ (u259001 : Value).ownBlock) v260 t259) ∧ Aside0 (Kd.S (Kd.slice 2 (Kd.int .i64)) 39 w' w.heap.size (fun k_ => some k_ ≠ (v256 : Value).ownBlock ∧ some k_ ≠ (v260 : Value).ownBlock) u259001 x259001_1) ∧ Aside0 (w'.heap[gb252]? = some (.cells #[.int .i64 a0_0, (.slice (some ad254) l0_1.length c0_1)] 28 (0, 0))) ∧ Aside0 (w'.heap[gb253]? = some (.cells #[.int .i64 0, (.slice none 0 0)] 28 (0, 0))) ∧ Aside0 (w'.heap[gb258]? = some (.cells #[.int .i64 (wrap64 (a0_0 - 1)), u259001] 28 (0, 0))) ∧ Aside0 (Below w.heap.size w w'))
   case atStart => exact ⟨(0), (([] : List (List Int))), (.slice none 0 0), (by first | rfl | (simp; done) | (simp [*]; done)), H', ⟨Nat.le_refl _⟩, ⟨rk_ HO257.out⟩, ⟨Sx_ (Kd.S_mono HO261.out (fun _ hk => ⟨hk.2, (by simp [Value.ownBlock])⟩))⟩, ⟨by first | exact Kd.S_nil _ _ _ _ _ | exact Kd.N_nil _ _ _ _ _ | exact Kd.V_nil _ _ _ _ _ | exact Kd.Q_nil _ _ _ _ _ | exact Kd.R_nil _ _ _ _ _⟩, ⟨bk_ BK252.out⟩, ⟨bk_ BK253.out⟩, ⟨bk_ BK258.out⟩, ⟨bb_ HB.out⟩⟩
   case round =>
    clear H'
    try clear c1
    try clear c2
    try clear p2
    try clear q2
    try clear hx2
    try clear c4
    try clear c4b0
    try clear c5
    try clear c5b0
    try clear p6
    try clear c9
    try clear c10
    try clear c11
    try clear c15
    try clear c16
    try clear hcz11_0
    try clear hcz11_1
    try clear hcz13_0
    try clear hcz13_1
    try clear hcz17_0
    try clear hcz17_1
    try clear hcz18_0
    try clear hcz18_1
    try clear hfz11_0
    try clear hfz11_1
    try clear hfz13_0
    try clear hfz13_1
    try clear hfz17_0
    try clear hfz17_1
    try clear hfz18_0
    try clear hfz18_1
    try clear hx254_0
    try clear p254
    try clear q254
    obtain ⟨x10_1, x259001_1, u259001, rfl, HA, HK1, HO_7, HO_9, HO_259001, BK252, BK253, BK258, HB⟩ := hrel
    cases gk with
    | zero => exact absurd HA.out (by simp [spec_l04Remove.l0])
    | succ k1 =>
     have H := HA.out
     clear HA
     simp only [spec_l04Remove.l0] at H
     by_cases c20 : x10_1 < (t259.length : Int)
     ·rw [if_pos c20] at H
      have c20b0 : decide (x10_1 < (t259.length : Int)) = true := decide_eq_true c20
      clear c20
      by_cases c21 : 0 ≤ x10_1
      ·rw [if_pos c21] at H
       have c21b0 : decide (0 ≤ x10_1) = true := decide_eq_true c21
       clear c21
       replace H := Option.bind_eq_some_iff.mp H
       obtain ⟨t263, A220, H⟩ := H
       replace H : (if x259001_1.length < 5864062014805 then (spec_l04Remove.l0 k1 a2 t255 t259 (wrap64 (x10_1 + 1)) (wrap64 (a0_0 - 1)) (x259001_1 ++ [t263])) else (none)) = some (r1, r2) := H
       have A22 := am_ A220
       clear A220
       by_cases c23 : x259001_1.length < 5864062014805
       ·rw [if_pos c23] at H
        have LMc23 := am_ c23
        clear c23
        obtain ⟨y266, hy266⟩ : ∃ y_ : List (List Int), y_ = (x259001_1 ++ [t263]) := ⟨_, rfl⟩
        replace H : (spec_l04Remove.l0 k1 a2 t255 t259 (wrap64 (x10_1 + 1)) (wrap64 (a0_0 - 1)) y266) = some (r1, r2) := hq_ hy266 H
        have Ny266 := am_ hy266
        clear hy266
        have H' := am_ H
        clear H
        obtain ⟨Ao24, co24, eo24⟩ := Kd.S_slice HO_9.out
        subst eo24
        try go_wp2
        have n0_ := am_ (Kd.R_drew HO_7.out)
        have n1_ := am_ (Kd.S_drew HO_9.out)
        have n2_ := am_ (Kd.S_drew HO_259001.out)
        have n3_ := am_ (blk_drew BK252.out)
        have n4_ := am_ (blk_drew BK253.out)
        have n5_ := am_ (blk_drew BK258.out)
        have n6_ := am_ (below_drew1 HB.out)
        clear HO_7 HO_9 HO_259001 BK252 BK253 BK258 HB; revert n0_ n1_ n2_ n3_ n4_ n5_ n6_; intro HO_7 HO_9 HO_259001 BK252 BK253 BK258 HB
        have p262 : 0 ≤ (x10_1 : Int) := da_
        have q262 : x10_1 < (t259.length : Int) := da_
        obtain ⟨ad262, A262_0, c262_0, e262, hx262_0, hl262_0, hi262_0⟩ := at_L1 (Kd.S_reads' HO_9.out).2.2 x10_1 p262 q262
        cases e262
        obtain ⟨ce262, hce262, hMe262, hcc262⟩ := Kd.S_get HO_9.out [] x10_1 p262 (by first | exact q262 | exact da_ | (have e_ := (Kd.S_reads' HO_9.out).1; omega))
        obtain ⟨ve262_0, rfl, ge262_0⟩ := hMe262
        have hv262_0 := hcc262 0 _ rfl
        rw [Nat.add_zero, show ((Kd.slice 2 (Kd.int .i64))).sz = 1 from rfl, Nat.mul_one] at hv262_0
        replace hv262_0 := Option.some.inj (hv262_0.symm.trans hx262_0)
        rw [hv262_0] at ge262_0
        have HL262_0 := am_ (show Kd.R (Kd.int .i64) 2 _ _ _ _ (rd_L1 t259 x10_1) from ge262_0)
        clear hv262_0 ge262_0
        clear hcc262 hce262
        have HR262_0 := am_ hi262_0
        have HC262_0 := am_ hl262_0
        clear hi262_0 hl262_0
        replace p262 := eq_true p262
        replace q262 := eq_true q262
        obtain ⟨Ao26, co26, eo26⟩ := Kd.R_slice HO_7.out
        (first | subst eo26 | (injection eo26 with f1_ f2_ f3_; have f4_ := f1_.symm; have f5_ := f3_.symm; clear f1_ f2_ f3_; subst f4_; subst f5_))
        refine start_ (n := 13) (S := fun w' => w'.cell? ⟨gb258, 0, none⟩ = some (.int .i64 (wrap64 (a0_0 - 1))) ∧ w'.cell? ⟨gb258, 1, none⟩ = some (u259001) ∧ w'.cell? (ad262.add (x10_1).toNat) = some (.slice A262_0 (rd_L1 t259 x10_1).length c262_0)) (ds := [10, 12]) (bA_ 13 0) (by kernel_rfl) rfl (by kernel_rfl) ⟨bc_ BK258 0, bc_ BK258 1, hx262_0⟩ (fun hHeld => ?_); refine with_tabW spec_l04Remove.tab7 spec_l04Remove.bits7 (fun HT_ HW_ => ?_)
        generalize wr.drew = w25 at HO_7 HO_9 HO_259001 BK252 BK253 BK258 HB HL262_0 HR262_0 hx262_0 hHeld ⊢
        refine pz_ 0 32 (bA_ 13 1) HT_ ?_
        refine pz_ 2 34 (bA_ 13 5) HT_ ?_
        refine pz_ 3 35 (bA_ 13 13) HT_ ?_
        refine pz_ 4 36 (bA_ 13 29) HT_ ?_
        refine pz_ 6 38 (bA_ 13 93) HT_ ?_
        refine pz_ 7 39 (bA_ 13 221) HT_ ?_
        refine tz_ 1 33 (bA_ 13 223) HT_ HW_ hHeld ?_
        refine tz_ 5 37 (bA_ 13 255) HT_ HW_ hHeld ?_
        refine oz_ 8 40 (bA_ 13 511) HT_ (fun K hK => ?_)
        refine goes_ Try.func120 (by kernel_rfl) rfl #[.slice A262_0 (rd_L1 t259 x10_1).length c262_0, .int .i64 a2, .slice Ao26 t255.length co26] (by rfl) rfl rfl lm_ ?_
        with_reducible refine (spec_l04Put.calls k1 _ _ (rd_L1 t259 x10_1) a2 _ _ t255 t263 _ ?side1 ?side2 ?side3 ?side4 A22.out).mono ?_
        (case side1 => repeat (first | exact (by repeat (first | (with_reducible exact HR262_0.out) | (with_reducible refine Kd.C_alloc ?_ _) | (with_reducible refine Kd.C_drewN ?_ _) | (with_reducible refine Kd.C_drew ?_) | exact HR262_0.out)) | (with_reducible refine Kd.C_alloc ?_ _) | (with_reducible refine Kd.C_drewN ?_ _) | (with_reducible refine Kd.C_drew ?_)))
        (case side2 => exact HC262_0.out)
        (case side3 => exact cz_ (Kd.R_reads' HO_7.out).2.2)
        (case side4 => exact (Kd.R_reads' HO_7.out).2.1)
        rintro e w27 ⟨v264, rfl, ho0, hb⟩
        have HS2_ := (hb.cell (World.block_lt_of_cell? _ _ (hHeld.2.2))).trans (hHeld.2.2)
        refine ⟨_, rfl, ?_⟩
        have n0_ := am_ (Kd.R_elder' (rk_ HO_7.out) (Kd.R_base ho0) hb)
        have n1_ := am_ (Kd.S_elder' (Sx_ HO_9.out) (Kd.R_base ho0) hb)
        have n2_ := am_ (Kd.S_elder' (Sx_ HO_259001.out) (Kd.R_base ho0) hb)
        have n3_ := am_ (Kd.R_elder' (rk_ HL262_0.out) (Kd.R_base ho0) hb)
        have n4_ := am_ (Kd.R_lower (Kd.R_new' (Kd.R_new' ho0 (Kd.R_lt (rk_ HO_7.out))) (Kd.R_lt (rk_ HL262_0.out))) (below_size (bb_ HB.out)))
        have n5_ := am_ (bw_ BK252 hb)
        have n6_ := am_ (bw_ BK253 hb)
        have n7_ := am_ (bw_ BK258 hb)
        have n8_ := am_ (Kd.C_below (by repeat (first | (with_reducible exact HR262_0.out) | (with_reducible refine Kd.C_alloc ?_ _) | (with_reducible refine Kd.C_drewN ?_ _) | (with_reducible refine Kd.C_drew ?_) | exact HR262_0.out)) hb)
        have n9_ := am_ (below_step (bb_ HB.out) hb)
        clear HO_7 HO_9 HO_259001 HL262_0 BK252 BK253 BK258 HR262_0 HB; revert n0_ n1_ n2_ n3_ n4_ n5_ n6_ n7_ n8_ n9_; intro HO_7 HO_9 HO_259001 HL262_0 HO265 BK252 BK253 BK258 HR262_0 HB
        (try clear hb)
        (try clear hb2)
        (try clear hk)
        (try clear hi)
        (try clear ho0)
        obtain ⟨Ao29, co29, eo29⟩ := Kd.R_slice HO265.out
        (first | subst eo29 | (injection eo29 with f1_ f2_ f3_; have f4_ := f1_.symm; have f5_ := f3_.symm; clear f1_ f2_ f3_; subst f4_; subst f5_))
        refine hK.out _ _ ⟨bc_ BK258 0, bc_ BK258 1, HS2_⟩ (fun hHeld => ?_)
        clear hK K
        refine nm_ 40 ?_
        refine oz_ 9 41 (bA_ 13 1023) HT_ (fun K hK => ?_)
        refine value_ (w1 := ?_) (v := ?_) (by rfl) rfl ?_ ?_
        rotate_left 2
        ·go_simp
         constructor
         ·rfl
         ·rfl
        refine hK.out _ _ ⟨(blk_cell (blk_alloc BK258.out _) 0).trans rfl, (blk_cell (blk_alloc BK258.out _) 1).trans rfl, (World.cell?_alloc_lt _ _ _ (World.block_lt_of_cell? _ _ (hHeld.2.2))).trans (hHeld.2.2)⟩ (fun hHeld => ?_)
        clear hK K
        refine nm_ 41 ?_
        refine last_ (i := 10) (N := some 42) (bA_ 13 2047) rfl rfl (one_of HT_.out (by kernel_rfl)) (by decide) (fun K hK => ?_)
        refine Kd.S_append_step (Kd.slice 2 (Kd.int .i64)) (w0 := w) w.heap.size (by rfl) (.tmp 33) (.tmp 41) 22 39 (.slice none 0 0) 24 rfl Try.underlying22 info39 rfl (by decide) (by omega) u259001 x259001_1 t263 [.slice Ao29 t263.length co29] (fun k_ => some k_ ≠ (.slice Ao26 t255.length co26 : Value).ownBlock ∧ some k_ ≠ (.slice (some ad262) t259.length co24 : Value).ownBlock) (fun k_ => some k_ = (.slice Ao29 t263.length co29 : Value).ownBlock) rfl rfl ?aP (fun k_ hk_ => ((Kd.R_mono (ok' := fun k_ => ((fun k_ => some k_ ≠ (.slice Ao26 t255.length co26 : Value).ownBlock ∧ some k_ ≠ (.slice (some ad262) t259.length co24 : Value).ownBlock)) k_ ∧ some k_ ≠ (u259001 : Value).ownBlock) (Kd.R_apart' (Kd.R_apart' (HO265.out) (Kd.S_typed HO_9.out) (by decide)) (Kd.S_typed HO_259001.out) (by decide)) (fun k_ hk => ⟨⟨hk.1.1.1.2, hk.1.2⟩, hk.2⟩))).1 k_ hk_.symm) ?aF ?aO ?aB ?aS ?aL ?_
        (case aP => exact Kd.M_row (Kd.R_mono (Kd.R_tight rfl (Kd.R_mono (ok' := fun k_ => ((fun k_ => some k_ ≠ (.slice Ao26 t255.length co26 : Value).ownBlock ∧ some k_ ≠ (.slice (some ad262) t259.length co24 : Value).ownBlock)) k_ ∧ some k_ ≠ (u259001 : Value).ownBlock) (Kd.R_apart' (Kd.R_apart' (HO265.out) (Kd.S_typed HO_9.out) (by decide)) (Kd.S_typed HO_259001.out) (by decide)) (fun k_ hk => ⟨⟨hk.1.1.1.2, hk.1.2⟩, hk.2⟩))) (fun _ h_ => h_)))
        (case aB => exact (bb_ HB.out))
        (case aF => exact (fun k_ hk => ⟨Kd.fresh' (Kd.R_lt (rk_ HO_7.out)) k_ hk, Kd.fresh' (Kd.S_lt (Sx_ HO_9.out)) k_ hk⟩))
        (case aO => exact (Sx_ (Kd.S_mono HO_259001.out (fun k_ hk => ⟨⟨hk.1.1, hk.1.2⟩, fun e_ => hk.2 e_⟩))))
        (case aS => exact (below_size (bb_ HB.out)))
        (case aL => have := LMc23.out; omega)
        intro v267 w28 ho hb hg hat
        rw [← Ny266.out] at ho
        have n0_ := am_ (Kd.R_over' (rk_ HO_7.out) (Kd.S_typed (Sx_ HO_259001.out)) (by decide) hg)
        have n1_ := am_ (Kd.S_after (ok := (fun k_ => some k_ ≠ (.slice Ao26 t255.length co26 : Value).ownBlock ∧ some k_ ≠ (.slice Ao29 t263.length co29 : Value).ownBlock)) (Sx_ (Kd.S_mono HO_9.out (fun _ hk => ⟨⟨hk.1.1, hk.2⟩, hk.1.2⟩))) hg hat)
        have n2_ := am_ (blk_grown (g := gb252) (o := .cells #[.int .i64 a0_0, .slice (some ad254) l0_1.length c0_1] 28 (0, 0)) (bk_ BK252.out) hg (Kd.S_ne HO_259001.out BK252.out (by decide)))
        have n3_ := am_ (blk_grown (g := gb253) (o := .cells #[.int .i64 0, .slice none 0 0] 28 (0, 0)) (bk_ BK253.out) hg (Kd.S_ne HO_259001.out BK253.out (by decide)))
        have n4_ := am_ (blk_grown (g := gb258) (o := .cells #[.int .i64 (wrap64 (a0_0 - 1)), u259001] 28 (0, 0)) (bk_ BK258.out) hg (Kd.S_ne HO_259001.out BK258.out (by decide)))
        have n5_ := am_ (Kd.R_after (ok := (fun k_ => some k_ ≠ (.slice Ao26 t255.length co26 : Value).ownBlock ∧ some k_ ≠ (.slice (some ad262) t259.length co24 : Value).ownBlock ∧ some k_ ≠ (.slice Ao29 t263.length co29 : Value).ownBlock)) (rm_ HL262_0.out (fun _ hk => ⟨⟨hk.1.1.1, ⟨hk.1.2, hk.2⟩⟩, hk.1.1.2⟩)) hg hat)
        have n6_ := am_ (hb)
        have n7_ := am_ (ho)
        clear HO_7 HO_9 BK252 BK253 BK258 HL262_0 HB HO_259001 HO265; revert n0_ n1_ n2_ n3_ n4_ n5_ n6_ n7_; intro HO_7 HO_9 BK252 BK253 BK258 HL262_0 HB HO268
        clear ho hb hg hat
        obtain ⟨Ao30, co30, eo30⟩ := Kd.S_slice HO268.out
        (first | subst eo30 | (injection eo30 with f1_ f2_ f3_; have f4_ := f1_.symm; have f5_ := f3_.symm; clear f1_ f2_ f3_; subst f4_; subst f5_))
        refine hK.out _ _ ?_
        clear hK K
        refine nm_ 42 ?_
        refine pz_ 11 43 (bA_ 13 4095) HT_ ?_
        refine last_ (i := 12) (N := none) (bA_ 13 8191) rfl rfl (one_of HT_.out (by kernel_rfl)) (by decide) (fun K hK => ?_)
        have hs31 : w28.cell? ⟨gb258, 1, none⟩ = some (u259001) := bc_ BK258 1
        have hfs31 := blk_frozen BK258.out 1
        have hns31_0 := NB252_258.out
        have hns31_1 := NB253_258.out
        have hms31_0 := NB258_252.out
        have hms31_1 := NB258_253.out
        refine skip_ (w1 := ?_) (by rfl) rfl ?_ ?_
        rotate_left
        ·go_simp
         rfl
        refine hK.out _ _ ?_
        clear hK K
        refine done_ (done_of HT_.out (by kernel_rfl)) ?_
        try go_wp2
        go_roundg k1
        case measure => have := HK1.out; omega
        case rel => exact ⟨(wrap64 (x10_1 + 1)), (y266), (.slice Ao30 y266.length co30), (by first | rfl | (simp; done) | (simp [*]; done)), H', ⟨by have := HK1.out; omega⟩, ⟨rm_ (Kd.R_far (p := ⟨gb258, 1, none⟩) (Kd.R_types HO_7.out BK258.out (by decide)) (fun _ hk => hk.2) (.slice Ao30 y266.length co30)) (fun _ hk => trivial)⟩, ⟨Sx_ (Kd.S_mono (Kd.S_far (p := ⟨gb258, 1, none⟩) (Kd.S_types HO_9.out BK258.out (by decide)) (fun _ hk => hk.2) (.slice Ao30 y266.length co30)) (fun _ hk => ⟨hk.1.1.1, hk.1.2⟩))⟩, ⟨Sx_ (Kd.S_mono (Kd.S_far (p := ⟨gb258, 1, none⟩) (Kd.S_types HO268.out BK258.out (by decide)) (fun _ hk => hk.2) (.slice Ao30 y266.length co30)) (fun _ hk => ⟨hk.1.1, hk.1.2⟩))⟩, ⟨bk_ BK252.out⟩, ⟨bk_ BK253.out⟩, ⟨by (with_reducible repeat (first | refine blk_drewN ?_ _ | refine blk_drew ?_ | refine blk_alloc ?_ _)); refine blk_put (cs := #[.int .i64 (wrap64 (a0_0 - 1)), u259001]) ?_ 1 _ rfl; (with_reducible repeat (first | refine blk_drewN ?_ _ | refine blk_drew ?_ | refine blk_alloc ?_ _)); exact BK258.out⟩, ⟨bb_ HB.out⟩⟩
       ·rw [if_neg c23] at H
        exact absurd H (by simp)
      ·rw [if_neg c21] at H
       exact absurd H (by simp)
     ·rw [if_neg c20] at H
      have c20b0 : decide (x10_1 < (t259.length : Int)) = false := decide_eq_false c20
      clear c20
      simp only [Option.some.injEq, Prod.mk.injEq] at H
      obtain ⟨rfl, rfl⟩ := H
      obtain ⟨Ao32, co32, eo32⟩ := Kd.S_slice HO_9.out
      subst eo32
      have hnb33 := NB258_252.out
      have hnc33 := NB252_258.out
      have hnb34 := NB258_253.out
      have hnc34 := NB253_258.out
      obtain ⟨hcz35_0, hcz35_1, hfz35_0, hfz35_1⟩ := bx2_ BK258
      have hnb36 := NB253_252.out
      have hnc36 := NB252_253.out
      obtain ⟨hcz37_0, hcz37_1, hfz37_0, hfz37_1⟩ := bx2_ BK253
      obtain ⟨Ao38, co38, eo38⟩ := Kd.S_slice HO_259001.out
      subst eo38
      go_wp2
      refine bodyPost_ret (results_cell_row rfl _ _ gb253 28 #[.int .i64 (wrap64 (a0_0 - 1)), .slice Ao38 x259001_1.length co38] (0, 0) _ rfl (pu2_ BK253) Try.underlying28 rfl (by kernel_rfl)) rfl ?_
      exact ⟨_, er_, Sx_ (Kd.S_mono (Kd.S_far (p := ⟨gb253, 1, none⟩) (Kd.S_far (p := ⟨gb253, 0, none⟩) (Kd.S_types HO_259001.out BK253.out (by decide)) (fun _ hk => hk.2) (.int .i64 (wrap64 (a0_0 - 1)))) (fun _ hk => hk.2) (.slice Ao38 x259001_1.length co38)) (fun _ hk => trivial)), bb_ HB.out⟩
  ·rw [if_neg c5] at H
   exact absurd H (by simp)
 ·rw [if_neg c4] at H
  exact absurd H (by simp)

/-! ### spec_l04Move: function 63 -/
def spec_l04Move.f (k : Nat) (a0_0 : Int) (l0_1 : List (List Int)) (a1_0 : Int) (a1_1 : Int) (a1_2 : Int) (l1_3 : List Int) : Option (Int × (List (List Int))) := (spec_l04Copy.f k l0_1 (-1)).bind fun t272 => (if a1_0 = 1 then (if 0 ≤ a1_1 then (if a1_1 < (l0_1.length : Int) then ((spec_l04Inverse.f k (rd_L1 l0_1 a1_1)).bind fun t277 => (if a1_1 < (t272.length : Int) then (some (a0_0, (t272.set (a1_1 : Int).toNat t277))) else (none))) else (none)) else (none)) else (if a1_0 = 2 then (if 0 ≤ a1_1 then (if a1_1 < (l0_1.length : Int) then (if ((rd_L1 l0_1 a1_1).length : Int) > 0 then ((some (([] : List Int) : List Int)).bind fun y282 => (if 1 ≤ ((rd_L1 l0_1 a1_1).length : Int) then (if y282.length + ((rd_L1 l0_1 a1_1).drop 1).length < 17592186044416 then ((some (y282 ++ ((rd_L1 l0_1 a1_1).drop 1) : List Int)).bind fun y286 => (if 0 < ((rd_L1 l0_1 a1_1).length : Int) then ((some (([rd (rd_L1 l0_1 a1_1) 0] : List Int) : List Int)).bind fun y290 => (if y286.length + y290.length < 17592186044416 then ((spec_l04Reduce.f k (y286 ++ y290)).bind fun t296 => (if a1_1 < (t272.length : Int) then (some (a0_0, (t272.set (a1_1 : Int).toNat t296))) else (none))) else (none))) else (none))) else (none)) else (none))) else (some (a0_0, t272))) else (none)) else (none)) else (if a1_0 = 3 then ((some (([] : List Int) : List Int)).bind fun y300 => (if 0 ≤ a1_1 then (if a1_1 < (l0_1.length : Int) then (if y300.length + (rd_L1 l0_1 a1_1).length < 17592186044416 then ((some (y300 ++ (rd_L1 l0_1 a1_1) : List Int)).bind fun y304 => (if 0 ≤ a1_2 then (if a1_2 < (l0_1.length : Int) then (if y304.length + (rd_L1 l0_1 a1_2).length < 17592186044416 then ((spec_l04Reduce.f k (y304 ++ (rd_L1 l0_1 a1_2))).bind fun t311 => (if a1_1 < (t272.length : Int) then (some (a0_0, (t272.set (a1_1 : Int).toNat t311))) else (none))) else (none)) else (none)) else (none))) else (none)) else (none)) else (none))) else (if a1_0 = 4 then ((spec_l04Copy.f k l0_1 a1_1).bind fun t315 => (some (a0_0, t315))) else (if a1_0 = 5 then ((spec_l04Remove.f k a0_0 l0_1 a1_1 a1_2).bind fun bt318 => (some (bt318.1, bt318.2))) else ((some (([wrap64 (-(wrap64 (a0_0 + 1)))] : List Int) : List Int)).bind fun y322 => (if y322.length + l1_3.length < 17592186044416 then ((some (([(y322 ++ l1_3)] : List (List Int)) : List (List Int))).bind fun y328 => (if t272.length + y328.length < 5864062014805 then (some (wrap64 (a0_0 + 1), (t272 ++ y328))) else (none))) else (none))))))))
def spec_l04Move.T1 : Bool × List (List Nat × List Nat) := (true, [([], []), ([0], [0]), ([], []), ([2], [2]), ([3], [3]), ([1, 4], [1, 4]), ([], []), ([6, 5, 4, 0, 1, 2, 3, 4, 5, 6], [5, 6])])
def spec_l04Move.B1 : List Nat := [0, 1, 0, 4, 12, 31, 0, 127]
theorem spec_l04Move.tab1 : rtab .any (opsOf Try.f63 1) = spec_l04Move.T1 := by kernel_rfl
theorem spec_l04Move.bits1 : waitsOk spec_l04Move.T1.2 spec_l04Move.B1 = true := by kernel_rfl
def spec_l04Move.T4 : Bool × List (List Nat × List Nat) := (true, [([], []), ([], []), ([1], [1]), ([], []), ([3], [3]), ([4], [4]), ([], []), ([6], [6]), ([5, 7], [5, 7]), ([8], [8]), ([2, 9, 8], [2, 9]), ([0, 10], [0, 10]), ([11, 10, 0, 1, 2, 3, 4, 5, 6, 7, 8, 9, 10, 11], [11])])
def spec_l04Move.B4 : List Nat := [0, 0, 2, 0, 8, 24, 0, 64, 248, 504, 1022, 2047, 4095]
theorem spec_l04Move.tab4 : rtab .any (opsOf Try.f63 4) = spec_l04Move.T4 := by kernel_rfl
theorem spec_l04Move.bits4 : waitsOk spec_l04Move.T4.2 spec_l04Move.B4 = true := by kernel_rfl
def spec_l04Move.T6 : Bool × List (List Nat × List Nat) := (true, [([], []), ([0], [0]), ([], []), ([2], [2]), ([], []), ([4], [4]), ([], []), ([6], [6]), ([5, 7], [5, 7]), ([8], [8]), ([9], [9]), ([1, 3, 0, 1, 2, 3, 4, 5, 6, 7, 8, 9, 10], [1, 3]), ([11, 10, 10, 0, 1, 2, 3, 4, 5, 6, 7, 8, 9, 10], [10, 11])])
def spec_l04Move.B6 : List Nat := [0, 1, 0, 4, 0, 16, 0, 64, 240, 496, 1008, 2047, 4095]
theorem spec_l04Move.tab6 : rtab .any (opsOf Try.f63 6) = spec_l04Move.T6 := by kernel_rfl
theorem spec_l04Move.bits6 : waitsOk spec_l04Move.T6.2 spec_l04Move.B6 = true := by kernel_rfl
def spec_l04Move.T10 : Bool × List (List Nat × List Nat) := (true, [([], []), ([0], [0]), ([], []), ([2], [2]), ([], []), ([], []), ([5], [5]), ([4, 6], [4, 6]), ([], []), ([8], [8]), ([9], [9]), ([10], [10]), ([7, 11, 7], [7, 11]), ([12, 12], [12]), ([1, 3, 0, 1, 2, 3, 4, 5, 6, 7, 8, 9, 10, 11, 12, 13], [1, 3]), ([14, 13, 13, 0, 1, 2, 3, 4, 5, 6, 7, 8, 9, 10, 11, 12, 13], [13, 14])])
def spec_l04Move.B10 : List Nat := [0, 1, 0, 4, 0, 0, 32, 112, 0, 256, 768, 1792, 4080, 8176, 16383, 32767]
theorem spec_l04Move.tab10 : rtab .any (opsOf Try.f63 10) = spec_l04Move.T10 := by kernel_rfl
theorem spec_l04Move.bits10 : waitsOk spec_l04Move.T10.2 spec_l04Move.B10 = true := by kernel_rfl
def spec_l04Move.T12 : Bool × List (List Nat × List Nat) := (true, [([], []), ([0], [0]), ([], []), ([2], [2]), ([], []), ([], []), ([5], [5]), ([], []), ([7], [7]), ([6, 8], [6, 8]), ([9], [9]), ([4, 10], [4, 10]), ([], []), ([12], [12]), ([], []), ([14], [14]), ([13, 15], [13, 15]), ([16], [16]), ([11, 17, 11], [11, 17]), ([18, 18], [18]), ([1, 3, 0, 1, 2, 3, 4, 5, 6, 7, 8, 9, 10, 11, 12, 13, 14, 15, 16, 17, 18, 19], [1, 3]), ([20, 19, 19, 0, 1, 2, 3, 4, 5, 6, 7, 8, 9, 10, 11, 12, 13, 14, 15, 16, 17, 18, 19], [19, 20])])
def spec_l04Move.B12 : List Nat := [0, 1, 0, 4, 0, 0, 32, 0, 128, 480, 992, 2032, 0, 4096, 0, 16384, 61440, 126976, 262128, 524272, 1048575, 2097151]
theorem spec_l04Move.tab12 : rtab .any (opsOf Try.f63 12) = spec_l04Move.T12 := by kernel_rfl
theorem spec_l04Move.bits12 : waitsOk spec_l04Move.T12.2 spec_l04Move.B12 = true := by kernel_rfl
def spec_l04Move.T14 : Bool × List (List Nat × List Nat) := (true, [([], []), ([0], [0]), ([], []), ([2], [2]), ([], []), ([4], [4]), ([3, 5], [3, 5]), ([1, 6], [1, 6]), ([7, 6, 0, 1, 2, 3, 4, 5, 6, 7], [7])])
def spec_l04Move.B14 : List Nat := [0, 1, 0, 4, 0, 16, 60, 127, 255]
theorem spec_l04Move.tab14 : rtab .any (opsOf Try.f63 14) = spec_l04Move.T14 := by kernel_rfl
theorem spec_l04Move.bits14 : waitsOk spec_l04Move.T14.2 spec_l04Move.B14 = true := by kernel_rfl

end Go.Proofs.Ytbcdngjajjgmkaa.PFnExactSimplifyPresentation
