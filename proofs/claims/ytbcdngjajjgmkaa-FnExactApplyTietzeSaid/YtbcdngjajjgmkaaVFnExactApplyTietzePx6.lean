/- Written by this session's program out of the kit's print and this session's contracts. -/
import Derived.Test.YtbcdngjajjgmkaaVFnExactApplyTietzePx0
import Derived.Test.YtbcdngjajjgmkaaVFnExactApplyTietzePx4
import Derived.Test.YtbcdngjajjgmkaaVFnExactApplyTietzePx5
namespace Go.Proofs.Ytbcdngjajjgmkaa.PFnExactApplyTietze
open Go.RowKit Go.Proofs.YtbcdngjajjgmkaaW.PrintWords Go.Proofs.YtbcdngjajjgmkaaW.PrintLast Go.Proofs.YtbcdngjajjgmkaaW.PrintMore
set_option maxHeartbeats 8000000
set_option maxRecDepth 100000
set_option linter.unusedVariables false
set_option linter.unusedSimpArgs false

/-! ### spec_l04Put: function 120 -/
mutual
def spec_l04Put.l0 : Nat → List Int → Int → List Int → List Int → Int → Option (List Int)
 | 0, _, _, _, _, _ => none
 | k + 1, x0, x1, x2, x7, x8 => if x8 < (x0.length : Int) then (if 0 ≤ x8 then (if (rd x0 x8) = x1 then (if x7.length + x2.length < 17592186044416 then (spec_l04Put.l0 k x0 x1 x2 (x7 ++ x2) (wrap64 (x8 + 1))) else (none)) else (if (rd x0 x8) = (wrap64 (-x1)) then ((spec_l04Inverse.f k x2).bind fun t235 => (if x7.length + t235.length < 17592186044416 then (spec_l04Put.l0 k x0 x1 x2 (x7 ++ t235) (wrap64 (x8 + 1))) else (none))) else (if x7.length < 17592186044416 then (spec_l04Put.l0 k x0 x1 x2 (x7 ++ [rd x0 x8]) (wrap64 (x8 + 1))) else (none)))) else (none)) else ((spec_l04Reduce.f k x7).bind fun t245 => (spec_l04Put.l1 k x1 t245 0))
def spec_l04Put.l1 : Nat → Int → List Int → Int → Option (List Int)
 | 0, _, _, _ => none
 | k + 1, x1, x7, x9 => if x9 < (x7.length : Int) then (if 0 ≤ x9 then (if (rd x7 x9) > x1 then (spec_l04Put.l1 k x1 (x7.set (x9 : Int).toNat (wrap64 ((rd x7 x9) - 1))) (wrap64 (x9 + 1))) else (if (rd x7 x9) < (wrap64 (-x1)) then (spec_l04Put.l1 k x1 (x7.set (x9 : Int).toNat (wrap64 ((rd x7 x9) + 1))) (wrap64 (x9 + 1))) else (spec_l04Put.l1 k x1 x7 (wrap64 (x9 + 1))))) else (none)) else (some x7)
end
def spec_l04Put.f (k : Nat) (l0 : List Int) (a1 : Int) (l2 : List Int) : Option (List Int) := spec_l04Put.l0 k l0 a1 l2 (([] : List Int)) 0
theorem spec_l04Put.calls (k : Nat) (A0 : Option Addr) (c0 : Nat) (l0 : List Int) (a1 : Int) (A2 : Option Addr) (c2 : Nat) (l2 : List Int) (r : List Int) (w : World) (hr0 : Kd.C (Kd.int .i64) w A0 l0.length l0) (hc0 : l0.length ≤ c0) (hr2 : Kd.C (Kd.int .i64) w A2 l2.length l2) (hc2 : l2.length ≤ c2) (h : spec_l04Put.f k l0 a1 l2 = some r) :
  Calls Try.prog 120 #[.slice A0 l0.length c0, .int .i64 a1, .slice A2 l2.length c2] w fun e w' => ∃ v0_ : Value, e = .returned (v0_) ∧ Kd.R (Kd.int .i64) 2 w' w.heap.size (fun _ => True) v0_ r ∧ Below w.heap.size w w' := by
 have HR0 := am_ hr0
 have HC0 := am_ hc0
 clear hr0 hc0
 have HR2 := am_ hr2
 have HC2 := am_ hc2
 clear hr2 hc2
 have HB := am_ (Below.refl w.heap.size w)
 have H : (spec_l04Put.l0 k l0 a1 l2 (([] : List Int)) 0) = some r := h
 clear h
 obtain ⟨y228, hy228⟩ : ∃ y_ : List Int, y_ = (([] : List Int)) := ⟨_, rfl⟩
 replace H : (spec_l04Put.l0 k l0 a1 l2 y228 0) = some r := by first | (rw [hy228]; with_reducible exact H) | (have H2_ := (Option.bind_some _ _).symm.trans H; rw [hy228]; with_reducible exact H2_) | (have H2_ := (Option.bind_some _ _).symm.trans H; with_reducible exact H2_) | with_reducible exact H | (rw [hy228]; exact H) | exact H
 have Ny228 := am_ hy228
 clear hy228
 have H' := am_ H
 clear H
 go_enter Try.func120, Try.ntmps120
 go_wp2_with (first | ((with_reducible refine gate_dst (N := 10) rfl ?_); refine Kd.R_lit (Kd.int .i64) _ 2 ?hg (N := 10) ?hd (xs := ([] : List Int)) (inner := []) (ok := fun _ => True) (okp := fun _ => True) ?hr ?hp (fun _ hk => hk) trivial (Below.refl _ _) (Nat.le_refl _) (by simp) ?_; (case hd => rfl); (case hg => rfl); (case hr => first | (go_simp; done) | (go_simp; rfl)); (case hp => exact (Reps.none _ _)); intro v229 w4 ho5 hb hg_ hnew_; clear hg_ hnew_; (first | rw [← Ny228.out] at ho5 | (simp only [Int.reduceToNat] at ho5; rw [← Ny228.out] at ho5)); have n0_ := am_ (Kd.R_lower ho5 (below_size (bb_ HB.out))); have n1_ := am_ (below_step (bb_ HB.out) hb); clear HB; revert n0_ n1_; intro HO230 HB; clear hb ho5))
 go_loopg [7, 8] k (fun kq v7 v8 w' => ∃ (x7_1 : List Int) (x8_1 : Int), v8 = .int .i64 x8_1 ∧ Aside0 (spec_l04Put.l0 kq l0 a1 l2 x7_1 x8_1 = some r) ∧ Aside0 (kq ≤ k) ∧ Aside0 (Kd.R (Kd.int .i64) 2 w' w.heap.size (fun _ => True) v7 x7_1) ∧ Aside0 (Below w.heap.size w w'))
 case atStart => exact ⟨(y228), (0), (by first | rfl | (simp; done) | (simp [*]; done)), H', ⟨Nat.le_refl _⟩, ⟨rk_ HO230.out⟩, ⟨bb_ HB.out⟩⟩
 case round =>
  clear H'
  try clear c1
  try clear c2
  try clear p2
  obtain ⟨x7_1, x8_1, rfl, HA, HK1, HO_7, HB⟩ := hrel
  cases gk with
  | zero => exact absurd HA.out (by simp [spec_l04Put.l0])
  | succ k1 =>
   have H := HA.out
   clear HA
   simp only [spec_l04Put.l0] at H
   by_cases c6 : x8_1 < (l0.length : Int)
   ·rw [if_pos c6] at H
    have c6b0 : decide (x8_1 < (l0.length : Int)) = true := decide_eq_true c6
    clear c6
    by_cases c7 : 0 ≤ x8_1
    ·rw [if_pos c7] at H
     have c7b0 : decide (0 ≤ x8_1) = true := decide_eq_true c7
     clear c7
     by_cases c8 : (rd l0 x8_1) = a1
     ·rw [if_pos c8] at H
      have c8b0 : ((rd l0 x8_1) == a1) = true := beq_iff_eq.mpr c8
      have c8b1 : ((rd l0 x8_1) != a1) = false := bne_eq_false_iff_eq.mpr c8
      clear c8
      by_cases c9 : x7_1.length + l2.length < 17592186044416
      ·rw [if_pos c9] at H
       have LMc9 := am_ c9
       clear c9
       obtain ⟨y232, hy232⟩ : ∃ y_ : List Int, y_ = (x7_1 ++ l2) := ⟨_, rfl⟩
       replace H : (spec_l04Put.l0 k1 l0 a1 l2 y232 (wrap64 (x8_1 + 1))) = some r := by first | (rw [hy232]; with_reducible exact H) | (have H2_ := (Option.bind_some _ _).symm.trans H; rw [hy232]; with_reducible exact H2_) | (have H2_ := (Option.bind_some _ _).symm.trans H; with_reducible exact H2_) | with_reducible exact H | (rw [hy232]; exact H) | exact H
       have Ny232 := am_ hy232
       clear hy232
       have H' := am_ H
       clear H
       have p231 : 0 ≤ (x8_1 : Int) := da_
       have q231 : x8_1 < (l0.length : Int) := da_
       obtain ⟨ad231, e231, hx231_0⟩ := Kd.at_int HR0.out x8_1 p231 q231
       cases e231
       replace hx231_0 := ce_ HB hx231_0
       replace p231 := eq_true p231
       replace q231 := eq_true q231
       go_wp2_with (first | ((with_reducible refine gate_builtin (b := .append) (xs := #[.tmp 31, .tmp 32]) rfl ?_); at_builtin; refine Kd.R_append_rows (Kd.int .i64) (w0 := w) w.heap.size rfl (.tmp 31) (.tmp 32) 39 2 (.int .i64 0) 8 rfl Try.underlying39 info2 rfl (by decide) (by omega) u7 x7_1 l2 _ _ _ (fun _ => True) (fun _ => False) rfl rfl ?aO ?aR (fun _ _ h => h) (fun _ h => h.elim) ?aF ?aB ?aS ?aL ?_; (case aR => exact cb_ HR2 HB); (case aB => exact (bb_ HB.out)); (case aF => exact (fun _ _ => trivial)); (case aO => exact (rk_ HO_7.out)); (case aS => exact (below_size (bb_ HB.out))); (case aL => have := LMc9.out; omega); intro v233 w10 ho hb hg hat; rw [← Ny232.out] at ho; have n0_ := am_ (hb); have n1_ := am_ (ho); clear HB HO_7; revert n0_ n1_; intro HB HO234; clear ho hb hg hat))
       go_roundg k1
       case measure => have := HK1.out; omega
       case rel => exact ⟨(y232), (wrap64 (x8_1 + 1)), (by first | rfl | (simp; done) | (simp [*]; done)), H', ⟨by have := HK1.out; omega⟩, ⟨rk_ HO234.out⟩, ⟨bb_ HB.out⟩⟩
      ·rw [if_neg c9] at H
       exact absurd H (by simp)
     ·rw [if_neg c8] at H
      have c8b0 : ((rd l0 x8_1) == a1) = false := beq_eq_false_iff_ne.mpr c8
      have c8b1 : ((rd l0 x8_1) != a1) = true := bne_iff_ne.mpr c8
      by_cases c11 : (rd l0 x8_1) = (wrap64 (-a1))
      ·rw [if_pos c11] at H
       have c11b0 : ((rd l0 x8_1) == (wrap64 (-a1))) = true := beq_iff_eq.mpr c11
       have c11b1 : ((rd l0 x8_1) != (wrap64 (-a1))) = false := bne_eq_false_iff_eq.mpr c11
       clear c11
       replace H := Option.bind_eq_some_iff.mp H
       obtain ⟨t235, A120, H⟩ := H
       replace H : (if x7_1.length + t235.length < 17592186044416 then (spec_l04Put.l0 k1 l0 a1 l2 (x7_1 ++ t235) (wrap64 (x8_1 + 1))) else (none)) = some r := H
       have A12 := am_ A120
       clear A120
       by_cases c13 : x7_1.length + t235.length < 17592186044416
       ·rw [if_pos c13] at H
        have LMc13 := am_ c13
        clear c13
        obtain ⟨y238, hy238⟩ : ∃ y_ : List Int, y_ = (x7_1 ++ t235) := ⟨_, rfl⟩
        replace H : (spec_l04Put.l0 k1 l0 a1 l2 y238 (wrap64 (x8_1 + 1))) = some r := by first | (rw [hy238]; with_reducible exact H) | (have H2_ := (Option.bind_some _ _).symm.trans H; rw [hy238]; with_reducible exact H2_) | (have H2_ := (Option.bind_some _ _).symm.trans H; with_reducible exact H2_) | with_reducible exact H | (rw [hy238]; exact H) | exact H
        have Ny238 := am_ hy238
        clear hy238
        have H' := am_ H
        clear H
        have p231 : 0 ≤ (x8_1 : Int) := da_
        have q231 : x8_1 < (l0.length : Int) := da_
        obtain ⟨ad231, e231, hx231_0⟩ := Kd.at_int HR0.out x8_1 p231 q231
        cases e231
        replace hx231_0 := ce_ HB hx231_0
        replace p231 := eq_true p231
        replace q231 := eq_true q231
        go_wp2_with (first | ((with_reducible refine gate_callee (f := 96) rfl ?_); refine goesL_ (some 40) rfl rfl Try.func96 (by kernel_rfl) rfl #[.slice A2 l2.length c2] rfl lm_ ?_; (with_reducible refine (spec_l04Inverse.calls k1 _ _ l2 t235 _ ?side1 ?side2 A12.out).mono ?_); (case side1 => exact cb_ HR2 HB); (case side2 => exact HC2.out); rintro e w14 ⟨v236, rfl, ho0, hb⟩; refine ⟨_, rfl, ?_⟩; have n0_ := am_ (Kd.R_elder' (rk_ HO_7.out) (Kd.R_base ho0) hb); have n1_ := am_ (Kd.R_lower (Kd.R_new' ho0 (Kd.R_lt (rk_ HO_7.out))) (below_size (bb_ HB.out))); have n2_ := am_ (below_step (bb_ HB.out) hb); clear HO_7 HB; revert n0_ n1_ n2_; intro HO_7 HO237 HB; (try clear hb); (try clear hb2); (try clear hk); (try clear hi); (try clear ho0); obtain ⟨Ao16, co16, eo16⟩ := Kd.R_slice HO237.out; subst eo16) | ((with_reducible refine gate_builtin (b := .append) (xs := #[.tmp 38, .tmp 40]) rfl ?_); at_builtin; refine Kd.R_append_rows (Kd.int .i64) (w0 := w) w.heap.size rfl (.tmp 38) (.tmp 40) 39 2 (.int .i64 0) 8 rfl Try.underlying39 info2 rfl (by decide) (by omega) u7 x7_1 t235 _ _ _ (fun k_ => some k_ ≠ (.slice Ao16 t235.length co16 : Value).ownBlock) (fun _ => False) rfl rfl ?aO ?aR (fun _ _ h => h) (fun _ h => h.elim) ?aF ?aB ?aS ?aL ?_; (case aR => repeat (first | exact (Kd.R_reads' HO237.out).2.2 | (with_reducible refine Kd.C_alloc ?_ _) | (with_reducible refine Kd.C_drewN ?_ _) | (with_reducible refine Kd.C_drew ?_))); (case aB => exact (bb_ HB.out)); (case aF => exact (fun k_ hk => Kd.fresh' (Kd.R_lt (rk_ HO237.out)) k_ hk)); (case aO => exact (rm_ HO_7.out (fun _ hk => hk.2))); (case aS => exact (below_size (bb_ HB.out))); (case aL => have := LMc13.out; omega); intro v239 w15 ho hb hg hat; rw [← Ny238.out] at ho; have n0_ := am_ (Kd.R_after (ok := (fun _ => True)) (rk_ HO237.out) hg hat); have n1_ := am_ (hb); have n2_ := am_ (ho); clear HO237 HB HO_7; revert n0_ n1_ n2_; intro HO237 HB HO240; clear ho hb hg hat))
        go_roundg k1
        case measure => have := HK1.out; omega
        case rel => exact ⟨(y238), (wrap64 (x8_1 + 1)), (by first | rfl | (simp; done) | (simp [*]; done)), H', ⟨by have := HK1.out; omega⟩, ⟨rm_ HO240.out (fun _ hk => trivial)⟩, ⟨bb_ HB.out⟩⟩
       ·rw [if_neg c13] at H
        exact absurd H (by simp)
      ·rw [if_neg c11] at H
       have c11b0 : ((rd l0 x8_1) == (wrap64 (-a1))) = false := beq_eq_false_iff_ne.mpr c11
       have c11b1 : ((rd l0 x8_1) != (wrap64 (-a1))) = true := bne_iff_ne.mpr c11
       by_cases c17 : x7_1.length < 17592186044416
       ·rw [if_pos c17] at H
        have LMc17 := am_ c17
        clear c17
        obtain ⟨y242, hy242⟩ : ∃ y_ : List Int, y_ = (x7_1 ++ [rd l0 x8_1]) := ⟨_, rfl⟩
        replace H : (spec_l04Put.l0 k1 l0 a1 l2 y242 (wrap64 (x8_1 + 1))) = some r := by first | (rw [hy242]; with_reducible exact H) | (have H2_ := (Option.bind_some _ _).symm.trans H; rw [hy242]; with_reducible exact H2_) | (have H2_ := (Option.bind_some _ _).symm.trans H; with_reducible exact H2_) | with_reducible exact H | (rw [hy242]; exact H) | exact H
        have Ny242 := am_ hy242
        clear hy242
        have H' := am_ H
        clear H
        have p231 : 0 ≤ (x8_1 : Int) := da_
        have q231 : x8_1 < (l0.length : Int) := da_
        obtain ⟨ad231, e231, hx231_0⟩ := Kd.at_int HR0.out x8_1 p231 q231
        cases e231
        replace hx231_0 := ce_ HB hx231_0
        replace p231 := eq_true p231
        replace q231 := eq_true q231
        have p241 : 0 ≤ (x8_1 : Int) := da_
        have q241 : x8_1 < (l0.length : Int) := da_
        obtain ⟨ad241, e241, hx241_0⟩ := Kd.at_int HR0.out x8_1 p241 q241
        obtain rfl : ad231 = ad241 := (by injection e241)
        replace hx241_0 := ce_ HB hx241_0
        replace p241 := eq_true p241
        replace q241 := eq_true q241
        go_wp2_with (first | ((with_reducible refine gate_builtin (b := .append) (xs := #[.tmp 21, .tmp 26]) rfl ?_); at_builtin; refine Kd.R_append (Kd.int .i64) (w0 := w) w.heap.size rfl (.tmp 21) (.tmp 26) 39 2 (.int .i64 0) 8 rfl Try.underlying39 info2 rfl (by decide) (by omega) u7 x7_1 (rd l0 x8_1) [.int .i64 (rd l0 x8_1)] (fun _ => True) (fun _ => False) rfl rfl ?aP (fun _ hk => hk.elim) ?aF ?aO ?aB ?aS ?aL ?_; (case aP => exact rfl); (case aB => exact (bb_ HB.out)); (case aF => exact (fun _ _ => trivial)); (case aO => exact (rk_ HO_7.out)); (case aS => exact (below_size (bb_ HB.out))); (case aL => have := LMc17.out; omega); intro v243 w18 ho hb hg hat; rw [← Ny242.out] at ho; have n0_ := am_ (hb); have n1_ := am_ (ho); clear HB HO_7; revert n0_ n1_; intro HB HO244; clear ho hb hg hat))
        go_roundg k1
        case measure => have := HK1.out; omega
        case rel => exact ⟨(y242), (wrap64 (x8_1 + 1)), (by first | rfl | (simp; done) | (simp [*]; done)), H', ⟨by have := HK1.out; omega⟩, ⟨rk_ HO244.out⟩, ⟨bb_ HB.out⟩⟩
       ·rw [if_neg c17] at H
        exact absurd H (by simp)
    ·rw [if_neg c7] at H
     exact absurd H (by simp)
   ·rw [if_neg c6] at H
    have c6b0 : decide (x8_1 < (l0.length : Int)) = false := decide_eq_false c6
    clear c6
    replace H := Option.bind_eq_some_iff.mp H
    obtain ⟨t245, A190, H⟩ := H
    replace H : (spec_l04Put.l1 k1 a1 t245 0) = some r := H
    have A19 := am_ A190
    clear A190
    have H' := am_ H
    clear H
    obtain ⟨Ao20, co20, eo20⟩ := Kd.R_slice HO_7.out
    subst eo20
    go_wp2_with (first | ((with_reducible refine gate_callee (f := 87) rfl ?_); refine goesL_ (some 43) rfl rfl Try.func87 (by kernel_rfl) rfl #[.slice Ao20 x7_1.length co20] rfl lm_ ?_; (with_reducible refine (spec_l04Reduce.calls k1 _ _ x7_1 t245 _ ?side1 ?side2 A19.out).mono ?_); (case side1 => repeat (first | exact (Kd.R_reads' HO_7.out).2.2 | (with_reducible refine Kd.C_alloc ?_ _) | (with_reducible refine Kd.C_drewN ?_ _) | (with_reducible refine Kd.C_drew ?_))); (case side2 => exact (Kd.R_reads' HO_7.out).2.1); rintro e w21 ⟨v246, rfl, ho0, hb⟩; refine ⟨_, rfl, ?_⟩; have n0_ := am_ (Kd.R_elder' (rk_ HO_7.out) (Kd.R_base ho0) hb); have n1_ := am_ (Kd.R_lower (Kd.R_new' ho0 (Kd.R_lt (rk_ HO_7.out))) (below_size (bb_ HB.out))); have n2_ := am_ (below_step (bb_ HB.out) hb); clear HO_7 HB; revert n0_ n1_ n2_; intro HO_7 HO247 HB; (try clear hb); (try clear hb2); (try clear hk); (try clear hi); (try clear ho0)))
    go_loopg [9] k1 (fun kq v9 w' => ∃ (x7_2 : List Int) (x9_2 : Int), v9 = .int .i64 x9_2 ∧ Aside0 (spec_l04Put.l1 kq a1 x7_2 x9_2 = some r) ∧ Aside0 (kq ≤ k1) ∧ Aside0 (Kd.R (Kd.int .i64) 2 w' w.heap.size (fun _ => True) v246 x7_2) ∧ Aside0 (Below w.heap.size w w'))
    case atStart => exact ⟨(t245), (0), (by first | rfl | (simp; done) | (simp [*]; done)), H', ⟨Nat.le_refl _⟩, ⟨rm_ HO247.out (fun _ hk => trivial)⟩, ⟨bb_ HB.out⟩⟩
    case round =>
     clear H'
     try clear c1
     try clear c2
     try clear p2
     try clear q2
     try clear hx2
     try clear c6
     try clear c6b0
     try clear p6
     try clear c7
     try clear c7b0
     try clear c8
     try clear c8b0
     try clear c8b1
     try clear c9
     try clear c11
     try clear c11b0
     try clear c11b1
     try clear c12
     try clear c13
     try clear c17
     try clear hx231_0
     try clear hx241_0
     try clear p2
     try clear p231
     try clear p241
     try clear q231
     try clear q241
     obtain ⟨x7_2, x9_2, rfl, HA, HK2, HO_7, HB⟩ := hrel
     cases gk with
     | zero => exact absurd HA.out (by simp [spec_l04Put.l1])
     | succ k2 =>
      have H := HA.out
      clear HA
      simp only [spec_l04Put.l1] at H
      by_cases c22 : x9_2 < (x7_2.length : Int)
      ·rw [if_pos c22] at H
       have c22b0 : decide (x9_2 < (x7_2.length : Int)) = true := decide_eq_true c22
       clear c22
       by_cases c23 : 0 ≤ x9_2
       ·rw [if_pos c23] at H
        have c23b0 : decide (0 ≤ x9_2) = true := decide_eq_true c23
        clear c23
        by_cases c24 : (rd x7_2 x9_2) > a1
        ·rw [if_pos c24] at H
         have c24b0 : decide (a1 < (rd x7_2 x9_2)) = true := decide_eq_true c24
         clear c24
         obtain ⟨y250, hy250⟩ : ∃ y_ : List Int, y_ = (x7_2.set (x9_2 : Int).toNat (wrap64 ((rd x7_2 x9_2) - 1))) := ⟨_, rfl⟩
         replace H : (spec_l04Put.l1 k2 a1 y250 (wrap64 (x9_2 + 1))) = some r := by first | (rw [hy250]; with_reducible exact H) | (have H2_ := (Option.bind_some _ _).symm.trans H; rw [hy250]; with_reducible exact H2_) | (have H2_ := (Option.bind_some _ _).symm.trans H; with_reducible exact H2_) | with_reducible exact H | (rw [hy250]; exact H) | exact H
         have Ny250 := am_ hy250
         clear hy250
         have H' := am_ H
         clear H
         obtain ⟨Ao26, co26, eo26⟩ := Kd.R_slice HO_7.out
         subst eo26
         have p248 : 0 ≤ (x9_2 : Int) := da_
         have q248 : x9_2 < (x7_2.length : Int) := da_
         obtain ⟨ad248, e248, hx248_0⟩ := Kd.at_int (Kd.R_reads' HO_7.out).2.2 x9_2 p248 q248
         cases e248
         replace p248 := eq_true p248
         replace q248 := eq_true q248
         have p249 : 0 ≤ (x9_2 : Int) := da_
         have q249 : x9_2 < (x7_2.length : Int) := da_
         obtain ⟨ad249, e249, hx249_0⟩ := Kd.at_int (Kd.R_reads' HO_7.out).2.2 x9_2 p249 q249
         obtain rfl : ad248 = ad249 := (by injection e249)
         replace p249 := eq_true p249
         replace q249 := eq_true q249
         have p25 : 0 ≤ (x9_2 : Int) := da_
         have q25 : (x9_2 : Int) < ((x7_2.length : Int) : Int) := da_
         obtain ⟨go25, co25, eo25, gb25, gl25, cl25, HG25⟩ := Kd.R_form HO_7.out (by omega)
         (first | cases eo25 | (injection eo25 with ea_ en_ ec_; (first | subst ea_ | (injection ea_ with ea_; subst ea_)); subst ec_; clear en_))
         have GB25 := am_ gb25
         have GG25 := am_ HG25
         clear gb25 gl25 HG25
         (first | simp only [add_plain] at hx248_0 | skip)
         (first | simp only [add_plain] at hx249_0 | skip)
         obtain ⟨hx25_0, hf25_0⟩ := Kd.R_celln 0 HO_7.out (x9_2 : Int) p25 q25
         replace p25 := eq_true p25
         replace q25 := eq_true q25
         have HP27 := Kd.R_putg HO_7.out (x9_2 : Int) (wrap64 ((rd x7_2 x9_2) - 1))
         go_wp2_with (first | ((with_reducible refine gate_store (t := 2) (p := 63) rfl ?_); refine store_event (t := 2) (p := 63) (v := ?vo_w28) (w1 := (wr.setCell ⟨go25, (x9_2 : Int).toNat, none⟩ (.int .i64 (wrap64 ((rd x7_2 x9_2) - 1))))) ?hg ?ho ?hn ?hr ?_; (case ho => rfl); (case hg => rfl); (case hn => rfl); (case hr => first | (go_simp; done) | (go_simp; rfl)); intro w28 hw; have hg : wr.grownBy w28 (some go25) := (by rw [hw]; exact HP27.2); have hp_ : Kd.R (Kd.int .i64) 2 w28 w.heap.size (fun _ => True) (.slice (some ⟨go25, 0, none⟩) x7_2.length co26) y250 := (by rw [hw, Ny250.out]; exact HP27.1); clear HP27; have n0_ := am_ (hp_); have n1_ := am_ ((by rw [hw]; exact below_set (HB.out) GB25.out : Below w.heap.size w w28)); clear HO_7 HB; revert n0_ n1_; intro HO_7 HB; clear hg hw hp_))
         go_roundg k2
         case measure => have := HK1.out; have := HK2.out; omega
         case rel => exact ⟨(y250), (wrap64 (x9_2 + 1)), (by first | rfl | (simp; done) | (simp [*]; done)), H', ⟨by have := HK1.out; have := HK2.out; omega⟩, ⟨rk_ HO_7.out⟩, ⟨bb_ HB.out⟩⟩
        ·rw [if_neg c24] at H
         have c24b0 : decide (a1 < (rd x7_2 x9_2)) = false := decide_eq_false c24
         clear c24
         by_cases c29 : (rd x7_2 x9_2) < (wrap64 (-a1))
         ·rw [if_pos c29] at H
          have c29b0 : decide ((rd x7_2 x9_2) < (wrap64 (-a1))) = true := decide_eq_true c29
          clear c29
          obtain ⟨y253, hy253⟩ : ∃ y_ : List Int, y_ = (x7_2.set (x9_2 : Int).toNat (wrap64 ((rd x7_2 x9_2) + 1))) := ⟨_, rfl⟩
          replace H : (spec_l04Put.l1 k2 a1 y253 (wrap64 (x9_2 + 1))) = some r := by first | (rw [hy253]; with_reducible exact H) | (have H2_ := (Option.bind_some _ _).symm.trans H; rw [hy253]; with_reducible exact H2_) | (have H2_ := (Option.bind_some _ _).symm.trans H; with_reducible exact H2_) | with_reducible exact H | (rw [hy253]; exact H) | exact H
          have Ny253 := am_ hy253
          clear hy253
          have H' := am_ H
          clear H
          obtain ⟨Ao31, co31, eo31⟩ := Kd.R_slice HO_7.out
          subst eo31
          have p248 : 0 ≤ (x9_2 : Int) := da_
          have q248 : x9_2 < (x7_2.length : Int) := da_
          obtain ⟨ad248, e248, hx248_0⟩ := Kd.at_int (Kd.R_reads' HO_7.out).2.2 x9_2 p248 q248
          cases e248
          replace p248 := eq_true p248
          replace q248 := eq_true q248
          have p251 : 0 ≤ (x9_2 : Int) := da_
          have q251 : x9_2 < (x7_2.length : Int) := da_
          obtain ⟨ad251, e251, hx251_0⟩ := Kd.at_int (Kd.R_reads' HO_7.out).2.2 x9_2 p251 q251
          obtain rfl : ad248 = ad251 := (by injection e251)
          replace p251 := eq_true p251
          replace q251 := eq_true q251
          have p252 : 0 ≤ (x9_2 : Int) := da_
          have q252 : x9_2 < (x7_2.length : Int) := da_
          obtain ⟨ad252, e252, hx252_0⟩ := Kd.at_int (Kd.R_reads' HO_7.out).2.2 x9_2 p252 q252
          obtain rfl : ad248 = ad252 := (by injection e252)
          replace p252 := eq_true p252
          replace q252 := eq_true q252
          have p30 : 0 ≤ (x9_2 : Int) := da_
          have q30 : (x9_2 : Int) < ((x7_2.length : Int) : Int) := da_
          obtain ⟨go30, co30, eo30, gb30, gl30, cl30, HG30⟩ := Kd.R_form HO_7.out (by omega)
          (first | cases eo30 | (injection eo30 with ea_ en_ ec_; (first | subst ea_ | (injection ea_ with ea_; subst ea_)); subst ec_; clear en_))
          have GB30 := am_ gb30
          have GG30 := am_ HG30
          clear gb30 gl30 HG30
          (first | simp only [add_plain] at hx248_0 | skip)
          (first | simp only [add_plain] at hx251_0 | skip)
          (first | simp only [add_plain] at hx252_0 | skip)
          obtain ⟨hx30_0, hf30_0⟩ := Kd.R_celln 0 HO_7.out (x9_2 : Int) p30 q30
          replace p30 := eq_true p30
          replace q30 := eq_true q30
          have HP32 := Kd.R_putg HO_7.out (x9_2 : Int) (wrap64 ((rd x7_2 x9_2) + 1))
          go_wp2_with (first | ((with_reducible refine gate_store (t := 2) (p := 78) rfl ?_); refine store_event (t := 2) (p := 78) (v := ?vo_w33) (w1 := (wr.setCell ⟨go30, (x9_2 : Int).toNat, none⟩ (.int .i64 (wrap64 ((rd x7_2 x9_2) + 1))))) ?hg ?ho ?hn ?hr ?_; (case ho => rfl); (case hg => rfl); (case hn => rfl); (case hr => first | (go_simp; done) | (go_simp; rfl)); intro w33 hw; have hg : wr.grownBy w33 (some go30) := (by rw [hw]; exact HP32.2); have hp_ : Kd.R (Kd.int .i64) 2 w33 w.heap.size (fun _ => True) (.slice (some ⟨go30, 0, none⟩) x7_2.length co31) y253 := (by rw [hw, Ny253.out]; exact HP32.1); clear HP32; have n0_ := am_ (hp_); have n1_ := am_ ((by rw [hw]; exact below_set (HB.out) GB30.out : Below w.heap.size w w33)); clear HO_7 HB; revert n0_ n1_; intro HO_7 HB; clear hg hw hp_))
          go_roundg k2
          case measure => have := HK1.out; have := HK2.out; omega
          case rel => exact ⟨(y253), (wrap64 (x9_2 + 1)), (by first | rfl | (simp; done) | (simp [*]; done)), H', ⟨by have := HK1.out; have := HK2.out; omega⟩, ⟨rk_ HO_7.out⟩, ⟨bb_ HB.out⟩⟩
         ·rw [if_neg c29] at H
          have c29b0 : decide ((rd x7_2 x9_2) < (wrap64 (-a1))) = false := decide_eq_false c29
          clear c29
          have H' := am_ H
          clear H
          obtain ⟨Ao34, co34, eo34⟩ := Kd.R_slice HO_7.out
          subst eo34
          have p248 : 0 ≤ (x9_2 : Int) := da_
          have q248 : x9_2 < (x7_2.length : Int) := da_
          obtain ⟨ad248, e248, hx248_0⟩ := Kd.at_int (Kd.R_reads' HO_7.out).2.2 x9_2 p248 q248
          cases e248
          replace p248 := eq_true p248
          replace q248 := eq_true q248
          have p251 : 0 ≤ (x9_2 : Int) := da_
          have q251 : x9_2 < (x7_2.length : Int) := da_
          obtain ⟨ad251, e251, hx251_0⟩ := Kd.at_int (Kd.R_reads' HO_7.out).2.2 x9_2 p251 q251
          obtain rfl : ad248 = ad251 := (by injection e251)
          replace p251 := eq_true p251
          replace q251 := eq_true q251
          go_wp2
          go_roundg k2
          case measure => have := HK1.out; have := HK2.out; omega
          case rel => exact ⟨(x7_2), (wrap64 (x9_2 + 1)), (by first | rfl | (simp; done) | (simp [*]; done)), H', ⟨by have := HK1.out; have := HK2.out; omega⟩, ⟨rk_ HO_7.out⟩, ⟨bb_ HB.out⟩⟩
       ·rw [if_neg c23] at H
        exact absurd H (by simp)
      ·rw [if_neg c22] at H
       have c22b0 : decide (x9_2 < (x7_2.length : Int)) = false := decide_eq_false c22
       clear c22
       obtain rfl := Option.some.inj H
       obtain ⟨Ao35, co35, eo35⟩ := Kd.R_slice HO_7.out
       subst eo35
       go_wp2
       go_ret
       exact ⟨_, by first | rfl | (simp [errW_none, errW_some] <;> rfl) | (simp [*, errW_none, errW_some] <;> rfl), by (with_reducible repeat (first | apply Kd.R_alloc | apply Kd.R_drewN | apply Kd.R_drew)); exact HO_7.out, bb_ HB.out⟩

/-! ### spec_l04Remove: function 97 -/
def spec_l04Remove.l0 : Nat → Int → List Int → List (List Int) → Int → Int → List (List Int) → Option (Int × (List (List Int)))
 | 0, _, _, _, _, _, _ => none
 | k + 1, x2, x7, x9, x10, x261000, x261001 => if x10 < (x9.length : Int) then (if 0 ≤ x10 then ((spec_l04Put.f k (rd_L1 x9 x10) x2 x7).bind fun t265 => (if x261001.length < 5864062014805 then (spec_l04Remove.l0 k x2 x7 x9 (wrap64 (x10 + 1)) x261000 (x261001 ++ [t265])) else (none))) else (none)) else (some (x261000, x261001))
def spec_l04Remove.f (k : Nat) (a0_0 : Int) (l0_1 : List (List Int)) (a1 : Int) (a2 : Int) : Option (Int × (List (List Int))) := if 0 ≤ a1 then (if a1 < (l0_1.length : Int) then ((spec_l04Solve.f k (rd_L1 l0_1 a1) a2).bind fun t257 => ((spec_l04Copy.f k l0_1 a1).bind fun t261 => (spec_l04Remove.l0 k a2 t257 t261 0 (wrap64 (a0_0 - 1)) ([] : List (List Int))))) else (none)) else (none)
def spec_l04Remove.T7 : Bool × List (List Nat × List Nat) := (true, [([], []), ([0], [0]), ([], []), ([], []), ([2, 3], [2, 3]), ([4], [4]), ([], []), ([], []), ([5, 6, 7], [5, 6, 7]), ([8], [8]), ([1, 9, 8], [1, 9]), ([0, 1, 2, 3, 4, 5, 6, 7, 8, 9, 10], []), ([11, 10, 10, 0, 1, 2, 3, 4, 5, 6, 7, 8, 9, 10], [10, 11])])
def spec_l04Remove.B7 : List Nat := [0, 1, 0, 0, 12, 28, 0, 0, 252, 508, 1023, 2047, 4095]
theorem spec_l04Remove.tab7 : rtab .any (opsOf Try.f97 7) = spec_l04Remove.T7 := by kernel_rfl
theorem spec_l04Remove.bits7 : waitsOk spec_l04Remove.T7.2 spec_l04Remove.B7 = true := by kernel_rfl
theorem spec_l04Remove.calls (k : Nat) (a0_0 : Int) (A0_1 : Option Addr) (c0_1 : Nat) (l0_1 : List (List Int)) (a1 : Int) (a2 : Int) (r1 : Int) (r2 : List (List Int)) (w : World) (hr0_1 : Kd.C (Kd.slice 2 (Kd.int .i64)) w A0_1 l0_1.length l0_1) (hc0_1 : l0_1.length ≤ c0_1) (h : spec_l04Remove.f k a0_0 l0_1 a1 a2 = some (r1, r2)) :
  Calls Try.prog 97 #[.agg #[.int .i64 a0_0, .slice A0_1 l0_1.length c0_1], .int .i64 a1, .int .i64 a2] w fun e w' => ∃ v1_ : Value, e = .returned (.agg #[.int .i64 r1, v1_]) ∧ Kd.S (Kd.slice 2 (Kd.int .i64)) 39 w' w.heap.size (fun _ => True) v1_ r2 ∧ Below w.heap.size w w' := by
 have hu28 := Try.underlying28
 have HR0_1 := am_ hr0_1
 have HC0_1 := am_ hc0_1
 clear hr0_1 hc0_1
 have HB := am_ (Below.refl w.heap.size w)
 have H : (if 0 ≤ a1 then (if a1 < (l0_1.length : Int) then ((spec_l04Solve.f k (rd_L1 l0_1 a1) a2).bind fun t257 => ((spec_l04Copy.f k l0_1 a1).bind fun t261 => (spec_l04Remove.l0 k a2 t257 t261 0 (wrap64 (a0_0 - 1)) ([] : List (List Int))))) else (none)) else (none)) = some (r1, r2) := h
 clear h
 by_cases c4 : 0 ≤ a1
 ·rw [if_pos c4] at H
  have c4b0 : decide (0 ≤ a1) = true := decide_eq_true c4
  clear c4
  by_cases c5 : a1 < (l0_1.length : Int)
  ·rw [if_pos c5] at H
   have c5b0 : decide (a1 < (l0_1.length : Int)) = true := decide_eq_true c5
   clear c5
   replace H := Option.bind_eq_some_iff.mp H
   obtain ⟨t257, A60, H⟩ := H
   replace H : ((spec_l04Copy.f k l0_1 a1).bind fun t261 => (spec_l04Remove.l0 k a2 t257 t261 0 (wrap64 (a0_0 - 1)) ([] : List (List Int)))) = some (r1, r2) := H
   have A6 := am_ A60
   clear A60
   replace H := Option.bind_eq_some_iff.mp H
   obtain ⟨t261, A70, H⟩ := H
   replace H : (spec_l04Remove.l0 k a2 t257 t261 0 (wrap64 (a0_0 - 1)) ([] : List (List Int))) = some (r1, r2) := H
   have A7 := am_ A70
   clear A70
   have H' := am_ H
   clear H
   go_enter Try.func97, Try.ntmps97
   go_wp2_with (first | (refine be_ 3 28 #[.int .i64 a0_0, .slice A0_1 l0_1.length c0_1] ?_; intro gb254 hg w8 hbox hb; have n_ := ba0_ HB hbox hb hg; clear  HB hb hbox hg; obtain ⟨HB, BK254, GW254, GE254⟩ := n_) | (refine be_ 6 28 #[.int .i64 0, .slice none 0 0] ?_; intro gb255 hg w9 hbox hb; have n_ := ba1_ BK254 HB hbox hb hg; clear BK254 HB hb hbox hg; obtain ⟨BK254, HB, BK255, GW255, GE255, NB254_255, NB255_254⟩ := n_; have hnb10 := NB254_255.out; have hnc10 := NB255_254.out; obtain ⟨hcz11_0, hcz11_1, hfz11_0, hfz11_1⟩ := bx2_ BK254; have p256 : 0 ≤ (a1 : Int) := da_; have q256 : a1 < (l0_1.length : Int) := da_; obtain ⟨ad256, A256_0, c256_0, e256, hx256_0, hl256_0, hi256_0⟩ := at_L1 HR0_1.out a1 p256 q256; cases e256; replace hx256_0 := ce_ HB hx256_0; have HR256_0 := am_ hi256_0; have HC256_0 := am_ hl256_0; clear hi256_0 hl256_0; replace p256 := eq_true p256; replace q256 := eq_true q256) | ((with_reducible refine gate_callee (f := 119) rfl ?_); refine goesL_ (some 17) rfl rfl Try.func119 (by kernel_rfl) rfl #[.slice A256_0 (rd_L1 l0_1 a1).length c256_0, .int .i64 a2] rfl lm_ ?_; (with_reducible refine (spec_l04Solve.calls k _ _ (rd_L1 l0_1 a1) a2 t257 _ ?side1 ?side2 A6.out).mono ?_); (case side1 => exact cb_ HR256_0 HB); (case side2 => exact HC256_0.out); rintro e w12 ⟨v258, rfl, ho0, hb⟩; refine ⟨_, rfl, ?_⟩; have n0_ := am_ (Kd.R_lower ho0 (below_size (bb_ HB.out))); have n1_ := am_ (bw_ BK254 hb); have n2_ := am_ (bw_ BK255 hb); have n3_ := am_ (below_step (bb_ HB.out) hb); clear BK254 BK255 HB; revert n0_ n1_ n2_ n3_; intro HO259 BK254 BK255 HB; (try clear hb); (try clear hb2); (try clear hk); (try clear hi); (try clear ho0); obtain ⟨hcz13_0, hcz13_1, hfz13_0, hfz13_1⟩ := bx2_ BK254) | (refine be_ 8 28 #[.int .i64 0, .slice none 0 0] ?_; intro gb260 hg w14 hbox hb; have n0_ := am_ (Kd.R_below (rk_ HO259.out) hb); have n1_ := am_ (bw_ BK254 hb); have n2_ := am_ (bw_ BK255 hb); have n3_ := am_ (below_step (bb_ HB.out) hb); have n4_ := am_ (hbox); have n5_ := gs_ HB hg; have n6_ := gs_ HB hg; have n7_ := am_ (nl_ BK254 hg); have n8_ := am_ (ng_ BK254 hg); have n9_ := am_ (nl_ BK255 hg); have n10_ := am_ (ng_ BK255 hg); clear HO259 BK254 BK255 HB; revert n0_ n1_ n2_ n3_ n4_ n5_ n6_ n7_ n8_ n9_ n10_; intro HO259 BK254 BK255 HB BK260 GW260 GE260 NB254_260 NB260_254 NB255_260 NB260_255; clear hb hbox hg; have hnb15 := NB260_254.out; have hnc15 := NB254_260.out; have hnb16 := NB260_255.out; have hnc16 := NB255_260.out; obtain ⟨hcz17_0, hcz17_1, hfz17_0, hfz17_1⟩ := bx2_ BK260; obtain ⟨hcz18_0, hcz18_1, hfz18_0, hfz18_1⟩ := bx2_ BK254) | ((with_reducible refine gate_callee (f := 40) rfl ?_); refine goesL_ (some 25) rfl rfl Try.func40 (by kernel_rfl) rfl #[.slice (some ad256) l0_1.length c0_1, .int .i64 a1] rfl lm_ ?_; (with_reducible refine (spec_l04Copy.calls k _ _ l0_1 a1 t261 _ ?side1 ?side2 A7.out).mono ?_); (case side1 => exact Kd.C_below HR0_1.out (bb_ HB.out)); (case side2 => exact HC0_1.out); rintro e w19 ⟨v262, rfl, ho0, hb⟩; refine ⟨_, rfl, ?_⟩; have n0_ := am_ (Kd.R_below ((rm_ (Kd.R_far (p := ⟨gb260, 1, none⟩) (Kd.R_far (p := ⟨gb260, 0, none⟩) (Kd.R_types HO259.out BK260.out (by decide)) (fun _ hk => hk.2) (.int .i64 (wrap64 (a0_0 - 1)))) (fun _ hk => hk.2) (.slice none 0 0)) (fun _ h_ => h_.1))) hb); have n1_ := am_ (Kd.S_lower (Kd.S_new' ho0 (Kd.R_lt ((rm_ (Kd.R_far (p := ⟨gb260, 1, none⟩) (Kd.R_far (p := ⟨gb260, 0, none⟩) (Kd.R_types HO259.out BK260.out (by decide)) (fun _ hk => hk.2) (.int .i64 (wrap64 (a0_0 - 1)))) (fun _ hk => hk.2) (.slice none 0 0)) (fun _ h_ => h_.1))))) (below_size (bb_ HB.out))); have n2_ := am_ (bw_ BK254 hb); have n3_ := am_ (bw_ BK255 hb); have n4_ := am_ (blk_below (g := gb260) (o := .cells #[.int .i64 (wrap64 (a0_0 - 1)), .slice none 0 0] 28 (0, 0)) (by (with_reducible repeat (first | refine blk_drewN ?_ _ | refine blk_drew ?_ | refine blk_alloc ?_ _)); refine blk_put (cs := #[.int .i64 (wrap64 (a0_0 - 1)), .slice none 0 0]) ?_ 1 _ rfl; (with_reducible repeat (first | refine blk_drewN ?_ _ | refine blk_drew ?_ | refine blk_alloc ?_ _)); refine blk_put (cs := #[.int .i64 0, .slice none 0 0]) ?_ 0 _ rfl; (with_reducible repeat (first | refine blk_drewN ?_ _ | refine blk_drew ?_ | refine blk_alloc ?_ _)); exact BK260.out) hb); have n5_ := am_ (below_step (bb_ HB.out) hb); clear HO259 BK254 BK255 BK260 HB; revert n0_ n1_ n2_ n3_ n4_ n5_; intro HO259 HO263 BK254 BK255 BK260 HB; (try clear hb); (try clear hb2); (try clear hk); (try clear hi); (try clear ho0)))
   go_loopg [10] k (fun kq v10 w' => ∃ (x10_1 : Int) (x261001_1 : List (List Int)) (u261001 : Value), v10 = .int .i64 x10_1 ∧ Aside0 (spec_l04Remove.l0 kq a2 t257 t261 x10_1 (wrap64 (a0_0 - 1)) x261001_1 = some (r1, r2)) ∧ Aside0 (kq ≤ k) ∧ Aside0 (Kd.R (Kd.int .i64) 2 w' w.heap.size (fun _ => True) v258 t257) ∧ Aside0 (Kd.S (Kd.slice 2 (Kd.int .i64)) 39 w' w.heap.size (fun k_ => some k_ ≠ (v258 : Value).ownBlock ∧ some k_ ≠ (u261001 : Value).ownBlock) v262 t261) ∧ Aside0 (Kd.S (Kd.slice 2 (Kd.int .i64)) 39 w' w.heap.size (fun k_ => some k_ ≠ (v258 : Value).ownBlock ∧ some k_ ≠ (v262 : Value).ownBlock) u261001 x261001_1) ∧ Aside0 (w'.heap[gb254]? = some (.cells #[.int .i64 a0_0, (.slice (some ad256) l0_1.length c0_1)] 28 (0, 0))) ∧ Aside0 (w'.heap[gb255]? = some (.cells #[.int .i64 0, (.slice none 0 0)] 28 (0, 0))) ∧ Aside0 (w'.heap[gb260]? = some (.cells #[.int .i64 (wrap64 (a0_0 - 1)), u261001] 28 (0, 0))) ∧ Aside0 (Below w.heap.size w w'))
   case atStart => exact ⟨(0), (([] : List (List Int))), (.slice none 0 0), (by first | rfl | (simp; done) | (simp [*]; done)), H', ⟨Nat.le_refl _⟩, ⟨rk_ HO259.out⟩, ⟨by (with_reducible repeat (first | apply Kd.S_alloc | apply Kd.S_drewN | apply Kd.S_drew)); exact Kd.S_mono HO263.out (fun _ hk => ⟨hk.2, (by simp [Value.ownBlock])⟩)⟩, ⟨by first | exact Kd.S_nil _ _ _ _ _ | exact Kd.N_nil _ _ _ _ _ | exact Kd.V_nil _ _ _ _ _ | exact Kd.Q_nil _ _ _ _ _ | exact Kd.R_nil _ _ _ _ _⟩, ⟨bk_ BK254.out⟩, ⟨bk_ BK255.out⟩, ⟨bk_ BK260.out⟩, ⟨bb_ HB.out⟩⟩
   case round =>
    clear H'
    try clear c1
    try clear c2
    try clear p2
    try clear q2
    try clear hx2
    try clear c4
    try clear c4b0
    try clear c5
    try clear c5b0
    try clear p6
    try clear c9
    try clear c10
    try clear c11
    try clear c15
    try clear c16
    try clear hcz11_0
    try clear hcz11_1
    try clear hcz13_0
    try clear hcz13_1
    try clear hcz17_0
    try clear hcz17_1
    try clear hcz18_0
    try clear hcz18_1
    try clear hfz11_0
    try clear hfz11_1
    try clear hfz13_0
    try clear hfz13_1
    try clear hfz17_0
    try clear hfz17_1
    try clear hfz18_0
    try clear hfz18_1
    try clear hx256_0
    try clear p256
    try clear q256
    obtain ⟨x10_1, x261001_1, u261001, rfl, HA, HK1, HO_7, HO_9, HO_261001, BK254, BK255, BK260, HB⟩ := hrel
    cases gk with
    | zero => exact absurd HA.out (by simp [spec_l04Remove.l0])
    | succ k1 =>
     have H := HA.out
     clear HA
     simp only [spec_l04Remove.l0] at H
     by_cases c20 : x10_1 < (t261.length : Int)
     ·rw [if_pos c20] at H
      have c20b0 : decide (x10_1 < (t261.length : Int)) = true := decide_eq_true c20
      clear c20
      by_cases c21 : 0 ≤ x10_1
      ·rw [if_pos c21] at H
       have c21b0 : decide (0 ≤ x10_1) = true := decide_eq_true c21
       clear c21
       replace H := Option.bind_eq_some_iff.mp H
       obtain ⟨t265, A220, H⟩ := H
       replace H : (if x261001_1.length < 5864062014805 then (spec_l04Remove.l0 k1 a2 t257 t261 (wrap64 (x10_1 + 1)) (wrap64 (a0_0 - 1)) (x261001_1 ++ [t265])) else (none)) = some (r1, r2) := H
       have A22 := am_ A220
       clear A220
       by_cases c23 : x261001_1.length < 5864062014805
       ·rw [if_pos c23] at H
        have LMc23 := am_ c23
        clear c23
        obtain ⟨y268, hy268⟩ : ∃ y_ : List (List Int), y_ = (x261001_1 ++ [t265]) := ⟨_, rfl⟩
        replace H : (spec_l04Remove.l0 k1 a2 t257 t261 (wrap64 (x10_1 + 1)) (wrap64 (a0_0 - 1)) y268) = some (r1, r2) := by first | (rw [hy268]; with_reducible exact H) | (have H2_ := (Option.bind_some _ _).symm.trans H; rw [hy268]; with_reducible exact H2_) | (have H2_ := (Option.bind_some _ _).symm.trans H; with_reducible exact H2_) | with_reducible exact H | (rw [hy268]; exact H) | exact H
        have Ny268 := am_ hy268
        clear hy268
        have H' := am_ H
        clear H
        obtain ⟨Ao24, co24, eo24⟩ := Kd.S_slice HO_9.out
        subst eo24
        try go_wp2
        have n0_ := am_ (Kd.R_drew HO_7.out)
        have n1_ := am_ (Kd.S_drew HO_9.out)
        have n2_ := am_ (Kd.S_drew HO_261001.out)
        have n3_ := am_ (blk_drew BK254.out)
        have n4_ := am_ (blk_drew BK255.out)
        have n5_ := am_ (blk_drew BK260.out)
        have n6_ := am_ (below_drew1 HB.out)
        clear HO_7 HO_9 HO_261001 BK254 BK255 BK260 HB; revert n0_ n1_ n2_ n3_ n4_ n5_ n6_; intro HO_7 HO_9 HO_261001 BK254 BK255 BK260 HB
        have p264 : 0 ≤ (x10_1 : Int) := da_
        have q264 : x10_1 < (t261.length : Int) := da_
        obtain ⟨ad264, A264_0, c264_0, e264, hx264_0, hl264_0, hi264_0⟩ := at_L1 (Kd.S_reads' HO_9.out).2.2 x10_1 p264 q264
        cases e264
        obtain ⟨ce264, hce264, hMe264, hcc264⟩ := Kd.S_get HO_9.out [] x10_1 p264 (by first | exact q264 | exact da_ | (have e_ := (Kd.S_reads' HO_9.out).1; omega))
        obtain ⟨ve264_0, rfl, ge264_0⟩ := hMe264
        have hv264_0 := hcc264 0 _ rfl
        rw [Nat.add_zero, show ((Kd.slice 2 (Kd.int .i64))).sz = 1 from rfl, Nat.mul_one] at hv264_0
        replace hv264_0 := Option.some.inj (hv264_0.symm.trans hx264_0)
        rw [hv264_0] at ge264_0
        have HL264_0 := am_ (show Kd.R (Kd.int .i64) 2 _ _ _ _ (rd_L1 t261 x10_1) from ge264_0)
        clear hv264_0 ge264_0
        clear hcc264 hce264
        have HR264_0 := am_ hi264_0
        have HC264_0 := am_ hl264_0
        clear hi264_0 hl264_0
        replace p264 := eq_true p264
        replace q264 := eq_true q264
        obtain ⟨Ao26, co26, eo26⟩ := Kd.R_slice HO_7.out
        (first | subst eo26 | (injection eo26 with f1_ f2_ f3_; have f4_ := f1_.symm; have f5_ := f3_.symm; clear f1_ f2_ f3_; subst f4_; subst f5_))
        refine start_ (n := 13) (S := fun w' => w'.cell? ⟨gb260, 0, none⟩ = some (.int .i64 (wrap64 (a0_0 - 1))) ∧ w'.cell? ⟨gb260, 1, none⟩ = some (u261001) ∧ w'.cell? (ad264.add (x10_1).toNat) = some (.slice A264_0 (rd_L1 t261 x10_1).length c264_0)) (ds := [10, 12]) (bA_ 13 0) (by kernel_rfl) rfl (by kernel_rfl) ⟨bc_ BK260 0, bc_ BK260 1, hx264_0⟩ (fun hHeld => ?_); refine with_tabW spec_l04Remove.tab7 spec_l04Remove.bits7 (fun HT_ HW_ => ?_)
        generalize wr.drew = w25 at HO_7 HO_9 HO_261001 BK254 BK255 BK260 HB HL264_0 HR264_0 hx264_0 hHeld ⊢
        refine pz_ 0 32 (bA_ 13 1) HT_ ?_
        refine pz_ 2 34 (bA_ 13 5) HT_ ?_
        refine pz_ 3 35 (bA_ 13 13) HT_ ?_
        refine pz_ 4 36 (bA_ 13 29) HT_ ?_
        refine pz_ 6 38 (bA_ 13 93) HT_ ?_
        refine pz_ 7 39 (bA_ 13 221) HT_ ?_
        refine tz_ 1 33 (bA_ 13 223) HT_ HW_ hHeld ?_
        refine tz_ 5 37 (bA_ 13 255) HT_ HW_ hHeld ?_
        refine oz_ 8 40 (bA_ 13 511) HT_ (fun K hK => ?_)
        refine goes_ Try.func120 (by kernel_rfl) rfl #[.slice A264_0 (rd_L1 t261 x10_1).length c264_0, .int .i64 a2, .slice Ao26 t257.length co26] (by rfl) rfl rfl lm_ ?_
        with_reducible refine (spec_l04Put.calls k1 _ _ (rd_L1 t261 x10_1) a2 _ _ t257 t265 _ ?side1 ?side2 ?side3 ?side4 A22.out).mono ?_
        (case side1 => repeat (first | exact (by repeat (first | (with_reducible exact HR264_0.out) | (with_reducible refine Kd.C_alloc ?_ _) | (with_reducible refine Kd.C_drewN ?_ _) | (with_reducible refine Kd.C_drew ?_) | exact HR264_0.out)) | (with_reducible refine Kd.C_alloc ?_ _) | (with_reducible refine Kd.C_drewN ?_ _) | (with_reducible refine Kd.C_drew ?_)))
        (case side2 => exact HC264_0.out)
        (case side3 => repeat (first | exact (Kd.R_reads' HO_7.out).2.2 | (with_reducible refine Kd.C_alloc ?_ _) | (with_reducible refine Kd.C_drewN ?_ _) | (with_reducible refine Kd.C_drew ?_)))
        (case side4 => exact (Kd.R_reads' HO_7.out).2.1)
        rintro e w27 ⟨v266, rfl, ho0, hb⟩
        have HS2_ := (hb.cell (World.block_lt_of_cell? _ _ (hHeld.2.2))).trans (hHeld.2.2)
        refine ⟨_, rfl, ?_⟩
        have n0_ := am_ (Kd.R_elder' (rk_ HO_7.out) (Kd.R_base ho0) hb)
        have n1_ := am_ (Kd.S_elder' (by (with_reducible repeat (first | apply Kd.S_alloc | apply Kd.S_drewN | apply Kd.S_drew)); exact HO_9.out) (Kd.R_base ho0) hb)
        have n2_ := am_ (Kd.S_elder' (by (with_reducible repeat (first | apply Kd.S_alloc | apply Kd.S_drewN | apply Kd.S_drew)); exact HO_261001.out) (Kd.R_base ho0) hb)
        have n3_ := am_ (Kd.R_elder' (rk_ HL264_0.out) (Kd.R_base ho0) hb)
        have n4_ := am_ (Kd.R_lower (Kd.R_new' (Kd.R_new' ho0 (Kd.R_lt (rk_ HO_7.out))) (Kd.R_lt (rk_ HL264_0.out))) (below_size (bb_ HB.out)))
        have n5_ := am_ (bw_ BK254 hb)
        have n6_ := am_ (bw_ BK255 hb)
        have n7_ := am_ (bw_ BK260 hb)
        have n8_ := am_ (Kd.C_below (by repeat (first | (with_reducible exact HR264_0.out) | (with_reducible refine Kd.C_alloc ?_ _) | (with_reducible refine Kd.C_drewN ?_ _) | (with_reducible refine Kd.C_drew ?_) | exact HR264_0.out)) hb)
        have n9_ := am_ (below_step (bb_ HB.out) hb)
        clear HO_7 HO_9 HO_261001 HL264_0 BK254 BK255 BK260 HR264_0 HB; revert n0_ n1_ n2_ n3_ n4_ n5_ n6_ n7_ n8_ n9_; intro HO_7 HO_9 HO_261001 HL264_0 HO267 BK254 BK255 BK260 HR264_0 HB
        (try clear hb)
        (try clear hb2)
        (try clear hk)
        (try clear hi)
        (try clear ho0)
        obtain ⟨Ao29, co29, eo29⟩ := Kd.R_slice HO267.out
        (first | subst eo29 | (injection eo29 with f1_ f2_ f3_; have f4_ := f1_.symm; have f5_ := f3_.symm; clear f1_ f2_ f3_; subst f4_; subst f5_))
        refine hK.out _ _ ⟨bc_ BK260 0, bc_ BK260 1, HS2_⟩ (fun hHeld => ?_)
        clear hK K
        refine nm_ 40 ?_
        refine oz_ 9 41 (bA_ 13 1023) HT_ (fun K hK => ?_)
        refine value_ (w1 := ?_) (v := ?_) (by rfl) rfl ?_ ?_
        rotate_left 2
        ·go_simp
         constructor
         ·rfl
         ·rfl
        refine hK.out _ _ ⟨(blk_cell (blk_alloc BK260.out _) 0).trans rfl, (blk_cell (blk_alloc BK260.out _) 1).trans rfl, (World.cell?_alloc_lt _ _ _ (World.block_lt_of_cell? _ _ (hHeld.2.2))).trans (hHeld.2.2)⟩ (fun hHeld => ?_)
        clear hK K
        refine nm_ 41 ?_
        refine last_ (i := 10) (N := some 42) (bA_ 13 2047) rfl rfl (one_of HT_.out (by kernel_rfl)) (by decide) (fun K hK => ?_)
        refine Kd.S_append_step (Kd.slice 2 (Kd.int .i64)) (w0 := w) w.heap.size (by rfl) (.tmp 33) (.tmp 41) 22 39 (.slice none 0 0) 24 rfl Try.underlying22 info39 rfl (by decide) (by omega) u261001 x261001_1 t265 [.slice Ao29 t265.length co29] (fun k_ => some k_ ≠ (.slice Ao26 t257.length co26 : Value).ownBlock ∧ some k_ ≠ (.slice (some ad264) t261.length co24 : Value).ownBlock) (fun k_ => some k_ = (.slice Ao29 t265.length co29 : Value).ownBlock) rfl rfl ?aP (fun k_ hk_ => ((Kd.R_mono (ok' := fun k_ => ((fun k_ => some k_ ≠ (.slice Ao26 t257.length co26 : Value).ownBlock ∧ some k_ ≠ (.slice (some ad264) t261.length co24 : Value).ownBlock)) k_ ∧ some k_ ≠ (u261001 : Value).ownBlock) (Kd.R_apart' (Kd.R_apart' (HO267.out) (Kd.S_typed HO_9.out) (by decide)) (Kd.S_typed HO_261001.out) (by decide)) (fun k_ hk => ⟨⟨hk.1.1.1.2, hk.1.2⟩, hk.2⟩))).1 k_ hk_.symm) ?aF ?aO ?aB ?aS ?aL ?_
        (case aP => exact Kd.M_row (Kd.R_mono (Kd.R_tight rfl (Kd.R_mono (ok' := fun k_ => ((fun k_ => some k_ ≠ (.slice Ao26 t257.length co26 : Value).ownBlock ∧ some k_ ≠ (.slice (some ad264) t261.length co24 : Value).ownBlock)) k_ ∧ some k_ ≠ (u261001 : Value).ownBlock) (Kd.R_apart' (Kd.R_apart' (HO267.out) (Kd.S_typed HO_9.out) (by decide)) (Kd.S_typed HO_261001.out) (by decide)) (fun k_ hk => ⟨⟨hk.1.1.1.2, hk.1.2⟩, hk.2⟩))) (fun _ h_ => h_)))
        (case aB => exact (bb_ HB.out))
        (case aF => exact (fun k_ hk => ⟨Kd.fresh' (Kd.R_lt (rk_ HO_7.out)) k_ hk, Kd.fresh' (Kd.S_lt (by (with_reducible repeat (first | apply Kd.S_alloc | apply Kd.S_drewN | apply Kd.S_drew)); exact HO_9.out)) k_ hk⟩))
        (case aO => exact (by (with_reducible repeat (first | apply Kd.S_alloc | apply Kd.S_drewN | apply Kd.S_drew)); exact Kd.S_mono HO_261001.out (fun k_ hk => ⟨⟨hk.1.1, hk.1.2⟩, fun e_ => hk.2 e_⟩)))
        (case aS => exact (below_size (bb_ HB.out)))
        (case aL => have := LMc23.out; omega)
        intro v269 w28 ho hb hg hat
        rw [← Ny268.out] at ho
        have n0_ := am_ (Kd.R_over' (rk_ HO_7.out) (Kd.S_typed (by (with_reducible repeat (first | apply Kd.S_alloc | apply Kd.S_drewN | apply Kd.S_drew)); exact HO_261001.out)) (by decide) hg)
        have n1_ := am_ (Kd.S_after (ok := (fun k_ => some k_ ≠ (.slice Ao26 t257.length co26 : Value).ownBlock ∧ some k_ ≠ (.slice Ao29 t265.length co29 : Value).ownBlock)) (by (with_reducible repeat (first | apply Kd.S_alloc | apply Kd.S_drewN | apply Kd.S_drew)); exact Kd.S_mono HO_9.out (fun _ hk => ⟨⟨hk.1.1, hk.2⟩, hk.1.2⟩)) hg hat)
        have n2_ := am_ (blk_grown (g := gb254) (o := .cells #[.int .i64 a0_0, .slice (some ad256) l0_1.length c0_1] 28 (0, 0)) (bk_ BK254.out) hg (Kd.S_ne HO_261001.out BK254.out (by decide)))
        have n3_ := am_ (blk_grown (g := gb255) (o := .cells #[.int .i64 0, .slice none 0 0] 28 (0, 0)) (bk_ BK255.out) hg (Kd.S_ne HO_261001.out BK255.out (by decide)))
        have n4_ := am_ (blk_grown (g := gb260) (o := .cells #[.int .i64 (wrap64 (a0_0 - 1)), u261001] 28 (0, 0)) (bk_ BK260.out) hg (Kd.S_ne HO_261001.out BK260.out (by decide)))
        have n5_ := am_ (Kd.R_after (ok := (fun k_ => some k_ ≠ (.slice Ao26 t257.length co26 : Value).ownBlock ∧ some k_ ≠ (.slice (some ad264) t261.length co24 : Value).ownBlock ∧ some k_ ≠ (.slice Ao29 t265.length co29 : Value).ownBlock)) (rm_ HL264_0.out (fun _ hk => ⟨⟨hk.1.1.1, ⟨hk.1.2, hk.2⟩⟩, hk.1.1.2⟩)) hg hat)
        have n6_ := am_ (hb)
        have n7_ := am_ (ho)
        clear HO_7 HO_9 BK254 BK255 BK260 HL264_0 HB HO_261001 HO267; revert n0_ n1_ n2_ n3_ n4_ n5_ n6_ n7_; intro HO_7 HO_9 BK254 BK255 BK260 HL264_0 HB HO270
        clear ho hb hg hat
        obtain ⟨Ao30, co30, eo30⟩ := Kd.S_slice HO270.out
        (first | subst eo30 | (injection eo30 with f1_ f2_ f3_; have f4_ := f1_.symm; have f5_ := f3_.symm; clear f1_ f2_ f3_; subst f4_; subst f5_))
        refine hK.out _ _ ?_
        clear hK K
        refine nm_ 42 ?_
        refine pz_ 11 43 (bA_ 13 4095) HT_ ?_
        refine last_ (i := 12) (N := none) (bA_ 13 8191) rfl rfl (one_of HT_.out (by kernel_rfl)) (by decide) (fun K hK => ?_)
        have hs31 : w28.cell? ⟨gb260, 1, none⟩ = some (u261001) := bc_ BK260 1
        have hfs31 := blk_frozen BK260.out 1
        have hns31_0 := NB254_260.out
        have hns31_1 := NB255_260.out
        have hms31_0 := NB260_254.out
        have hms31_1 := NB260_255.out
        refine skip_ (w1 := ?_) (by rfl) rfl ?_ ?_
        rotate_left
        ·go_simp
         rfl
        refine hK.out _ _ ?_
        clear hK K
        refine done_ (done_of HT_.out (by kernel_rfl)) ?_
        try go_wp2
        go_roundg k1
        case measure => have := HK1.out; omega
        case rel => exact ⟨(wrap64 (x10_1 + 1)), (y268), (.slice Ao30 y268.length co30), (by first | rfl | (simp; done) | (simp [*]; done)), H', ⟨by have := HK1.out; omega⟩, ⟨rm_ (Kd.R_far (p := ⟨gb260, 1, none⟩) (Kd.R_types HO_7.out BK260.out (by decide)) (fun _ hk => hk.2) (.slice Ao30 y268.length co30)) (fun _ hk => trivial)⟩, ⟨by (with_reducible repeat (first | apply Kd.S_alloc | apply Kd.S_drewN | apply Kd.S_drew)); exact Kd.S_mono (Kd.S_far (p := ⟨gb260, 1, none⟩) (Kd.S_types HO_9.out BK260.out (by decide)) (fun _ hk => hk.2) (.slice Ao30 y268.length co30)) (fun _ hk => ⟨hk.1.1.1, hk.1.2⟩)⟩, ⟨by (with_reducible repeat (first | apply Kd.S_alloc | apply Kd.S_drewN | apply Kd.S_drew)); exact Kd.S_mono (Kd.S_far (p := ⟨gb260, 1, none⟩) (Kd.S_types HO270.out BK260.out (by decide)) (fun _ hk => hk.2) (.slice Ao30 y268.length co30)) (fun _ hk => ⟨hk.1.1, hk.1.2⟩)⟩, ⟨bk_ BK254.out⟩, ⟨bk_ BK255.out⟩, ⟨by (with_reducible repeat (first | refine blk_drewN ?_ _ | refine blk_drew ?_ | refine blk_alloc ?_ _)); refine blk_put (cs := #[.int .i64 (wrap64 (a0_0 - 1)), u261001]) ?_ 1 _ rfl; (with_reducible repeat (first | refine blk_drewN ?_ _ | refine blk_drew ?_ | refine blk_alloc ?_ _)); exact BK260.out⟩, ⟨bb_ HB.out⟩⟩
       ·rw [if_neg c23] at H
        exact absurd H (by simp)
      ·rw [if_neg c21] at H
       exact absurd H (by simp)
     ·rw [if_neg c20] at H
      have c20b0 : decide (x10_1 < (t261.length : Int)) = false := decide_eq_false c20
      clear c20
      simp only [Option.some.injEq, Prod.mk.injEq] at H
      obtain ⟨rfl, rfl⟩ := H
      obtain ⟨Ao32, co32, eo32⟩ := Kd.S_slice HO_9.out
      subst eo32
      have hnb33 := NB260_254.out
      have hnc33 := NB254_260.out
      have hnb34 := NB260_255.out
      have hnc34 := NB255_260.out
      obtain ⟨hcz35_0, hcz35_1, hfz35_0, hfz35_1⟩ := bx2_ BK260
      have hnb36 := NB255_254.out
      have hnc36 := NB254_255.out
      obtain ⟨hcz37_0, hcz37_1, hfz37_0, hfz37_1⟩ := bx2_ BK255
      obtain ⟨Ao38, co38, eo38⟩ := Kd.S_slice HO_261001.out
      subst eo38
      go_wp2
      refine bodyPost_ret (results_cell_row rfl _ _ gb255 28 #[.int .i64 (wrap64 (a0_0 - 1)), .slice Ao38 x261001_1.length co38] (0, 0) _ rfl (by (with_reducible repeat (first | refine blk_drewN ?_ _ | refine blk_drew ?_ | refine blk_alloc ?_ _)); refine blk_put (cs := #[.int .i64 (wrap64 (a0_0 - 1)), .slice none 0 0]) ?_ 1 _ rfl; (with_reducible repeat (first | refine blk_drewN ?_ _ | refine blk_drew ?_ | refine blk_alloc ?_ _)); refine blk_put (cs := #[.int .i64 0, .slice none 0 0]) ?_ 0 _ rfl; (with_reducible repeat (first | refine blk_drewN ?_ _ | refine blk_drew ?_ | refine blk_alloc ?_ _)); exact BK255.out) Try.underlying28 rfl (by kernel_rfl)) rfl ?_
      exact ⟨_, by first | rfl | (simp [errW_none, errW_some] <;> rfl) | (simp [*, errW_none, errW_some] <;> rfl), by (with_reducible repeat (first | apply Kd.S_alloc | apply Kd.S_drewN | apply Kd.S_drew)); exact Kd.S_mono (Kd.S_far (p := ⟨gb255, 1, none⟩) (Kd.S_far (p := ⟨gb255, 0, none⟩) (Kd.S_types HO_261001.out BK255.out (by decide)) (fun _ hk => hk.2) (.int .i64 (wrap64 (a0_0 - 1)))) (fun _ hk => hk.2) (.slice Ao38 x261001_1.length co38)) (fun _ hk => trivial), bb_ HB.out⟩
  ·rw [if_neg c5] at H
   exact absurd H (by simp)
 ·rw [if_neg c4] at H
  exact absurd H (by simp)

/-! ### spec_l04Move: function 63 -/
def spec_l04Move.f (k : Nat) (a0_0 : Int) (l0_1 : List (List Int)) (a1_0 : Int) (a1_1 : Int) (a1_2 : Int) (l1_3 : List Int) : Option (Int × (List (List Int))) := (spec_l04Copy.f k l0_1 (-1)).bind fun t274 => (if a1_0 = 1 then (if 0 ≤ a1_1 then (if a1_1 < (l0_1.length : Int) then ((spec_l04Inverse.f k (rd_L1 l0_1 a1_1)).bind fun t279 => (if a1_1 < (t274.length : Int) then (some (a0_0, (t274.set (a1_1 : Int).toNat t279))) else (none))) else (none)) else (none)) else (if a1_0 = 2 then (if 0 ≤ a1_1 then (if a1_1 < (l0_1.length : Int) then (if ((rd_L1 l0_1 a1_1).length : Int) > 0 then ((some (([] : List Int) : List Int)).bind fun y284 => (if 1 ≤ ((rd_L1 l0_1 a1_1).length : Int) then (if y284.length + ((rd_L1 l0_1 a1_1).drop 1).length < 17592186044416 then ((some (y284 ++ ((rd_L1 l0_1 a1_1).drop 1) : List Int)).bind fun y288 => (if 0 < ((rd_L1 l0_1 a1_1).length : Int) then ((some (([rd (rd_L1 l0_1 a1_1) 0] : List Int) : List Int)).bind fun y292 => (if y288.length + y292.length < 17592186044416 then ((spec_l04Reduce.f k (y288 ++ y292)).bind fun t298 => (if a1_1 < (t274.length : Int) then (some (a0_0, (t274.set (a1_1 : Int).toNat t298))) else (none))) else (none))) else (none))) else (none)) else (none))) else (some (a0_0, t274))) else (none)) else (none)) else (if a1_0 = 3 then ((some (([] : List Int) : List Int)).bind fun y302 => (if 0 ≤ a1_1 then (if a1_1 < (l0_1.length : Int) then (if y302.length + (rd_L1 l0_1 a1_1).length < 17592186044416 then ((some (y302 ++ (rd_L1 l0_1 a1_1) : List Int)).bind fun y306 => (if 0 ≤ a1_2 then (if a1_2 < (l0_1.length : Int) then (if y306.length + (rd_L1 l0_1 a1_2).length < 17592186044416 then ((spec_l04Reduce.f k (y306 ++ (rd_L1 l0_1 a1_2))).bind fun t313 => (if a1_1 < (t274.length : Int) then (some (a0_0, (t274.set (a1_1 : Int).toNat t313))) else (none))) else (none)) else (none)) else (none))) else (none)) else (none)) else (none))) else (if a1_0 = 4 then ((spec_l04Copy.f k l0_1 a1_1).bind fun t317 => (some (a0_0, t317))) else (if a1_0 = 5 then ((spec_l04Remove.f k a0_0 l0_1 a1_1 a1_2).bind fun bt320 => (some (bt320.1, bt320.2))) else ((some (([wrap64 (-(wrap64 (a0_0 + 1)))] : List Int) : List Int)).bind fun y324 => (if y324.length + l1_3.length < 17592186044416 then ((some (([(y324 ++ l1_3)] : List (List Int)) : List (List Int))).bind fun y330 => (if t274.length + y330.length < 5864062014805 then (some (wrap64 (a0_0 + 1), (t274 ++ y330))) else (none))) else (none))))))))
def spec_l04Move.T1 : Bool × List (List Nat × List Nat) := (true, [([], []), ([0], [0]), ([], []), ([2], [2]), ([3], [3]), ([1, 4], [1, 4]), ([], []), ([6, 5, 4, 0, 1, 2, 3, 4, 5, 6], [5, 6])])
def spec_l04Move.B1 : List Nat := [0, 1, 0, 4, 12, 31, 0, 127]
theorem spec_l04Move.tab1 : rtab .any (opsOf Try.f63 1) = spec_l04Move.T1 := by kernel_rfl
theorem spec_l04Move.bits1 : waitsOk spec_l04Move.T1.2 spec_l04Move.B1 = true := by kernel_rfl
def spec_l04Move.T4 : Bool × List (List Nat × List Nat) := (true, [([], []), ([], []), ([1], [1]), ([], []), ([3], [3]), ([4], [4]), ([], []), ([6], [6]), ([5, 7], [5, 7]), ([8], [8]), ([2, 9, 8], [2, 9]), ([0, 10], [0, 10]), ([11, 10, 0, 1, 2, 3, 4, 5, 6, 7, 8, 9, 10, 11], [11])])
def spec_l04Move.B4 : List Nat := [0, 0, 2, 0, 8, 24, 0, 64, 248, 504, 1022, 2047, 4095]
theorem spec_l04Move.tab4 : rtab .any (opsOf Try.f63 4) = spec_l04Move.T4 := by kernel_rfl
theorem spec_l04Move.bits4 : waitsOk spec_l04Move.T4.2 spec_l04Move.B4 = true := by kernel_rfl
def spec_l04Move.T6 : Bool × List (List Nat × List Nat) := (true, [([], []), ([0], [0]), ([], []), ([2], [2]), ([], []), ([4], [4]), ([], []), ([6], [6]), ([5, 7], [5, 7]), ([8], [8]), ([9], [9]), ([1, 3, 0, 1, 2, 3, 4, 5, 6, 7, 8, 9, 10], [1, 3]), ([11, 10, 10, 0, 1, 2, 3, 4, 5, 6, 7, 8, 9, 10], [10, 11])])
def spec_l04Move.B6 : List Nat := [0, 1, 0, 4, 0, 16, 0, 64, 240, 496, 1008, 2047, 4095]
theorem spec_l04Move.tab6 : rtab .any (opsOf Try.f63 6) = spec_l04Move.T6 := by kernel_rfl
theorem spec_l04Move.bits6 : waitsOk spec_l04Move.T6.2 spec_l04Move.B6 = true := by kernel_rfl
def spec_l04Move.T10 : Bool × List (List Nat × List Nat) := (true, [([], []), ([0], [0]), ([], []), ([2], [2]), ([], []), ([], []), ([5], [5]), ([4, 6], [4, 6]), ([], []), ([8], [8]), ([9], [9]), ([10], [10]), ([7, 11, 7], [7, 11]), ([12, 12], [12]), ([1, 3, 0, 1, 2, 3, 4, 5, 6, 7, 8, 9, 10, 11, 12, 13], [1, 3]), ([14, 13, 13, 0, 1, 2, 3, 4, 5, 6, 7, 8, 9, 10, 11, 12, 13], [13, 14])])
def spec_l04Move.B10 : List Nat := [0, 1, 0, 4, 0, 0, 32, 112, 0, 256, 768, 1792, 4080, 8176, 16383, 32767]
theorem spec_l04Move.tab10 : rtab .any (opsOf Try.f63 10) = spec_l04Move.T10 := by kernel_rfl
theorem spec_l04Move.bits10 : waitsOk spec_l04Move.T10.2 spec_l04Move.B10 = true := by kernel_rfl
def spec_l04Move.T12 : Bool × List (List Nat × List Nat) := (true, [([], []), ([0], [0]), ([], []), ([2], [2]), ([], []), ([], []), ([5], [5]), ([], []), ([7], [7]), ([6, 8], [6, 8]), ([9], [9]), ([4, 10], [4, 10]), ([], []), ([12], [12]), ([], []), ([14], [14]), ([13, 15], [13, 15]), ([16], [16]), ([11, 17, 11], [11, 17]), ([18, 18], [18]), ([1, 3, 0, 1, 2, 3, 4, 5, 6, 7, 8, 9, 10, 11, 12, 13, 14, 15, 16, 17, 18, 19], [1, 3]), ([20, 19, 19, 0, 1, 2, 3, 4, 5, 6, 7, 8, 9, 10, 11, 12, 13, 14, 15, 16, 17, 18, 19], [19, 20])])
def spec_l04Move.B12 : List Nat := [0, 1, 0, 4, 0, 0, 32, 0, 128, 480, 992, 2032, 0, 4096, 0, 16384, 61440, 126976, 262128, 524272, 1048575, 2097151]
theorem spec_l04Move.tab12 : rtab .any (opsOf Try.f63 12) = spec_l04Move.T12 := by kernel_rfl
theorem spec_l04Move.bits12 : waitsOk spec_l04Move.T12.2 spec_l04Move.B12 = true := by kernel_rfl
def spec_l04Move.T14 : Bool × List (List Nat × List Nat) := (true, [([], []), ([0], [0]), ([], []), ([2], [2]), ([], []), ([4], [4]), ([3, 5], [3, 5]), ([1, 6], [1, 6]), ([7, 6, 0, 1, 2, 3, 4, 5, 6, 7], [7])])
def spec_l04Move.B14 : List Nat := [0, 1, 0, 4, 0, 16, 60, 127, 255]
theorem spec_l04Move.tab14 : rtab .any (opsOf Try.f63 14) = spec_l04Move.T14 := by kernel_rfl
theorem spec_l04Move.bits14 : waitsOk spec_l04Move.T14.2 spec_l04Move.B14 = true := by kernel_rfl

end Go.Proofs.Ytbcdngjajjgmkaa.PFnExactApplyTietze
