/- Written by this session's program out of the kit's print and this session's contracts. -/
import Derived.Test.YtbcdngjajjgmkaaVFnExactSimplifyPresentationPx0
import Derived.Test.YtbcdngjajjgmkaaVFnExactSimplifyPresentationPx2
namespace Go.Proofs.Ytbcdngjajjgmkaa.PFnExactSimplifyPresentation
open Go.RowKit Go.Proofs.YtbcdngjajjgmkaaW.PrintWords Go.Proofs.YtbcdngjajjgmkaaW.PrintLast Go.Proofs.YtbcdngjajjgmkaaW.PrintMore
set_option maxHeartbeats 8000000
set_option maxRecDepth 100000
set_option linter.unusedVariables false
set_option linter.unusedSimpArgs false

/-! ### spec_l04Copy: function 40 -/
def spec_l04Copy.l0 : Nat → List (List Int) → Int → List (List Int) → Int → Option ((List (List Int)))
 | 0, _, _, _, _ => none
 | k + 1, x0, x1, x5, x6 => if x6 < (x0.length : Int) then (if x6 = x1 then (spec_l04Copy.l0 k x0 x1 x5 (wrap64 (x6 + 1))) else ((some (([] : List Int) : List Int)).bind fun y150 => (if 0 ≤ x6 then (if y150.length + (rd_L1 x0 x6).length < 17592186044416 then (if x5.length < 5864062014805 then (spec_l04Copy.l0 k x0 x1 (x5 ++ [(y150 ++ (rd_L1 x0 x6))]) (wrap64 (x6 + 1))) else (none)) else (none)) else (none)))) else (some x5)
def spec_l04Copy.f (k : Nat) (l0 : List (List Int)) (a1 : Int) : Option ((List (List Int))) := spec_l04Copy.l0 k l0 a1 (([] : List (List Int))) 0
theorem spec_l04Copy.calls (k : Nat) (A0 : Option Addr) (c0 : Nat) (l0 : List (List Int)) (a1 : Int) (r : List (List Int)) (w : World) (hr0 : Kd.C (Kd.slice 2 (Kd.int .i64)) w A0 l0.length l0) (hc0 : l0.length ≤ c0) (h : spec_l04Copy.f k l0 a1 = some r) :
  Calls Try.prog 40 #[.slice A0 l0.length c0, .int .i64 a1] w fun e w' => ∃ v0_ : Value, e = .returned (v0_) ∧ Kd.S (Kd.slice 2 (Kd.int .i64)) 39 w' w.heap.size (fun _ => True) v0_ r ∧ Below w.heap.size w w' := by
 have HR0 := am_ hr0
 have HC0 := am_ hc0
 clear hr0 hc0
 have HB := am_ (Below.refl w.heap.size w)
 have H : (spec_l04Copy.l0 k l0 a1 (([] : List (List Int))) 0) = some r := h
 clear h
 obtain ⟨y147, hy147⟩ : ∃ y_ : List (List Int), y_ = (([] : List (List Int))) := ⟨_, rfl⟩
 replace H : (spec_l04Copy.l0 k l0 a1 y147 0) = some r := hq_ hy147 H
 have Ny147 := am_ hy147
 clear hy147
 have H' := am_ H
 clear H
 go_enter Try.func40, Try.ntmps40
 go_wp2_with (first | ((with_reducible refine gate_dst (N := 7) rfl ?_); refine Kd.S_lit (Kd.slice 2 (Kd.int .i64)) _ 39 ?hg (N := 7) ?hd (xs := ([] : List (List Int))) (inner := []) (ok := fun _ => True) (okp := fun _ => True) ?hr ?hp (fun _ hk => hk) trivial (Below.refl _ _) (Nat.le_refl _) (by simp) ?_; (case hd => rfl); (case hg => rfl); (case hr => first | (go_simp; done) | (go_simp; rfl)); (case hp => exact (Reps.none _ _)); intro v148 w3 ho4 hb hg_ hnew_; clear hg_ hnew_; (first | rw [← Ny147.out] at ho4 | (simp only [Int.reduceToNat] at ho4; rw [← Ny147.out] at ho4)); have n0_ := am_ (Kd.S_lower ho4 (below_size (bb_ HB.out))); have n1_ := am_ (below_step (bb_ HB.out) hb); clear HB; revert n0_ n1_; intro HO149 HB; clear hb ho4))
 go_loopg [5, 6] k (fun kq v5 v6 w' => ∃ (x5_1 : List (List Int)) (x6_1 : Int), v6 = .int .i64 x6_1 ∧ Aside0 (spec_l04Copy.l0 kq l0 a1 x5_1 x6_1 = some r) ∧ Aside0 (kq ≤ k) ∧ Aside0 (Kd.S (Kd.slice 2 (Kd.int .i64)) 39 w' w.heap.size (fun _ => True) v5 x5_1) ∧ Aside0 (Below w.heap.size w w'))
 case atStart => exact ⟨(y147), (0), (by first | rfl | (simp; done) | (simp [*]; done)), H', ⟨Nat.le_refl _⟩, ⟨Sx_ HO149.out⟩, ⟨bb_ HB.out⟩⟩
 case round =>
  clear H'
  try clear p2
  try clear c4
  obtain ⟨x5_1, x6_1, rfl, HA, HK1, HO_5, HB⟩ := hrel
  cases gk with
  | zero => exact absurd HA.out (by simp [spec_l04Copy.l0])
  | succ k1 =>
   have H := HA.out
   clear HA
   simp only [spec_l04Copy.l0] at H
   by_cases c5 : x6_1 < (l0.length : Int)
   ·rw [if_pos c5] at H
    have c5b0 : decide (x6_1 < (l0.length : Int)) = true := decide_eq_true c5
    clear c5
    by_cases c6 : x6_1 = a1
    ·rw [if_pos c6] at H
     have c6b0 : (x6_1 == a1) = true := beq_iff_eq.mpr c6
     have c6b1 : (x6_1 != a1) = false := bne_eq_false_iff_eq.mpr c6
     clear c6
     have H' := am_ H
     clear H
     go_wp2
     go_roundg k1
     case measure => have := HK1.out; omega
     case rel => exact ⟨(x5_1), (wrap64 (x6_1 + 1)), (by first | rfl | (simp; done) | (simp [*]; done)), H', ⟨by have := HK1.out; omega⟩, ⟨Sx_ HO_5.out⟩, ⟨bb_ HB.out⟩⟩
    ·rw [if_neg c6] at H
     have c6b0 : (x6_1 == a1) = false := beq_eq_false_iff_ne.mpr c6
     have c6b1 : (x6_1 != a1) = true := bne_iff_ne.mpr c6
     obtain ⟨y150, hy150⟩ : ∃ y_ : List Int, y_ = (([] : List Int)) := ⟨_, rfl⟩
     replace H : (if 0 ≤ x6_1 then (if y150.length + (rd_L1 l0 x6_1).length < 17592186044416 then (if x5_1.length < 5864062014805 then (spec_l04Copy.l0 k1 l0 a1 (x5_1 ++ [(y150 ++ (rd_L1 l0 x6_1))]) (wrap64 (x6_1 + 1))) else (none)) else (none)) else (none)) = some r := hq_ hy150 H
     have Ny150 := am_ hy150
     clear hy150
     by_cases c7 : 0 ≤ x6_1
     ·rw [if_pos c7] at H
      have c7b0 : decide (0 ≤ x6_1) = true := decide_eq_true c7
      clear c7
      by_cases c8 : y150.length + (rd_L1 l0 x6_1).length < 17592186044416
      ·rw [if_pos c8] at H
       have LMc8 := am_ c8
       clear c8
       obtain ⟨y154, hy154⟩ : ∃ y_ : List Int, y_ = (y150 ++ (rd_L1 l0 x6_1)) := ⟨_, rfl⟩
       replace H : (if x5_1.length < 5864062014805 then (spec_l04Copy.l0 k1 l0 a1 (x5_1 ++ [y154]) (wrap64 (x6_1 + 1))) else (none)) = some r := hq_ hy154 H
       have Ny154 := am_ hy154
       clear hy154
       by_cases c9 : x5_1.length < 5864062014805
       ·rw [if_pos c9] at H
        have LMc9 := am_ c9
        clear c9
        obtain ⟨y157, hy157⟩ : ∃ y_ : List (List Int), y_ = (x5_1 ++ [y154]) := ⟨_, rfl⟩
        replace H : (spec_l04Copy.l0 k1 l0 a1 y157 (wrap64 (x6_1 + 1))) = some r := hq_ hy157 H
        have Ny157 := am_ hy157
        clear hy157
        have H' := am_ H
        clear H
        go_wp2_with (first | ((with_reducible refine gate_dst (N := 18) rfl ?_); refine Kd.R_lit (Kd.int .i64) _ 2 ?hg (N := 18) ?hd (xs := ([] : List Int)) (inner := []) (ok := fun _ => True) (okp := fun _ => True) ?hr ?hp (fun _ hk => hk) trivial (Below.refl _ _) (Nat.le_refl _) (by simp) ?_; (case hd => rfl); (case hg => rfl); (case hr => first | (go_simp; done) | (go_simp; rfl)); (case hp => exact (Reps.none _ _)); intro v151 w10 ho11 hb hg_ hnew_; clear hg_ hnew_; (first | rw [← Ny150.out] at ho11 | (simp only [Int.reduceToNat] at ho11; rw [← Ny150.out] at ho11)); have n0_ := am_ (Kd.S_elder' (Sx_ HO_5.out) (Kd.R_base ho11) hb); have n1_ := am_ (Kd.R_lower ho11 (below_size (bb_ HB.out))); have n2_ := am_ (below_step (bb_ HB.out) hb); clear HO_5 HB; revert n0_ n1_ n2_; intro HO_5 HO152 HB; clear hb ho11; have p153 : 0 ≤ (x6_1 : Int) := da_; have q153 : x6_1 < (l0.length : Int) := da_; obtain ⟨ad153, A153_0, c153_0, e153, hx153_0, hl153_0, hi153_0⟩ := at_L1 HR0.out x6_1 p153 q153; cases e153; replace hx153_0 := ce_ HB hx153_0; have HR153_0 := am_ hi153_0; have HC153_0 := am_ hl153_0; clear hi153_0 hl153_0; replace p153 := eq_true p153; replace q153 := eq_true q153) | ((with_reducible refine gate_builtin (b := .append) (xs := #[.tmp 18, .tmp 22]) rfl ?_); at_builtin; refine Kd.R_append_rows (Kd.int .i64) (w0 := w) w.heap.size rfl (.tmp 18) (.tmp 22) 39 2 (.int .i64 0) 8 rfl Try.underlying39 info2 rfl (by decide) (by omega) v151 y150 (rd_L1 l0 x6_1) _ _ _ (fun _ => True) (fun _ => False) rfl rfl ?aO ?aR (fun _ _ h => h) (fun _ h => h.elim) ?aF ?aB ?aS ?aL ?_; (case aR => exact cb_ HR153_0 HB); (case aB => exact (bb_ HB.out)); (case aF => exact (fun _ _ => trivial)); (case aO => exact (rk_ HO152.out)); (case aS => exact (below_size (bb_ HB.out))); (case aL => have := LMc8.out; omega); intro v155 w12 ho hb hg hat; rw [← Ny154.out] at ho; have n0_ := am_ (Kd.S_after (ok := (fun _ => True)) (Sx_ HO_5.out) hg hat); have n1_ := am_ (hb); have n2_ := am_ (ho); clear HO_5 HB HO152; revert n0_ n1_ n2_; intro HO_5 HB HO156; clear ho hb hg hat; obtain ⟨Ao14, co14, eo14⟩ := Kd.R_slice HO156.out; subst eo14) | ((with_reducible refine gate_builtin (b := .append) (xs := #[.tmp 17, .tmp 24]) rfl ?_); at_builtin; refine Kd.S_append (Kd.slice 2 (Kd.int .i64)) (w0 := w) w.heap.size rfl (.tmp 17) (.tmp 24) 22 39 (.slice none 0 0) 24 rfl Try.underlying22 info39 rfl (by decide) (by omega) u5 x5_1 y154 [.slice Ao14 y154.length co14] (fun _ => True) (fun k_ => some k_ = (.slice Ao14 y154.length co14 : Value).ownBlock) rfl rfl ?aP (fun k_ hk_ => ((Kd.R_mono (ok' := fun k_ => ((fun _ => True)) k_ ∧ some k_ ≠ (u5 : Value).ownBlock) (Kd.R_apart' (HO156.out) (Kd.S_typed HO_5.out) (by decide)) (fun k_ hk => ⟨trivial, hk.2⟩))).1 k_ hk_.symm) ?aF ?aO ?aB ?aS ?aL ?_; (case aP => exact Kd.M_row (Kd.R_mono (Kd.R_tight rfl (Kd.R_mono (ok' := fun k_ => ((fun _ => True)) k_ ∧ some k_ ≠ (u5 : Value).ownBlock) (Kd.R_apart' (HO156.out) (Kd.S_typed HO_5.out) (by decide)) (fun k_ hk => ⟨trivial, hk.2⟩))) (fun _ h_ => h_))); (case aB => exact (bb_ HB.out)); (case aF => exact (fun _ _ => trivial)); (case aO => exact (Sx_ (Kd.S_mono HO_5.out (fun k_ hk => ⟨trivial, fun e_ => hk.2 e_⟩)))); (case aS => exact (below_size (bb_ HB.out))); (case aL => have := LMc9.out; omega); intro v158 w13 ho hb hg hat; rw [← Ny157.out] at ho; have n0_ := am_ (hb); have n1_ := am_ (ho); clear HB HO_5 HO156; revert n0_ n1_; intro HB HO159; clear ho hb hg hat))
        go_roundg k1
        case measure => have := HK1.out; omega
        case rel => exact ⟨(y157), (wrap64 (x6_1 + 1)), (by first | rfl | (simp; done) | (simp [*]; done)), H', ⟨by have := HK1.out; omega⟩, ⟨Sx_ HO159.out⟩, ⟨bb_ HB.out⟩⟩
       ·rw [if_neg c9] at H
        exact absurd H (by simp)
      ·rw [if_neg c8] at H
       exact absurd H (by simp)
     ·rw [if_neg c7] at H
      exact absurd H (by simp)
   ·rw [if_neg c5] at H
    have c5b0 : decide (x6_1 < (l0.length : Int)) = false := decide_eq_false c5
    clear c5
    obtain rfl := Option.some.inj H
    go_wp2
    go_ret
    exact ⟨_, er_, Sx_ HO_5.out, bb_ HB.out⟩

/-! ### spec_l04Missing: function 60 -/
def spec_l04Missing.j0 : Nat → Int → Bool → Int → List (List Int) → Int → Int → Int → List Int → Option (Bool)
 | 0, _, _, _, _, _, _, _, _ => none
 | k + 1, x5, x19, x161000, x161001, x162000, x162001, x162002, x162003 => if x19 = true then (some true) else (if x162000 = 3 then ((spec_l01In.f x162002 0 x5).bind fun t163 => (if t163 = true then (if x162000 = 5 then ((spec_l01In.f x162002 1 x161000).bind fun t164 => (some (!t164))) else (some false)) else (some true))) else (if x162000 = 5 then ((spec_l01In.f x162002 1 x161000).bind fun t165 => (some (!t165))) else (some false)))
def spec_l04Missing.f (k : Nat) (a0_0 : Int) (l0_1 : List (List Int)) (a1_0 : Int) (a1_1 : Int) (a1_2 : Int) (l1_3 : List Int) : Option (Bool) := if a1_0 = 6 then (spec_l04Missing.j0 k (wrap64 ((l0_1.length : Int) - 1)) false a0_0 l0_1 a1_0 a1_1 a1_2 l1_3) else ((spec_l01In.f a1_1 0 (wrap64 ((l0_1.length : Int) - 1))).bind fun t162 => (spec_l04Missing.j0 k (wrap64 ((l0_1.length : Int) - 1)) (!t162) a0_0 l0_1 a1_0 a1_1 a1_2 l1_3))
theorem spec_l04Missing.calls (k : Nat) (a0_0 : Int) (A0_1 : Option Addr) (c0_1 : Nat) (l0_1 : List (List Int)) (a1_0 : Int) (a1_1 : Int) (a1_2 : Int) (A1_3 : Option Addr) (c1_3 : Nat) (l1_3 : List Int) (r : Bool) (w : World) (hr0_1 : Kd.C (Kd.slice 2 (Kd.int .i64)) w A0_1 l0_1.length l0_1) (hc0_1 : l0_1.length ≤ c0_1) (hr1_3 : Kd.C (Kd.int .i64) w A1_3 l1_3.length l1_3) (hc1_3 : l1_3.length ≤ c1_3) (h : spec_l04Missing.f k a0_0 l0_1 a1_0 a1_1 a1_2 l1_3 = some r) :
  Calls Try.prog 60 #[.agg #[.int .i64 a0_0, .slice A0_1 l0_1.length c0_1], .agg #[.int .i64 a1_0, .int .i64 a1_1, .int .i64 a1_2, .slice A1_3 l1_3.length c1_3]] w fun e w' => e = .returned (.bool r) ∧ Below w.heap.size w w' := by
 have hu28 := Try.underlying28
 have hu44 := Try.underlying44
 have HR0_1 := am_ hr0_1
 have HC0_1 := am_ hc0_1
 clear hr0_1 hc0_1
 have HR1_3 := am_ hr1_3
 have HC1_3 := am_ hc1_3
 clear hr1_3 hc1_3
 have HB := am_ (Below.refl w.heap.size w)
 have H : (if a1_0 = 6 then (spec_l04Missing.j0 k (wrap64 ((l0_1.length : Int) - 1)) false a0_0 l0_1 a1_0 a1_1 a1_2 l1_3) else ((spec_l01In.f a1_1 0 (wrap64 ((l0_1.length : Int) - 1))).bind fun t162 => (spec_l04Missing.j0 k (wrap64 ((l0_1.length : Int) - 1)) (!t162) a0_0 l0_1 a1_0 a1_1 a1_2 l1_3))) = some r := h
 clear h
 have HC3 := am_ H
 clear H
 go_enter Try.func60, Try.ntmps60
 go_upto_region 2 with (first | (refine be_ 2 28 #[.int .i64 a0_0, .slice A0_1 l0_1.length c0_1] ?_; intro gb160 hg w4 hbox hb; have n_ := ba0_ HB hbox hb hg; clear  HB hb hbox hg; obtain ⟨HB, BK160, GW160, GE160⟩ := n_) | (refine be_ 3 44 #[.int .i64 a1_0, .int .i64 a1_1, .int .i64 a1_2, .slice A1_3 l1_3.length c1_3] ?_; intro gb161 hg w5 hbox hb; have n_ := ba1_ BK160 HB hbox hb hg; clear BK160 HB hb hbox hg; obtain ⟨BK160, HB, BK161, GW161, GE161, NB160_161, NB161_160⟩ := n_; have hnb6 := NB160_161.out; have hnc6 := NB161_160.out; obtain ⟨hcz7_0, hcz7_1, hfz7_0, hfz7_1⟩ := bx2_ BK160))
 (try simp only [Act.put, List.setIfInBounds_toArray, List.set_cons_zero, List.set_cons_succ])
 go_cut [19] (fun v19 wc => ∃ (kq : Nat) (x19_2 : Bool), v19 = .bool x19_2 ∧ Aside0 (spec_l04Missing.j0 kq (wrap64 ((l0_1.length : Int) - 1)) x19_2 a0_0 l0_1 a1_0 a1_1 a1_2 l1_3 = some r) ∧ Aside0 (kq ≤ k) ∧ Aside0 (wc.heap[gb160]? = some (.cells #[.int .i64 a0_0, (.slice A0_1 l0_1.length c0_1)] 28 (0, 0))) ∧ Aside0 (wc.heap[gb161]? = some (.cells #[.int .i64 a1_0, .int .i64 a1_1, .int .i64 a1_2, (.slice A1_3 l1_3.length c1_3)] 44 (0, 0))) ∧ Aside0 (Below w.heap.size w wc))
 case first =>
  have H := HC3.out
  clear HC3
  by_cases c8 : a1_0 = 6
  ·rw [if_pos c8] at H
   have c8b0 : (a1_0 == 6) = true := beq_iff_eq.mpr c8
   have c8b1 : (a1_0 != 6) = false := bne_eq_false_iff_eq.mpr c8
   clear c8
   (first | rw [c8b0] | (simp only [i64_w, i32_w]; rw [c8b0]) | skip)
   have H' := am_ H
   clear H
   have hnb9 := NB161_160.out
   have hnc9 := NB160_161.out
   obtain ⟨hcz10_0, hcz10_1, hcz10_2, hcz10_3, hfz10_0, hfz10_1, hfz10_2, hfz10_3⟩ := bx4_ BK161
   go_wp2
   go_meet
   case rel => exact ⟨_, (false), (by first | rfl | (simp; done) | (simp [*]; done)), H', ⟨by first | omega | exact Nat.le_refl _⟩, ⟨bk_ BK160.out⟩, ⟨bk_ BK161.out⟩, ⟨bb_ HB.out⟩⟩
  ·rw [if_neg c8] at H
   have c8b0 : (a1_0 == 6) = false := beq_eq_false_iff_ne.mpr c8
   have c8b1 : (a1_0 != 6) = true := bne_iff_ne.mpr c8
   (first | rw [c8b0] | (simp only [i64_w, i32_w]; rw [c8b0]) | skip)
   replace H := Option.bind_eq_some_iff.mp H
   obtain ⟨t162, A110, H⟩ := H
   replace H : (spec_l04Missing.j0 k (wrap64 ((l0_1.length : Int) - 1)) (!t162) a0_0 l0_1 a1_0 a1_1 a1_2 l1_3) = some r := H
   have A11 := am_ A110
   clear A110
   have H' := am_ H
   clear H
   have hnb12 := NB161_160.out
   have hnc12 := NB160_161.out
   obtain ⟨hcz13_0, hcz13_1, hcz13_2, hcz13_3, hfz13_0, hfz13_1, hfz13_2, hfz13_3⟩ := bx4_ BK161
   go_wp2_with (first | (go_at_call 39; (with_reducible refine (spec_l01In.calls a1_1 0 (wrap64 ((l0_1.length : Int) - 1)) t162 _ A11.out).mono ?_); rintro e w' ⟨rfl, ⟨nd, rfl⟩⟩))
   go_meet
   case rel => exact ⟨_, (!t162), (by first | rfl | (simp; done) | (simp [*]; done)), H', ⟨by first | omega | exact Nat.le_refl _⟩, ⟨bk_ BK160.out⟩, ⟨bk_ BK161.out⟩, ⟨bb_ HB.out⟩⟩
 case rest =>
  clear HC3
  try clear c1
  try clear p2
  try clear c6
  try clear p6
  try clear c8
  try clear c8b0
  try clear c8b1
  try clear c9
  try clear c12
  try clear hcz10_0
  try clear hcz10_1
  try clear hcz10_2
  try clear hcz10_3
  try clear hcz13_0
  try clear hcz13_1
  try clear hcz13_2
  try clear hcz13_3
  try clear hcz7_0
  try clear hcz7_1
  try clear hfz10_0
  try clear hfz10_1
  try clear hfz10_2
  try clear hfz10_3
  try clear hfz13_0
  try clear hfz13_1
  try clear hfz13_2
  try clear hfz13_3
  try clear hfz7_0
  try clear hfz7_1
  obtain ⟨kq, x19_2, rfl, HA, HJ2, BK160, BK161, HB⟩ := hcut
  cases kq with
  | zero => exact absurd HA.out (by simp [spec_l04Missing.j0])
  | succ kj2 =>
   have H := HA.out
   clear HA
   simp only [spec_l04Missing.j0] at H
   by_cases c14 : x19_2 = true
   ·subst c14
    have H1 : (some true) = some r := by rw [if_pos rfl] at H; exact H
    clear H
    have H := H1
    clear H1
    obtain rfl := Option.some.inj H
    go_wp2
    go_ret
    exact ⟨er_, bb_ HB.out⟩
   ·replace c14 := Bool.eq_false_iff.mpr c14
    subst c14
    have H1 : (if a1_0 = 3 then ((spec_l01In.f a1_2 0 (wrap64 ((l0_1.length : Int) - 1))).bind fun t163 => (if t163 = true then (if a1_0 = 5 then ((spec_l01In.f a1_2 1 a0_0).bind fun t164 => (some (!t164))) else (some false)) else (some true))) else (if a1_0 = 5 then ((spec_l01In.f a1_2 1 a0_0).bind fun t165 => (some (!t165))) else (some false))) = some r := by rw [if_neg (show ¬ (false = true) by decide)] at H; exact H
    clear H
    have H := H1
    clear H1
    by_cases c15 : a1_0 = 3
    ·rw [if_pos c15] at H
     have c15b0 : (a1_0 == 3) = true := beq_iff_eq.mpr c15
     have c15b1 : (a1_0 != 3) = false := bne_eq_false_iff_eq.mpr c15
     clear c15
     replace H := Option.bind_eq_some_iff.mp H
     obtain ⟨t163, A160, H⟩ := H
     replace H : (if t163 = true then (if a1_0 = 5 then ((spec_l01In.f a1_2 1 a0_0).bind fun t164 => (some (!t164))) else (some false)) else (some true)) = some r := H
     have A16 := am_ A160
     clear A160
     by_cases c17 : t163 = true
     ·subst c17
      have H1 : (if a1_0 = 5 then ((spec_l01In.f a1_2 1 a0_0).bind fun t164 => (some (!t164))) else (some false)) = some r := by rw [if_pos rfl] at H; exact H
      clear H
      have H := H1
      clear H1
      by_cases c18 : a1_0 = 5
      ·rw [if_pos c18] at H
       have c18b0 : (a1_0 == 5) = true := beq_iff_eq.mpr c18
       have c18b1 : (a1_0 != 5) = false := bne_eq_false_iff_eq.mpr c18
       clear c18
       replace H := Option.bind_eq_some_iff.mp H
       obtain ⟨t164, A190, H⟩ := H
       replace H : (some (!t164)) = some r := H
       have A19 := am_ A190
       clear A190
       obtain rfl := Option.some.inj H
       have hnb20 := NB161_160.out
       have hnc20 := NB160_161.out
       obtain ⟨hcz21_0, hcz21_1, hcz21_2, hcz21_3, hfz21_0, hfz21_1, hfz21_2, hfz21_3⟩ := bx4_ BK161
       go_wp2_with (first | (go_at_call 39; (with_reducible refine (spec_l01In.calls a1_2 0 (wrap64 ((l0_1.length : Int) - 1)) true _ A16.out).mono ?_); rintro e w' ⟨rfl, ⟨nd, rfl⟩⟩; obtain ⟨hcz22_0, hcz22_1, hfz22_0, hfz22_1⟩ := bx2_ BK160) | (go_at_call 39; (with_reducible refine (spec_l01In.calls a1_2 1 a0_0 t164 _ A19.out).mono ?_); rintro e w' ⟨rfl, ⟨nd, rfl⟩⟩))
       go_ret
       exact ⟨er_, bb_ HB.out⟩
      ·rw [if_neg c18] at H
       have c18b0 : (a1_0 == 5) = false := beq_eq_false_iff_ne.mpr c18
       have c18b1 : (a1_0 != 5) = true := bne_iff_ne.mpr c18
       obtain rfl := Option.some.inj H
       have hnb23 := NB161_160.out
       have hnc23 := NB160_161.out
       obtain ⟨hcz24_0, hcz24_1, hcz24_2, hcz24_3, hfz24_0, hfz24_1, hfz24_2, hfz24_3⟩ := bx4_ BK161
       go_wp2_with (first | (go_at_call 39; (with_reducible refine (spec_l01In.calls a1_2 0 (wrap64 ((l0_1.length : Int) - 1)) true _ A16.out).mono ?_); rintro e w' ⟨rfl, ⟨nd, rfl⟩⟩))
       go_ret
       exact ⟨er_, bb_ HB.out⟩
     ·replace c17 := Bool.eq_false_iff.mpr c17
      subst c17
      have H1 : (some true) = some r := by rw [if_neg (show ¬ (false = true) by decide)] at H; exact H
      clear H
      have H := H1
      clear H1
      obtain rfl := Option.some.inj H
      have hnb25 := NB161_160.out
      have hnc25 := NB160_161.out
      obtain ⟨hcz26_0, hcz26_1, hcz26_2, hcz26_3, hfz26_0, hfz26_1, hfz26_2, hfz26_3⟩ := bx4_ BK161
      go_wp2_with (first | (go_at_call 39; (with_reducible refine (spec_l01In.calls a1_2 0 (wrap64 ((l0_1.length : Int) - 1)) false _ A16.out).mono ?_); rintro e w' ⟨rfl, ⟨nd, rfl⟩⟩))
      go_ret
      exact ⟨er_, bb_ HB.out⟩
    ·rw [if_neg c15] at H
     have c15b0 : (a1_0 == 3) = false := beq_eq_false_iff_ne.mpr c15
     have c15b1 : (a1_0 != 3) = true := bne_iff_ne.mpr c15
     by_cases c27 : a1_0 = 5
     ·rw [if_pos c27] at H
      have c27b0 : (a1_0 == 5) = true := beq_iff_eq.mpr c27
      have c27b1 : (a1_0 != 5) = false := bne_eq_false_iff_eq.mpr c27
      clear c27
      replace H := Option.bind_eq_some_iff.mp H
      obtain ⟨t165, A280, H⟩ := H
      replace H : (some (!t165)) = some r := H
      have A28 := am_ A280
      clear A280
      obtain rfl := Option.some.inj H
      have hnb29 := NB161_160.out
      have hnc29 := NB160_161.out
      obtain ⟨hcz30_0, hcz30_1, hcz30_2, hcz30_3, hfz30_0, hfz30_1, hfz30_2, hfz30_3⟩ := bx4_ BK161
      obtain ⟨hcz31_0, hcz31_1, hfz31_0, hfz31_1⟩ := bx2_ BK160
      go_wp2_with (first | (go_at_call 39; (with_reducible refine (spec_l01In.calls a1_2 1 a0_0 t165 _ A28.out).mono ?_); rintro e w' ⟨rfl, ⟨nd, rfl⟩⟩))
      go_ret
      exact ⟨er_, bb_ HB.out⟩
     ·rw [if_neg c27] at H
      have c27b0 : (a1_0 == 5) = false := beq_eq_false_iff_ne.mpr c27
      have c27b1 : (a1_0 != 5) = true := bne_iff_ne.mpr c27
      obtain rfl := Option.some.inj H
      have hnb32 := NB161_160.out
      have hnc32 := NB160_161.out
      obtain ⟨hcz33_0, hcz33_1, hcz33_2, hcz33_3, hfz33_0, hfz33_1, hfz33_2, hfz33_3⟩ := bx4_ BK161
      go_wp2
      go_ret
      exact ⟨er_, bb_ HB.out⟩

/-! ### spec_l04Count: function 95 -/
def spec_l04Count.l0 : Nat → List Int → Int → Int → Int → Option (Int)
  | 0, _, _, _, _ => none
  | k + 1, x0, x1, x5, x6 => if x6 < (x0.length : Int) then (if 0 ≤ x6 then (if (rd x0 x6) = x1 then (spec_l04Count.l0 k x0 x1 (wrap64 (x5 + 1)) (wrap64 (x6 + 1))) else (spec_l04Count.l0 k x0 x1 x5 (wrap64 (x6 + 1)))) else (none)) else (some x5)
def spec_l04Count.f (k : Nat) (l0 : List Int) (a1 : Int) : Option (Int) := spec_l04Count.l0 k l0 a1 0 0
theorem spec_l04Count.calls (k : Nat) (A0 : Option Addr) (c0 : Nat) (l0 : List Int) (a1 : Int) (r : Int) (w : World) (hr0 : Kd.C (Kd.int .i64) w A0 l0.length l0) (hc0 : l0.length ≤ c0) (h : spec_l04Count.f k l0 a1 = some r) :
    Calls Try.prog 95 #[.slice A0 l0.length c0, .int .i64 a1] w fun e w' => e = .returned (.int .i64 r) ∧ Drawn0 w w' := by
  have HR0 := Aside0.mk hr0
  have HC0 := Aside0.mk hc0
  clear hr0 hc0
  have H : (spec_l04Count.l0 k l0 a1 0 0) = some r := h
  clear h
  have H' := Aside0.mk H
  clear H
  go_enter Try.func95, Try.ntmps95
  go_wp2
  go_loopg [5, 6] k (fun kq v5 v6 w' => ∃ (x5_1 : Int) (x6_1 : Int), v5 = .int .i64 x5_1 ∧ v6 = .int .i64 x6_1 ∧ Aside0 (spec_l04Count.l0 kq l0 a1 x5_1 x6_1 = some r) ∧ Aside0 (kq ≤ k) ∧ Drawn0 w w')
  case atStart => exact ⟨(0), (0), (by first | rfl | (simp; done) | (simp [*]; done)), (by first | rfl | (simp; done) | (simp [*]; done)), H', ⟨Nat.le_refl _⟩, by repeat (first | exact Drawn0.refl _ | apply Drawn0.step)⟩
  case round =>
    clear H'
    try clear p2
    obtain ⟨x5_1, x6_1, rfl, rfl, HA, HK1, ⟨m1, rfl⟩⟩ := hrel
    cases gk with
    | zero => exact absurd HA.out (by simp [spec_l04Count.l0])
    | succ k1 =>
      have H := HA.out
      clear HA
      simp only [spec_l04Count.l0] at H
      by_cases c3 : x6_1 < (l0.length : Int)
      · rw [if_pos c3] at H
        have c3b0 : decide (x6_1 < (l0.length : Int)) = true := decide_eq_true c3
        clear c3
        by_cases c4 : 0 ≤ x6_1
        · rw [if_pos c4] at H
          have c4b0 : decide (0 ≤ x6_1) = true := decide_eq_true c4
          clear c4
          by_cases c5 : (rd l0 x6_1) = a1
          · rw [if_pos c5] at H
            have c5b0 : ((rd l0 x6_1) == a1) = true := beq_iff_eq.mpr c5
            have c5b1 : ((rd l0 x6_1) != a1) = false := bne_eq_false_iff_eq.mpr c5
            clear c5
            have H' := Aside0.mk H
            clear H
            have p166 : 0 ≤ (x6_1 : Int) := da_
            have q166 : x6_1 < (l0.length : Int) := da_
            obtain ⟨ad166, e166, hx166_0⟩ := Kd.at_int HR0.out x6_1 p166 q166
            cases e166
            replace p166 := eq_true p166
            replace q166 := eq_true q166
            go_wp2
            go_roundg k1
            case measure => have := HK1.out; omega
            case rel => exact ⟨(wrap64 (x5_1 + 1)), (wrap64 (x6_1 + 1)), (by first | rfl | (simp; done) | (simp [*]; done)), (by first | rfl | (simp; done) | (simp [*]; done)), H', ⟨by have := HK1.out; omega⟩, by repeat (first | exact Drawn0.refl _ | apply Drawn0.step)⟩
          · rw [if_neg c5] at H
            have c5b0 : ((rd l0 x6_1) == a1) = false := beq_eq_false_iff_ne.mpr c5
            have c5b1 : ((rd l0 x6_1) != a1) = true := bne_iff_ne.mpr c5
            have H' := Aside0.mk H
            clear H
            have p166 : 0 ≤ (x6_1 : Int) := da_
            have q166 : x6_1 < (l0.length : Int) := da_
            obtain ⟨ad166, e166, hx166_0⟩ := Kd.at_int HR0.out x6_1 p166 q166
            cases e166
            replace p166 := eq_true p166
            replace q166 := eq_true q166
            go_wp2
            go_roundg k1
            case measure => have := HK1.out; omega
            case rel => exact ⟨(x5_1), (wrap64 (x6_1 + 1)), (by first | rfl | (simp; done) | (simp [*]; done)), (by first | rfl | (simp; done) | (simp [*]; done)), H', ⟨by have := HK1.out; omega⟩, by repeat (first | exact Drawn0.refl _ | apply Drawn0.step)⟩
        · rw [if_neg c4] at H
          exact absurd H (by simp)
      · rw [if_neg c3] at H
        have c3b0 : decide (x6_1 < (l0.length : Int)) = false := decide_eq_false c3
        clear c3
        obtain rfl := Option.some.inj H
        go_wp2
        go_ret
        exact ⟨by first | rfl | (simp; done) | (simp [*]; done), by repeat (first | exact Drawn0.refl _ | apply Drawn0.step)⟩

/-! ### spec_l04Possible: function 62 -/
def spec_l04Possible.f (k : Nat) (a0_0 : Int) (l0_1 : List (List Int)) (a1_0 : Int) (a1_1 : Int) (a1_2 : Int) (l1_3 : List Int) : Option (Bool) := if a1_0 = 3 then (some (a1_1 != a1_2)) else (if a1_0 = 4 then (if 0 ≤ a1_1 then (if a1_1 < (l0_1.length : Int) then (some (((rd_L1 l0_1 a1_1).length : Int) == 0)) else (none)) else (none)) else (if a1_0 = 5 then (if 0 ≤ a1_1 then (if a1_1 < (l0_1.length : Int) then ((spec_l04Count.f k (rd_L1 l0_1 a1_1) a1_2).bind fun t171 => ((spec_l04Count.f k (rd_L1 l0_1 a1_1) (wrap64 (-a1_2))).bind fun t173 => (some ((wrap64 (t171 + t173)) == 1)))) else (none)) else (none)) else (some true)))
theorem spec_l04Possible.calls (k : Nat) (a0_0 : Int) (A0_1 : Option Addr) (c0_1 : Nat) (l0_1 : List (List Int)) (a1_0 : Int) (a1_1 : Int) (a1_2 : Int) (A1_3 : Option Addr) (c1_3 : Nat) (l1_3 : List Int) (r : Bool) (w : World) (hr0_1 : Kd.C (Kd.slice 2 (Kd.int .i64)) w A0_1 l0_1.length l0_1) (hc0_1 : l0_1.length ≤ c0_1) (hr1_3 : Kd.C (Kd.int .i64) w A1_3 l1_3.length l1_3) (hc1_3 : l1_3.length ≤ c1_3) (h : spec_l04Possible.f k a0_0 l0_1 a1_0 a1_1 a1_2 l1_3 = some r) :
  Calls Try.prog 62 #[.agg #[.int .i64 a0_0, .slice A0_1 l0_1.length c0_1], .agg #[.int .i64 a1_0, .int .i64 a1_1, .int .i64 a1_2, .slice A1_3 l1_3.length c1_3]] w fun e w' => e = .returned (.bool r) ∧ Below w.heap.size w w' := by
 have hu28 := Try.underlying28
 have hu44 := Try.underlying44
 have HR0_1 := am_ hr0_1
 have HC0_1 := am_ hc0_1
 clear hr0_1 hc0_1
 have HR1_3 := am_ hr1_3
 have HC1_3 := am_ hc1_3
 clear hr1_3 hc1_3
 have HB := am_ (Below.refl w.heap.size w)
 have H : (if a1_0 = 3 then (some (a1_1 != a1_2)) else (if a1_0 = 4 then (if 0 ≤ a1_1 then (if a1_1 < (l0_1.length : Int) then (some (((rd_L1 l0_1 a1_1).length : Int) == 0)) else (none)) else (none)) else (if a1_0 = 5 then (if 0 ≤ a1_1 then (if a1_1 < (l0_1.length : Int) then ((spec_l04Count.f k (rd_L1 l0_1 a1_1) a1_2).bind fun t171 => ((spec_l04Count.f k (rd_L1 l0_1 a1_1) (wrap64 (-a1_2))).bind fun t173 => (some ((wrap64 (t171 + t173)) == 1)))) else (none)) else (none)) else (some true)))) = some r := h
 clear h
 by_cases c3 : a1_0 = 3
 ·rw [if_pos c3] at H
  have c3b0 : (a1_0 == 3) = true := beq_iff_eq.mpr c3
  have c3b1 : (a1_0 != 3) = false := bne_eq_false_iff_eq.mpr c3
  clear c3
  obtain rfl := Option.some.inj H
  go_enter Try.func62, Try.ntmps62
  go_wp2_with (first | (refine be_ 2 28 #[.int .i64 a0_0, .slice A0_1 l0_1.length c0_1] ?_; intro gb167 hg w4 hbox hb; have n_ := ba0_ HB hbox hb hg; clear  HB hb hbox hg; obtain ⟨HB, BK167, GW167, GE167⟩ := n_) | (refine be_ 3 44 #[.int .i64 a1_0, .int .i64 a1_1, .int .i64 a1_2, .slice A1_3 l1_3.length c1_3] ?_; intro gb168 hg w5 hbox hb; have n_ := ba1_ BK167 HB hbox hb hg; clear BK167 HB hb hbox hg; obtain ⟨BK167, HB, BK168, GW168, GE168, NB167_168, NB168_167⟩ := n_; have hnb6 := NB168_167.out; have hnc6 := NB167_168.out; obtain ⟨hcz7_0, hcz7_1, hcz7_2, hcz7_3, hfz7_0, hfz7_1, hfz7_2, hfz7_3⟩ := bx4_ BK168))
  repeat (go_quiet (first | (refine be_ 2 28 #[.int .i64 a0_0, .slice A0_1 l0_1.length c0_1] ?_; intro gb167 hg w4 hbox hb; have n_ := ba0_ HB hbox hb hg; clear  HB hb hbox hg; obtain ⟨HB, BK167, GW167, GE167⟩ := n_) | (refine be_ 3 44 #[.int .i64 a1_0, .int .i64 a1_1, .int .i64 a1_2, .slice A1_3 l1_3.length c1_3] ?_; intro gb168 hg w5 hbox hb; have n_ := ba1_ BK167 HB hbox hb hg; clear BK167 HB hb hbox hg; obtain ⟨BK167, HB, BK168, GW168, GE168, NB167_168, NB168_167⟩ := n_; have hnb6 := NB168_167.out; have hnc6 := NB167_168.out; obtain ⟨hcz7_0, hcz7_1, hcz7_2, hcz7_3, hfz7_0, hfz7_1, hfz7_2, hfz7_3⟩ := bx4_ BK168)); try go_wp2_with (first | (refine be_ 2 28 #[.int .i64 a0_0, .slice A0_1 l0_1.length c0_1] ?_; intro gb167 hg w4 hbox hb; have n_ := ba0_ HB hbox hb hg; clear  HB hb hbox hg; obtain ⟨HB, BK167, GW167, GE167⟩ := n_) | (refine be_ 3 44 #[.int .i64 a1_0, .int .i64 a1_1, .int .i64 a1_2, .slice A1_3 l1_3.length c1_3] ?_; intro gb168 hg w5 hbox hb; have n_ := ba1_ BK167 HB hbox hb hg; clear BK167 HB hb hbox hg; obtain ⟨BK167, HB, BK168, GW168, GE168, NB167_168, NB168_167⟩ := n_; have hnb6 := NB168_167.out; have hnc6 := NB167_168.out; obtain ⟨hcz7_0, hcz7_1, hcz7_2, hcz7_3, hfz7_0, hfz7_1, hfz7_2, hfz7_3⟩ := bx4_ BK168)))
  go_ret
  exact ⟨er_, bb_ HB.out⟩
 ·rw [if_neg c3] at H
  have c3b0 : (a1_0 == 3) = false := beq_eq_false_iff_ne.mpr c3
  have c3b1 : (a1_0 != 3) = true := bne_iff_ne.mpr c3
  by_cases c8 : a1_0 = 4
  ·rw [if_pos c8] at H
   have c8b0 : (a1_0 == 4) = true := beq_iff_eq.mpr c8
   have c8b1 : (a1_0 != 4) = false := bne_eq_false_iff_eq.mpr c8
   clear c8
   by_cases c9 : 0 ≤ a1_1
   ·rw [if_pos c9] at H
    have c9b0 : decide (0 ≤ a1_1) = true := decide_eq_true c9
    clear c9
    by_cases c10 : a1_1 < (l0_1.length : Int)
    ·rw [if_pos c10] at H
     have c10b0 : decide (a1_1 < (l0_1.length : Int)) = true := decide_eq_true c10
     clear c10
     obtain rfl := Option.some.inj H
     go_enter Try.func62, Try.ntmps62
     go_wp2_with (first | (refine be_ 2 28 #[.int .i64 a0_0, .slice A0_1 l0_1.length c0_1] ?_; intro gb167 hg w11 hbox hb; have n_ := ba0_ HB hbox hb hg; clear  HB hb hbox hg; obtain ⟨HB, BK167, GW167, GE167⟩ := n_) | (refine be_ 3 44 #[.int .i64 a1_0, .int .i64 a1_1, .int .i64 a1_2, .slice A1_3 l1_3.length c1_3] ?_; intro gb168 hg w12 hbox hb; have n_ := ba1_ BK167 HB hbox hb hg; clear BK167 HB hb hbox hg; obtain ⟨BK167, HB, BK168, GW168, GE168, NB167_168, NB168_167⟩ := n_; have hnb13 := NB168_167.out; have hnc13 := NB167_168.out; obtain ⟨hcz14_0, hcz14_1, hcz14_2, hcz14_3, hfz14_0, hfz14_1, hfz14_2, hfz14_3⟩ := bx4_ BK168; obtain ⟨hcz15_0, hcz15_1, hfz15_0, hfz15_1⟩ := bx2_ BK167; have p169 : 0 ≤ (a1_1 : Int) := da_; have q169 : a1_1 < (l0_1.length : Int) := da_; obtain ⟨ad169, A169_0, c169_0, e169, hx169_0, hl169_0, hi169_0⟩ := at_L1 HR0_1.out a1_1 p169 q169; cases e169; replace hx169_0 := ce_ HB hx169_0; have HR169_0 := am_ hi169_0; have HC169_0 := am_ hl169_0; clear hi169_0 hl169_0; replace p169 := eq_true p169; replace q169 := eq_true q169))
     repeat (go_quiet (first | (refine be_ 2 28 #[.int .i64 a0_0, .slice A0_1 l0_1.length c0_1] ?_; intro gb167 hg w11 hbox hb; have n_ := ba0_ HB hbox hb hg; clear  HB hb hbox hg; obtain ⟨HB, BK167, GW167, GE167⟩ := n_) | (refine be_ 3 44 #[.int .i64 a1_0, .int .i64 a1_1, .int .i64 a1_2, .slice A1_3 l1_3.length c1_3] ?_; intro gb168 hg w12 hbox hb; have n_ := ba1_ BK167 HB hbox hb hg; clear BK167 HB hb hbox hg; obtain ⟨BK167, HB, BK168, GW168, GE168, NB167_168, NB168_167⟩ := n_; have hnb13 := NB168_167.out; have hnc13 := NB167_168.out; obtain ⟨hcz14_0, hcz14_1, hcz14_2, hcz14_3, hfz14_0, hfz14_1, hfz14_2, hfz14_3⟩ := bx4_ BK168; obtain ⟨hcz15_0, hcz15_1, hfz15_0, hfz15_1⟩ := bx2_ BK167; have p169 : 0 ≤ (a1_1 : Int) := da_; have q169 : a1_1 < (l0_1.length : Int) := da_; obtain ⟨ad169, A169_0, c169_0, e169, hx169_0, hl169_0, hi169_0⟩ := at_L1 HR0_1.out a1_1 p169 q169; cases e169; replace hx169_0 := ce_ HB hx169_0; have HR169_0 := am_ hi169_0; have HC169_0 := am_ hl169_0; clear hi169_0 hl169_0; replace p169 := eq_true p169; replace q169 := eq_true q169)); try go_wp2_with (first | (refine be_ 2 28 #[.int .i64 a0_0, .slice A0_1 l0_1.length c0_1] ?_; intro gb167 hg w11 hbox hb; have n_ := ba0_ HB hbox hb hg; clear  HB hb hbox hg; obtain ⟨HB, BK167, GW167, GE167⟩ := n_) | (refine be_ 3 44 #[.int .i64 a1_0, .int .i64 a1_1, .int .i64 a1_2, .slice A1_3 l1_3.length c1_3] ?_; intro gb168 hg w12 hbox hb; have n_ := ba1_ BK167 HB hbox hb hg; clear BK167 HB hb hbox hg; obtain ⟨BK167, HB, BK168, GW168, GE168, NB167_168, NB168_167⟩ := n_; have hnb13 := NB168_167.out; have hnc13 := NB167_168.out; obtain ⟨hcz14_0, hcz14_1, hcz14_2, hcz14_3, hfz14_0, hfz14_1, hfz14_2, hfz14_3⟩ := bx4_ BK168; obtain ⟨hcz15_0, hcz15_1, hfz15_0, hfz15_1⟩ := bx2_ BK167; have p169 : 0 ≤ (a1_1 : Int) := da_; have q169 : a1_1 < (l0_1.length : Int) := da_; obtain ⟨ad169, A169_0, c169_0, e169, hx169_0, hl169_0, hi169_0⟩ := at_L1 HR0_1.out a1_1 p169 q169; cases e169; replace hx169_0 := ce_ HB hx169_0; have HR169_0 := am_ hi169_0; have HC169_0 := am_ hl169_0; clear hi169_0 hl169_0; replace p169 := eq_true p169; replace q169 := eq_true q169)))
     go_ret
     exact ⟨er_, bb_ HB.out⟩
    ·rw [if_neg c10] at H
     exact absurd H (by simp)
   ·rw [if_neg c9] at H
    exact absurd H (by simp)
  ·rw [if_neg c8] at H
   have c8b0 : (a1_0 == 4) = false := beq_eq_false_iff_ne.mpr c8
   have c8b1 : (a1_0 != 4) = true := bne_iff_ne.mpr c8
   by_cases c16 : a1_0 = 5
   ·rw [if_pos c16] at H
    have c16b0 : (a1_0 == 5) = true := beq_iff_eq.mpr c16
    have c16b1 : (a1_0 != 5) = false := bne_eq_false_iff_eq.mpr c16
    clear c16
    by_cases c17 : 0 ≤ a1_1
    ·rw [if_pos c17] at H
     have c17b0 : decide (0 ≤ a1_1) = true := decide_eq_true c17
     clear c17
     by_cases c18 : a1_1 < (l0_1.length : Int)
     ·rw [if_pos c18] at H
      have c18b0 : decide (a1_1 < (l0_1.length : Int)) = true := decide_eq_true c18
      clear c18
      replace H := Option.bind_eq_some_iff.mp H
      obtain ⟨t171, A190, H⟩ := H
      replace H : ((spec_l04Count.f k (rd_L1 l0_1 a1_1) (wrap64 (-a1_2))).bind fun t173 => (some ((wrap64 (t171 + t173)) == 1))) = some r := H
      have A19 := am_ A190
      clear A190
      replace H := Option.bind_eq_some_iff.mp H
      obtain ⟨t173, A200, H⟩ := H
      replace H : (some ((wrap64 (t171 + t173)) == 1)) = some r := H
      have A20 := am_ A200
      clear A200
      obtain rfl := Option.some.inj H
      go_enter Try.func62, Try.ntmps62
      go_wp2_with (first | (refine be_ 2 28 #[.int .i64 a0_0, .slice A0_1 l0_1.length c0_1] ?_; intro gb167 hg w21 hbox hb; have n_ := ba0_ HB hbox hb hg; clear  HB hb hbox hg; obtain ⟨HB, BK167, GW167, GE167⟩ := n_) | (refine be_ 3 44 #[.int .i64 a1_0, .int .i64 a1_1, .int .i64 a1_2, .slice A1_3 l1_3.length c1_3] ?_; intro gb168 hg w22 hbox hb; have n_ := ba1_ BK167 HB hbox hb hg; clear BK167 HB hb hbox hg; obtain ⟨BK167, HB, BK168, GW168, GE168, NB167_168, NB168_167⟩ := n_; have hnb23 := NB168_167.out; have hnc23 := NB167_168.out; obtain ⟨hcz24_0, hcz24_1, hcz24_2, hcz24_3, hfz24_0, hfz24_1, hfz24_2, hfz24_3⟩ := bx4_ BK168; obtain ⟨hcz25_0, hcz25_1, hfz25_0, hfz25_1⟩ := bx2_ BK167; have p170 : 0 ≤ (a1_1 : Int) := da_; have q170 : a1_1 < (l0_1.length : Int) := da_; obtain ⟨ad170, A170_0, c170_0, e170, hx170_0, hl170_0, hi170_0⟩ := at_L1 HR0_1.out a1_1 p170 q170; cases e170; replace hx170_0 := ce_ HB hx170_0; have HR170_0 := am_ hi170_0; have HC170_0 := am_ hl170_0; clear hi170_0 hl170_0; replace p170 := eq_true p170; replace q170 := eq_true q170) | (go_at_call 95; (with_reducible refine (spec_l04Count.calls k _ _ (rd_L1 l0_1 a1_1) a1_2 t171 _ ?side1 ?side2 A19.out).mono ?_); (case side1 => exact cb_ HR170_0 HB); (case side2 => exact HC170_0.out); rintro e w' ⟨rfl, ⟨nd, rfl⟩⟩; (try first | exact ⟨rfl, _, World.drewN_drewN _ _ _⟩ | exact ⟨rfl, _, Eq.trans (World.drewN_drewN _ _ _) (congrArg (World.drewN _) (Nat.add_assoc _ _ _))⟩); have p172 : 0 ≤ (a1_1 : Int) := da_; have q172 : a1_1 < (l0_1.length : Int) := da_; obtain ⟨ad172, A172_0, c172_0, e172, hx172_0, hl172_0, hi172_0⟩ := at_L1 HR0_1.out a1_1 p172 q172; obtain rfl : ad170 = ad172 := (by injection e172); replace hx172_0 := ce_ HB hx172_0; have HR172_0 := am_ hi172_0; have HC172_0 := am_ hl172_0; clear hi172_0 hl172_0; replace p172 := eq_true p172; replace q172 := eq_true q172; have ea_ := Option.some.inj (hx170_0.symm.trans hx172_0); injection ea_ with ea_ en_ ec_; subst ea_; subst ec_; clear en_) | (go_at_call 95; (with_reducible refine (spec_l04Count.calls k _ _ (rd_L1 l0_1 a1_1) (wrap64 (-a1_2)) t173 _ ?side1 ?side2 A20.out).mono ?_); (case side1 => repeat (first | exact (Kd.C_below HR172_0.out (bb_ HB.out)) | (with_reducible refine Kd.C_alloc ?_ _) | (with_reducible refine Kd.C_drewN ?_ _) | (with_reducible refine Kd.C_drew ?_))); (case side2 => exact HC172_0.out); rintro e w' ⟨rfl, ⟨nd, rfl⟩⟩; (try first | exact ⟨rfl, _, World.drewN_drewN _ _ _⟩ | exact ⟨rfl, _, Eq.trans (World.drewN_drewN _ _ _) (congrArg (World.drewN _) (Nat.add_assoc _ _ _))⟩)))
      have p172 : 0 ≤ (a1_1 : Int) := da_
      have q172 : a1_1 < (l0_1.length : Int) := da_
      obtain ⟨ad172, A172_0, c172_0, e172, hx172_0, hl172_0, hi172_0⟩ := at_L1 HR0_1.out a1_1 p172 q172
      obtain rfl : ad170 = ad172 := (by injection e172)
      replace hx172_0 := ce_ HB hx172_0
      have HR172_0 := am_ hi172_0
      have HC172_0 := am_ hl172_0
      clear hi172_0 hl172_0
      replace p172 := eq_true p172
      replace q172 := eq_true q172
      have ea_ := Option.some.inj (hx170_0.symm.trans hx172_0)
      injection ea_ with ea_ en_ ec_
      subst ea_
      subst ec_
      clear en_
      repeat (go_quiet (first | (refine be_ 2 28 #[.int .i64 a0_0, .slice A0_1 l0_1.length c0_1] ?_; intro gb167 hg w21 hbox hb; have n_ := ba0_ HB hbox hb hg; clear  HB hb hbox hg; obtain ⟨HB, BK167, GW167, GE167⟩ := n_) | (refine be_ 3 44 #[.int .i64 a1_0, .int .i64 a1_1, .int .i64 a1_2, .slice A1_3 l1_3.length c1_3] ?_; intro gb168 hg w22 hbox hb; have n_ := ba1_ BK167 HB hbox hb hg; clear BK167 HB hb hbox hg; obtain ⟨BK167, HB, BK168, GW168, GE168, NB167_168, NB168_167⟩ := n_; have hnb23 := NB168_167.out; have hnc23 := NB167_168.out; obtain ⟨hcz24_0, hcz24_1, hcz24_2, hcz24_3, hfz24_0, hfz24_1, hfz24_2, hfz24_3⟩ := bx4_ BK168; obtain ⟨hcz25_0, hcz25_1, hfz25_0, hfz25_1⟩ := bx2_ BK167; have p170 : 0 ≤ (a1_1 : Int) := da_; have q170 : a1_1 < (l0_1.length : Int) := da_; obtain ⟨ad170, A170_0, c170_0, e170, hx170_0, hl170_0, hi170_0⟩ := at_L1 HR0_1.out a1_1 p170 q170; cases e170; replace hx170_0 := ce_ HB hx170_0; have HR170_0 := am_ hi170_0; have HC170_0 := am_ hl170_0; clear hi170_0 hl170_0; replace p170 := eq_true p170; replace q170 := eq_true q170) | (go_at_call 95; (try simp only [i64_w]); (with_reducible refine (spec_l04Count.calls k _ _ (rd_L1 l0_1 a1_1) a1_2 t171 _ ?side1 ?side2 A19.out).mono ?_); (case side1 => exact cb_ HR170_0 HB); (case side2 => exact HC170_0.out); rintro e w' ⟨rfl, ⟨nd, rfl⟩⟩; (try first | exact ⟨rfl, _, World.drewN_drewN _ _ _⟩ | exact ⟨rfl, _, Eq.trans (World.drewN_drewN _ _ _) (congrArg (World.drewN _) (Nat.add_assoc _ _ _))⟩)) | (go_at_call 95; (try simp only [i64_w]); (with_reducible refine (spec_l04Count.calls k _ _ (rd_L1 l0_1 a1_1) (wrap64 (-a1_2)) t173 _ ?side1 ?side2 A20.out).mono ?_); (case side1 => repeat (first | exact (Kd.C_below HR172_0.out (bb_ HB.out)) | (with_reducible refine Kd.C_alloc ?_ _) | (with_reducible refine Kd.C_drewN ?_ _) | (with_reducible refine Kd.C_drew ?_))); (case side2 => exact HC172_0.out); rintro e w' ⟨rfl, ⟨nd, rfl⟩⟩; (try first | exact ⟨rfl, _, World.drewN_drewN _ _ _⟩ | exact ⟨rfl, _, Eq.trans (World.drewN_drewN _ _ _) (congrArg (World.drewN _) (Nat.add_assoc _ _ _))⟩))); try go_wp2_with (first | (refine be_ 2 28 #[.int .i64 a0_0, .slice A0_1 l0_1.length c0_1] ?_; intro gb167 hg w21 hbox hb; have n_ := ba0_ HB hbox hb hg; clear  HB hb hbox hg; obtain ⟨HB, BK167, GW167, GE167⟩ := n_) | (refine be_ 3 44 #[.int .i64 a1_0, .int .i64 a1_1, .int .i64 a1_2, .slice A1_3 l1_3.length c1_3] ?_; intro gb168 hg w22 hbox hb; have n_ := ba1_ BK167 HB hbox hb hg; clear BK167 HB hb hbox hg; obtain ⟨BK167, HB, BK168, GW168, GE168, NB167_168, NB168_167⟩ := n_; have hnb23 := NB168_167.out; have hnc23 := NB167_168.out; obtain ⟨hcz24_0, hcz24_1, hcz24_2, hcz24_3, hfz24_0, hfz24_1, hfz24_2, hfz24_3⟩ := bx4_ BK168; obtain ⟨hcz25_0, hcz25_1, hfz25_0, hfz25_1⟩ := bx2_ BK167; have p170 : 0 ≤ (a1_1 : Int) := da_; have q170 : a1_1 < (l0_1.length : Int) := da_; obtain ⟨ad170, A170_0, c170_0, e170, hx170_0, hl170_0, hi170_0⟩ := at_L1 HR0_1.out a1_1 p170 q170; cases e170; replace hx170_0 := ce_ HB hx170_0; have HR170_0 := am_ hi170_0; have HC170_0 := am_ hl170_0; clear hi170_0 hl170_0; replace p170 := eq_true p170; replace q170 := eq_true q170) | (go_at_call 95; (try simp only [i64_w]); (with_reducible refine (spec_l04Count.calls k _ _ (rd_L1 l0_1 a1_1) a1_2 t171 _ ?side1 ?side2 A19.out).mono ?_); (case side1 => exact cb_ HR170_0 HB); (case side2 => exact HC170_0.out); rintro e w' ⟨rfl, ⟨nd, rfl⟩⟩; (try first | exact ⟨rfl, _, World.drewN_drewN _ _ _⟩ | exact ⟨rfl, _, Eq.trans (World.drewN_drewN _ _ _) (congrArg (World.drewN _) (Nat.add_assoc _ _ _))⟩)) | (go_at_call 95; (try simp only [i64_w]); (with_reducible refine (spec_l04Count.calls k _ _ (rd_L1 l0_1 a1_1) (wrap64 (-a1_2)) t173 _ ?side1 ?side2 A20.out).mono ?_); (case side1 => repeat (first | exact (Kd.C_below HR172_0.out (bb_ HB.out)) | (with_reducible refine Kd.C_alloc ?_ _) | (with_reducible refine Kd.C_drewN ?_ _) | (with_reducible refine Kd.C_drew ?_))); (case side2 => exact HC172_0.out); rintro e w' ⟨rfl, ⟨nd, rfl⟩⟩; (try first | exact ⟨rfl, _, World.drewN_drewN _ _ _⟩ | exact ⟨rfl, _, Eq.trans (World.drewN_drewN _ _ _) (congrArg (World.drewN _) (Nat.add_assoc _ _ _))⟩))))
      go_ret
      exact ⟨er_, bb_ HB.out⟩
     ·rw [if_neg c18] at H
      exact absurd H (by simp)
    ·rw [if_neg c17] at H
     exact absurd H (by simp)
   ·rw [if_neg c16] at H
    have c16b0 : (a1_0 == 5) = false := beq_eq_false_iff_ne.mpr c16
    have c16b1 : (a1_0 != 5) = true := bne_iff_ne.mpr c16
    obtain rfl := Option.some.inj H
    go_enter Try.func62, Try.ntmps62
    go_wp2_with (first | (refine be_ 2 28 #[.int .i64 a0_0, .slice A0_1 l0_1.length c0_1] ?_; intro gb167 hg w26 hbox hb; have n_ := ba0_ HB hbox hb hg; clear  HB hb hbox hg; obtain ⟨HB, BK167, GW167, GE167⟩ := n_) | (refine be_ 3 44 #[.int .i64 a1_0, .int .i64 a1_1, .int .i64 a1_2, .slice A1_3 l1_3.length c1_3] ?_; intro gb168 hg w27 hbox hb; have n_ := ba1_ BK167 HB hbox hb hg; clear BK167 HB hb hbox hg; obtain ⟨BK167, HB, BK168, GW168, GE168, NB167_168, NB168_167⟩ := n_; have hnb28 := NB168_167.out; have hnc28 := NB167_168.out; obtain ⟨hcz29_0, hcz29_1, hcz29_2, hcz29_3, hfz29_0, hfz29_1, hfz29_2, hfz29_3⟩ := bx4_ BK168))
    repeat (go_quiet (first | (refine be_ 2 28 #[.int .i64 a0_0, .slice A0_1 l0_1.length c0_1] ?_; intro gb167 hg w26 hbox hb; have n_ := ba0_ HB hbox hb hg; clear  HB hb hbox hg; obtain ⟨HB, BK167, GW167, GE167⟩ := n_) | (refine be_ 3 44 #[.int .i64 a1_0, .int .i64 a1_1, .int .i64 a1_2, .slice A1_3 l1_3.length c1_3] ?_; intro gb168 hg w27 hbox hb; have n_ := ba1_ BK167 HB hbox hb hg; clear BK167 HB hb hbox hg; obtain ⟨BK167, HB, BK168, GW168, GE168, NB167_168, NB168_167⟩ := n_; have hnb28 := NB168_167.out; have hnc28 := NB167_168.out; obtain ⟨hcz29_0, hcz29_1, hcz29_2, hcz29_3, hfz29_0, hfz29_1, hfz29_2, hfz29_3⟩ := bx4_ BK168)); try go_wp2_with (first | (refine be_ 2 28 #[.int .i64 a0_0, .slice A0_1 l0_1.length c0_1] ?_; intro gb167 hg w26 hbox hb; have n_ := ba0_ HB hbox hb hg; clear  HB hb hbox hg; obtain ⟨HB, BK167, GW167, GE167⟩ := n_) | (refine be_ 3 44 #[.int .i64 a1_0, .int .i64 a1_1, .int .i64 a1_2, .slice A1_3 l1_3.length c1_3] ?_; intro gb168 hg w27 hbox hb; have n_ := ba1_ BK167 HB hbox hb hg; clear BK167 HB hb hbox hg; obtain ⟨BK167, HB, BK168, GW168, GE168, NB167_168, NB168_167⟩ := n_; have hnb28 := NB168_167.out; have hnc28 := NB167_168.out; obtain ⟨hcz29_0, hcz29_1, hcz29_2, hcz29_3, hfz29_0, hfz29_1, hfz29_2, hfz29_3⟩ := bx4_ BK168)))
    go_ret
    exact ⟨er_, bb_ HB.out⟩

/-! ### spec_l04Reduce: function 87 -/
def spec_l04Reduce.l0 : Nat → List Int → List Int → Int → Option (List Int)
 | 0, _, _, _ => none
 | k + 1, x0, x3, x4 => if x4 < (x0.length : Int) then (if (x3.length : Int) > 0 then (if 0 ≤ (wrap64 ((x3.length : Int) - 1)) then (if (wrap64 ((x3.length : Int) - 1)) < (x3.length : Int) then (if 0 ≤ x4 then (if (rd x3 (wrap64 ((x3.length : Int) - 1))) = (wrap64 (-(rd x0 x4))) then (if (wrap64 ((x3.length : Int) - 1)) ≤ (x3.length : Int) then (spec_l04Reduce.l0 k x0 (x3.take ((wrap64 ((x3.length : Int) - 1)) : Int).toNat) (wrap64 (x4 + 1))) else (none)) else (if x3.length < 17592186044416 then (spec_l04Reduce.l0 k x0 (x3 ++ [rd x0 x4]) (wrap64 (x4 + 1))) else (none))) else (none)) else (none)) else (none)) else (if 0 ≤ x4 then (if x3.length < 17592186044416 then (spec_l04Reduce.l0 k x0 (x3 ++ [rd x0 x4]) (wrap64 (x4 + 1))) else (none)) else (none))) else (some x3)
def spec_l04Reduce.f (k : Nat) (l0 : List Int) : Option (List Int) := spec_l04Reduce.l0 k l0 (([] : List Int)) 0
theorem spec_l04Reduce.calls (k : Nat) (A0 : Option Addr) (c0 : Nat) (l0 : List Int) (r : List Int) (w : World) (hr0 : Kd.C (Kd.int .i64) w A0 l0.length l0) (hc0 : l0.length ≤ c0) (h : spec_l04Reduce.f k l0 = some r) :
  Calls Try.prog 87 #[.slice A0 l0.length c0] w fun e w' => ∃ v0_ : Value, e = .returned (v0_) ∧ Kd.R (Kd.int .i64) 2 w' w.heap.size (fun _ => True) v0_ r ∧ Below w.heap.size w w' := by
 have HR0 := am_ hr0
 have HC0 := am_ hc0
 clear hr0 hc0
 have HB := am_ (Below.refl w.heap.size w)
 have H : (spec_l04Reduce.l0 k l0 (([] : List Int)) 0) = some r := h
 clear h
 obtain ⟨y174, hy174⟩ : ∃ y_ : List Int, y_ = (([] : List Int)) := ⟨_, rfl⟩
 replace H : (spec_l04Reduce.l0 k l0 y174 0) = some r := hq_ hy174 H
 have Ny174 := am_ hy174
 clear hy174
 have H' := am_ H
 clear H
 go_enter Try.func87, Try.ntmps87
 go_wp2_with (first | ((with_reducible refine gate_dst (N := 6) rfl ?_); refine Kd.R_lit (Kd.int .i64) _ 2 ?hg (N := 6) ?hd (xs := ([] : List Int)) (inner := []) (ok := fun _ => True) (okp := fun _ => True) ?hr ?hp (fun _ hk => hk) trivial (Below.refl _ _) (Nat.le_refl _) (by simp) ?_; (case hd => rfl); (case hg => rfl); (case hr => first | (go_simp; done) | (go_simp; rfl)); (case hp => exact (Reps.none _ _)); intro v175 w2 ho3 hb hg_ hnew_; clear hg_ hnew_; (first | rw [← Ny174.out] at ho3 | (simp only [Int.reduceToNat] at ho3; rw [← Ny174.out] at ho3)); have n0_ := am_ (Kd.R_lower ho3 (below_size (bb_ HB.out))); have n1_ := am_ (below_step (bb_ HB.out) hb); clear HB; revert n0_ n1_; intro HO176 HB; clear hb ho3))
 repeat (go_quiet (first | ((with_reducible refine gate_dst (N := 6) rfl ?_); refine Kd.R_lit (Kd.int .i64) _ 2 ?hg (N := 6) ?hd (xs := ([] : List Int)) (inner := []) (ok := fun _ => True) (okp := fun _ => True) ?hr ?hp (fun _ hk => hk) trivial (Below.refl _ _) (Nat.le_refl _) (by simp) ?_; (case hd => rfl); (case hg => rfl); (case hr => first | (go_simp; done) | (go_simp; rfl)); (case hp => exact (Reps.none _ _)); intro v175 w2 ho3 hb hg_ hnew_; clear hg_ hnew_; (first | rw [← Ny174.out] at ho3 | (simp only [Int.reduceToNat] at ho3; rw [← Ny174.out] at ho3)); have n0_ := am_ (Kd.R_lower ho3 (below_size (bb_ HB.out))); have n1_ := am_ (below_step (bb_ HB.out) hb); clear HB; revert n0_ n1_; intro HO176 HB; clear hb ho3)); try go_wp2_with (first | ((with_reducible refine gate_dst (N := 6) rfl ?_); refine Kd.R_lit (Kd.int .i64) _ 2 ?hg (N := 6) ?hd (xs := ([] : List Int)) (inner := []) (ok := fun _ => True) (okp := fun _ => True) ?hr ?hp (fun _ hk => hk) trivial (Below.refl _ _) (Nat.le_refl _) (by simp) ?_; (case hd => rfl); (case hg => rfl); (case hr => first | (go_simp; done) | (go_simp; rfl)); (case hp => exact (Reps.none _ _)); intro v175 w2 ho3 hb hg_ hnew_; clear hg_ hnew_; (first | rw [← Ny174.out] at ho3 | (simp only [Int.reduceToNat] at ho3; rw [← Ny174.out] at ho3)); have n0_ := am_ (Kd.R_lower ho3 (below_size (bb_ HB.out))); have n1_ := am_ (below_step (bb_ HB.out) hb); clear HB; revert n0_ n1_; intro HO176 HB; clear hb ho3)))
 go_loopg [3, 4] k (fun kq v3 v4 w' => ∃ (x3_1 : List Int) (x4_1 : Int), v4 = .int .i64 x4_1 ∧ Aside0 (spec_l04Reduce.l0 kq l0 x3_1 x4_1 = some r) ∧ Aside0 (kq ≤ k) ∧ Aside0 (Kd.R (Kd.int .i64) 2 w' w.heap.size (fun _ => True) v3 x3_1) ∧ Aside0 (Below w.heap.size w w'))
 case atStart => exact ⟨(y174), (0), (by first | rfl | (simp; done) | (simp [*]; done)), H', ⟨Nat.le_refl _⟩, ⟨rk_ HO176.out⟩, ⟨bb_ HB.out⟩⟩
 case round =>
  clear H'
  try clear p2
  obtain ⟨x3_1, x4_1, rfl, HA, HK1, HO_3, HB⟩ := hrel
  cases gk with
  | zero => exact absurd HA.out (by simp [spec_l04Reduce.l0])
  | succ k1 =>
   have H := HA.out
   clear HA
   simp only [spec_l04Reduce.l0] at H
   by_cases c4 : x4_1 < (l0.length : Int)
   ·rw [if_pos c4] at H
    have c4b0 : decide (x4_1 < (l0.length : Int)) = true := decide_eq_true c4
    clear c4
    by_cases c5 : (x3_1.length : Int) > 0
    ·rw [if_pos c5] at H
     have c5b0 : decide (0 < (x3_1.length : Int)) = true := decide_eq_true c5
     have c5b1 : decide (0 < x3_1.length) = true := decide_eq_true (by omega)
     clear c5
     obtain ⟨ji6, hji6⟩ : ∃ j_ : Int, (wrap64 ((x3_1.length : Int) - 1)) = j_ := ⟨_, rfl⟩
     replace H : (if 0 ≤ (ji6) then (if (ji6) < (x3_1.length : Int) then (if 0 ≤ x4_1 then (if (rd x3_1 (ji6)) = (wrap64 (-(rd l0 x4_1))) then (if (ji6) ≤ (x3_1.length : Int) then (spec_l04Reduce.l0 k1 l0 (x3_1.take ((ji6) : Int).toNat) (wrap64 (x4_1 + 1))) else (none)) else (if x3_1.length < 17592186044416 then (spec_l04Reduce.l0 k1 l0 (x3_1 ++ [rd l0 x4_1]) (wrap64 (x4_1 + 1))) else (none))) else (none)) else (none)) else (none)) = some r := by first | (rw [hji6] at H; exact H) | (simp only [hji6] at H ⊢; exact H)
     have hji6w : (IntKind.i64.wrap ((x3_1.length : Int) - 1)) = ji6 := (i64_w _).trans hji6
     by_cases c7 : 0 ≤ (ji6)
     ·rw [if_pos c7] at H
      have c7b0 : decide (0 ≤ (ji6)) = true := decide_eq_true c7
      clear c7
      by_cases c8 : (ji6) < (x3_1.length : Int)
      ·rw [if_pos c8] at H
       have c8b0 : decide ((ji6) < (x3_1.length : Int)) = true := decide_eq_true c8
       clear c8
       by_cases c9 : 0 ≤ x4_1
       ·rw [if_pos c9] at H
        have c9b0 : decide (0 ≤ x4_1) = true := decide_eq_true c9
        clear c9
        by_cases c10 : (rd x3_1 (ji6)) = (wrap64 (-(rd l0 x4_1)))
        ·rw [if_pos c10] at H
         have c10b0 : ((rd x3_1 (ji6)) == (wrap64 (-(rd l0 x4_1)))) = true := beq_iff_eq.mpr c10
         have c10b1 : ((rd x3_1 (ji6)) != (wrap64 (-(rd l0 x4_1)))) = false := bne_eq_false_iff_eq.mpr c10
         clear c10
         by_cases c11 : (ji6) ≤ (x3_1.length : Int)
         ·rw [if_pos c11] at H
          have c11b0 := eq_true c11
          have c11b1 : decide ((ji6) ≤ (x3_1.length : Int)) = true := decide_eq_true c11
          clear c11
          obtain ⟨y179, hy179⟩ : ∃ y_ : List Int, y_ = (x3_1.take ((ji6) : Int).toNat) := ⟨_, rfl⟩
          replace H : (spec_l04Reduce.l0 k1 l0 y179 (wrap64 (x4_1 + 1))) = some r := hq_ hy179 H
          have Ny179 := am_ hy179
          clear hy179
          have H' := am_ H
          clear H
          obtain ⟨Ao12, co12, eo12⟩ := Kd.R_slice HO_3.out
          subst eo12
          have p177 : 0 ≤ ((ji6) : Int) := da_
          have q177 : (ji6) < (x3_1.length : Int) := da_
          obtain ⟨ad177, e177, hx177_0⟩ := Kd.at_int (Kd.R_reads' HO_3.out).2.2 (ji6) p177 q177
          cases e177
          replace p177 := eq_true p177
          replace q177 := eq_true q177
          have p178 : 0 ≤ (x4_1 : Int) := da_
          have q178 : x4_1 < (l0.length : Int) := da_
          obtain ⟨ad178, e178, hx178_0⟩ := Kd.at_int HR0.out x4_1 p178 q178
          cases e178
          replace hx178_0 := ce_ HB hx178_0
          replace p178 := eq_true p178
          replace q178 := eq_true q178
          have q13 : ((ji6) : Int) ≤ ((x3_1.length : Int) : Int) := da_
          obtain ⟨i013, hi013, _, hsz13, _⟩ := info_parts info2
          have hcut13 := cut_to (P := Try.prog) 39 2 .i64 Try.underlying39 hi013 (some ad177) x3_1.length co12 (ji6) da_ q13 (Kd.R_reads' HO_3.out).2.1
          have hr13 := Kd.R_take (m := ((ji6) : Int).toNat) HO_3.out (by omega)
          have hy13 : y179.length = ((ji6) : Int).toNat := (by rw [Ny179.out, List.length_take]; omega)
          rw [← Ny179.out] at hr13
          rw [← hy13] at hr13 hcut13
          clear hy13 hi013 hsz13 HO_3
          have HO181 := am_ hr13
          clear hr13
          replace q13 := eq_true q13
          go_wp2
          repeat (go_quiet (fail); try go_wp2)
          go_roundg k1
          case measure => have := HK1.out; omega
          case rel => exact ⟨(y179), (wrap64 (x4_1 + 1)), (by first | rfl | (simp; done) | (simp [*]; done)), H', ⟨by have := HK1.out; omega⟩, ⟨rk_ HO181.out⟩, ⟨bb_ HB.out⟩⟩
         ·rw [if_neg c11] at H
          exact absurd H (by simp)
        ·rw [if_neg c10] at H
         have c10b0 : ((rd x3_1 (ji6)) == (wrap64 (-(rd l0 x4_1)))) = false := beq_eq_false_iff_ne.mpr c10
         have c10b1 : ((rd x3_1 (ji6)) != (wrap64 (-(rd l0 x4_1)))) = true := bne_iff_ne.mpr c10
         by_cases c14 : x3_1.length < 17592186044416
         ·rw [if_pos c14] at H
          have LMc14 := am_ c14
          clear c14
          obtain ⟨y183, hy183⟩ : ∃ y_ : List Int, y_ = (x3_1 ++ [rd l0 x4_1]) := ⟨_, rfl⟩
          replace H : (spec_l04Reduce.l0 k1 l0 y183 (wrap64 (x4_1 + 1))) = some r := hq_ hy183 H
          have Ny183 := am_ hy183
          clear hy183
          have H' := am_ H
          clear H
          obtain ⟨Ao15, co15, eo15⟩ := Kd.R_slice HO_3.out
          subst eo15
          have p177 : 0 ≤ ((ji6) : Int) := da_
          have q177 : (ji6) < (x3_1.length : Int) := da_
          obtain ⟨ad177, e177, hx177_0⟩ := Kd.at_int (Kd.R_reads' HO_3.out).2.2 (ji6) p177 q177
          cases e177
          replace p177 := eq_true p177
          replace q177 := eq_true q177
          have p178 : 0 ≤ (x4_1 : Int) := da_
          have q178 : x4_1 < (l0.length : Int) := da_
          obtain ⟨ad178, e178, hx178_0⟩ := Kd.at_int HR0.out x4_1 p178 q178
          cases e178
          replace hx178_0 := ce_ HB hx178_0
          replace p178 := eq_true p178
          replace q178 := eq_true q178
          have p182 : 0 ≤ (x4_1 : Int) := da_
          have q182 : x4_1 < (l0.length : Int) := da_
          obtain ⟨ad182, e182, hx182_0⟩ := Kd.at_int HR0.out x4_1 p182 q182
          obtain rfl : ad178 = ad182 := (by injection e182)
          replace hx182_0 := ce_ HB hx182_0
          replace p182 := eq_true p182
          replace q182 := eq_true q182
          go_wp2_with (first | ((with_reducible refine gate_builtin (b := .append) (xs := #[.tmp 34, .tmp 39]) rfl ?_); at_builtin; refine Kd.R_append (Kd.int .i64) (w0 := w) w.heap.size rfl (.tmp 34) (.tmp 39) 39 2 (.int .i64 0) 8 rfl Try.underlying39 info2 rfl (by decide) (by omega) (.slice (some ad177) x3_1.length co15) x3_1 (rd l0 x4_1) [.int .i64 (rd l0 x4_1)] (fun _ => True) (fun _ => False) rfl rfl ?aP (fun _ hk => hk.elim) ?aF ?aO ?aB ?aS ?aL ?_; (case aP => exact rfl); (case aB => exact (bb_ HB.out)); (case aF => exact (fun _ _ => trivial)); (case aO => exact (rk_ HO_3.out)); (case aS => exact (below_size (bb_ HB.out))); (case aL => have := LMc14.out; omega); intro v184 w16 ho hb hg hat; rw [← Ny183.out] at ho; have n0_ := am_ (hb); have n1_ := am_ (ho); clear HB HO_3; revert n0_ n1_; intro HB HO185; clear ho hb hg hat))
          repeat (go_quiet (first | ((with_reducible refine gate_builtin (b := .append) (xs := #[.tmp 34, .tmp 39]) rfl ?_); at_builtin; refine Kd.R_append (Kd.int .i64) (w0 := w) w.heap.size rfl (.tmp 34) (.tmp 39) 39 2 (.int .i64 0) 8 rfl Try.underlying39 info2 rfl (by decide) (by omega) (.slice (some ad177) x3_1.length co15) x3_1 (rd l0 x4_1) [.int .i64 (rd l0 x4_1)] (fun _ => True) (fun _ => False) rfl rfl ?aP (fun _ hk => hk.elim) ?aF ?aO ?aB ?aS ?aL ?_; (case aP => exact rfl); (case aB => exact (bb_ HB.out)); (case aF => exact (fun _ _ => trivial)); (case aO => exact (rk_ HO_3.out)); (case aS => exact (below_size (bb_ HB.out))); (case aL => have := LMc14.out; omega); intro v184 w16 ho hb hg hat; rw [← Ny183.out] at ho; have n0_ := am_ (hb); have n1_ := am_ (ho); clear HB HO_3; revert n0_ n1_; intro HB HO185; clear ho hb hg hat)); try go_wp2_with (first | ((with_reducible refine gate_builtin (b := .append) (xs := #[.tmp 34, .tmp 39]) rfl ?_); at_builtin; refine Kd.R_append (Kd.int .i64) (w0 := w) w.heap.size rfl (.tmp 34) (.tmp 39) 39 2 (.int .i64 0) 8 rfl Try.underlying39 info2 rfl (by decide) (by omega) (.slice (some ad177) x3_1.length co15) x3_1 (rd l0 x4_1) [.int .i64 (rd l0 x4_1)] (fun _ => True) (fun _ => False) rfl rfl ?aP (fun _ hk => hk.elim) ?aF ?aO ?aB ?aS ?aL ?_; (case aP => exact rfl); (case aB => exact (bb_ HB.out)); (case aF => exact (fun _ _ => trivial)); (case aO => exact (rk_ HO_3.out)); (case aS => exact (below_size (bb_ HB.out))); (case aL => have := LMc14.out; omega); intro v184 w16 ho hb hg hat; rw [← Ny183.out] at ho; have n0_ := am_ (hb); have n1_ := am_ (ho); clear HB HO_3; revert n0_ n1_; intro HB HO185; clear ho hb hg hat)))
          go_roundg k1
          case measure => have := HK1.out; omega
          case rel => exact ⟨(y183), (wrap64 (x4_1 + 1)), (by first | rfl | (simp; done) | (simp [*]; done)), H', ⟨by have := HK1.out; omega⟩, ⟨rk_ HO185.out⟩, ⟨bb_ HB.out⟩⟩
         ·rw [if_neg c14] at H
          exact absurd H (by simp)
       ·rw [if_neg c9] at H
        exact absurd H (by simp)
      ·rw [if_neg c8] at H
       exact absurd H (by simp)
     ·rw [if_neg c7] at H
      exact absurd H (by simp)
    ·rw [if_neg c5] at H
     have c5b0 : decide (0 < (x3_1.length : Int)) = false := decide_eq_false c5
     have c5b1 : decide (0 < x3_1.length) = false := decide_eq_false (by omega)
     clear c5
     by_cases c17 : 0 ≤ x4_1
     ·rw [if_pos c17] at H
      have c17b0 : decide (0 ≤ x4_1) = true := decide_eq_true c17
      clear c17
      by_cases c18 : x3_1.length < 17592186044416
      ·rw [if_pos c18] at H
       have LMc18 := am_ c18
       clear c18
       obtain ⟨y187, hy187⟩ : ∃ y_ : List Int, y_ = (x3_1 ++ [rd l0 x4_1]) := ⟨_, rfl⟩
       replace H : (spec_l04Reduce.l0 k1 l0 y187 (wrap64 (x4_1 + 1))) = some r := hq_ hy187 H
       have Ny187 := am_ hy187
       clear hy187
       have H' := am_ H
       clear H
       obtain ⟨Ao19, co19, eo19⟩ := Kd.R_slice HO_3.out
       subst eo19
       have p186 : 0 ≤ (x4_1 : Int) := da_
       have q186 : x4_1 < (l0.length : Int) := da_
       obtain ⟨ad186, e186, hx186_0⟩ := Kd.at_int HR0.out x4_1 p186 q186
       cases e186
       replace hx186_0 := ce_ HB hx186_0
       replace p186 := eq_true p186
       replace q186 := eq_true q186
       go_wp2_with (first | ((with_reducible refine gate_builtin (b := .append) (xs := #[.tmp 34, .tmp 39]) rfl ?_); at_builtin; refine Kd.R_append (Kd.int .i64) (w0 := w) w.heap.size rfl (.tmp 34) (.tmp 39) 39 2 (.int .i64 0) 8 rfl Try.underlying39 info2 rfl (by decide) (by omega) (.slice Ao19 x3_1.length co19) x3_1 (rd l0 x4_1) [.int .i64 (rd l0 x4_1)] (fun _ => True) (fun _ => False) rfl rfl ?aP (fun _ hk => hk.elim) ?aF ?aO ?aB ?aS ?aL ?_; (case aP => exact rfl); (case aB => exact (bb_ HB.out)); (case aF => exact (fun _ _ => trivial)); (case aO => exact (rk_ HO_3.out)); (case aS => exact (below_size (bb_ HB.out))); (case aL => have := LMc18.out; omega); intro v188 w20 ho hb hg hat; rw [← Ny187.out] at ho; have n0_ := am_ (hb); have n1_ := am_ (ho); clear HB HO_3; revert n0_ n1_; intro HB HO189; clear ho hb hg hat))
       repeat (go_quiet (first | ((with_reducible refine gate_builtin (b := .append) (xs := #[.tmp 34, .tmp 39]) rfl ?_); at_builtin; refine Kd.R_append (Kd.int .i64) (w0 := w) w.heap.size rfl (.tmp 34) (.tmp 39) 39 2 (.int .i64 0) 8 rfl Try.underlying39 info2 rfl (by decide) (by omega) (.slice Ao19 x3_1.length co19) x3_1 (rd l0 x4_1) [.int .i64 (rd l0 x4_1)] (fun _ => True) (fun _ => False) rfl rfl ?aP (fun _ hk => hk.elim) ?aF ?aO ?aB ?aS ?aL ?_; (case aP => exact rfl); (case aB => exact (bb_ HB.out)); (case aF => exact (fun _ _ => trivial)); (case aO => exact (rk_ HO_3.out)); (case aS => exact (below_size (bb_ HB.out))); (case aL => have := LMc18.out; omega); intro v188 w20 ho hb hg hat; rw [← Ny187.out] at ho; have n0_ := am_ (hb); have n1_ := am_ (ho); clear HB HO_3; revert n0_ n1_; intro HB HO189; clear ho hb hg hat)); try go_wp2_with (first | ((with_reducible refine gate_builtin (b := .append) (xs := #[.tmp 34, .tmp 39]) rfl ?_); at_builtin; refine Kd.R_append (Kd.int .i64) (w0 := w) w.heap.size rfl (.tmp 34) (.tmp 39) 39 2 (.int .i64 0) 8 rfl Try.underlying39 info2 rfl (by decide) (by omega) (.slice Ao19 x3_1.length co19) x3_1 (rd l0 x4_1) [.int .i64 (rd l0 x4_1)] (fun _ => True) (fun _ => False) rfl rfl ?aP (fun _ hk => hk.elim) ?aF ?aO ?aB ?aS ?aL ?_; (case aP => exact rfl); (case aB => exact (bb_ HB.out)); (case aF => exact (fun _ _ => trivial)); (case aO => exact (rk_ HO_3.out)); (case aS => exact (below_size (bb_ HB.out))); (case aL => have := LMc18.out; omega); intro v188 w20 ho hb hg hat; rw [← Ny187.out] at ho; have n0_ := am_ (hb); have n1_ := am_ (ho); clear HB HO_3; revert n0_ n1_; intro HB HO189; clear ho hb hg hat)))
       go_roundg k1
       case measure => have := HK1.out; omega
       case rel => exact ⟨(y187), (wrap64 (x4_1 + 1)), (by first | rfl | (simp; done) | (simp [*]; done)), H', ⟨by have := HK1.out; omega⟩, ⟨rk_ HO189.out⟩, ⟨bb_ HB.out⟩⟩
      ·rw [if_neg c18] at H
       exact absurd H (by simp)
     ·rw [if_neg c17] at H
      exact absurd H (by simp)
   ·rw [if_neg c4] at H
    have c4b0 : decide (x4_1 < (l0.length : Int)) = false := decide_eq_false c4
    clear c4
    obtain rfl := Option.some.inj H
    go_wp2
    repeat (go_quiet (fail); try go_wp2)
    go_ret
    exact ⟨_, er_, Rx_ HO_3.out, bb_ HB.out⟩

end Go.Proofs.Ytbcdngjajjgmkaa.PFnExactSimplifyPresentation
