/- Written by this session's program out of the kit's print and this session's contracts. -/
import Derived.Test.YtbcdngjajjgmkaaVFnExactStabilizerPresentationPx0
import Derived.Test.YtbcdngjajjgmkaaVFnExactStabilizerPresentationPx9
import Derived.Test.YtbcdngjajjgmkaaVFnExactStabilizerPresentationPx10
namespace Go.Proofs.Ytbcdngjajjgmkaa.PFnExactStabilizerPresentation
open Go.RowKit Go.Proofs.YtbcdngjajjgmkaaW.PrintWords Go.Proofs.YtbcdngjajjgmkaaW.PrintLast Go.Proofs.YtbcdngjajjgmkaaW.PrintMore
attribute [local go_sem] max2_int min2_int max_two min_two max_three min_three max_four min_four   -- for this text's walks alone
set_option linter.unusedVariables false
set_option linter.unusedSimpArgs false

/-! ### impl_isTrivial: function 81 -/
def impl_isTrivial.l0 : Nat → List (List Int) → List Int → Int → Int → Option (Bool)
  | 0, _, _, _, _ => none
  | k + 1, x1, x2, x8, x9 => if x9 < x8 then ((impl_actWord.f k x1 x2 x9).bind fun t299 => (if t299 = x9 then (impl_isTrivial.l0 k x1 x2 x8 (wrap64 (x9 + 1))) else (some false))) else (some true)
def impl_isTrivial.f (k : Nat) (a0 : Int) (l1 : List (List Int)) (l2 : List Int) : Option (Bool) := impl_isTrivial.l0 k l1 l2 a0 0
theorem impl_isTrivial.mono_l : ∀ k, (∀ y0 y1 y2 y3, LeO (impl_isTrivial.l0 k y0 y1 y2 y3) (impl_isTrivial.l0 (k + 1) y0 y1 y2 y3))
  | 0 => fun _ _ _ _ r h => by simp [impl_isTrivial.l0] at h
  | k + 1 => by
    have ih0 := impl_isTrivial.mono_l k
    · intro y0 y1 y2 y3
      unfold impl_isTrivial.l0
      repeat' first
      | (with_reducible exact ih0 _ _ _ _)
      | (with_reducible exact impl_actWord.mono _ _ _ _)
      | (with_reducible exact LeO.refl _)
      | (with_reducible exact LeO.none _)
      | (with_reducible refine LeO.ite ?_ ?_)
      | (with_reducible refine LeO.bind ?_ (fun _ => ?_))
      | exact ih0 _ _ _ _
      | exact impl_actWord.mono _ _ _ _
      | exact LeO.none _
      | refine LeO.ite ?_ ?_
      | refine LeO.bind ?_ (fun _ => ?_)
theorem impl_isTrivial.mono : ∀ a0 a1 a2 k, LeO (impl_isTrivial.f k a0 a1 a2) (impl_isTrivial.f (k + 1) a0 a1 a2) := by
  intro a0 a1 a2 k
  have ih0 := impl_isTrivial.mono_l k
  unfold impl_isTrivial.f
  repeat' first
      | (with_reducible exact ih0 _ _ _ _)
      | (with_reducible exact impl_actWord.mono _ _ _ _)
      | (with_reducible exact LeO.refl _)
      | (with_reducible exact LeO.none _)
      | (with_reducible refine LeO.ite ?_ ?_)
      | (with_reducible refine LeO.bind ?_ (fun _ => ?_))
      | exact ih0 _ _ _ _
      | exact impl_actWord.mono _ _ _ _
      | exact LeO.none _
      | refine LeO.ite ?_ ?_
      | refine LeO.bind ?_ (fun _ => ?_)
set_option maxHeartbeats 8000000 in
set_option maxRecDepth 100000 in
theorem impl_isTrivial.calls (k : Nat) (a0 : Int) (A1 : Option Addr) (c1 : Nat) (l1 : List (List Int)) (A2 : Option Addr) (c2 : Nat) (l2 : List Int) (r : Bool) (w : World) (hr1 : Kd.C (Kd.slice 2 (Kd.int .i64)) w A1 l1.length l1) (hc1 : l1.length ≤ c1) (hr2 : Kd.C (Kd.int .i64) w A2 l2.length l2) (hc2 : l2.length ≤ c2) (h : impl_isTrivial.f k a0 l1 l2 = some r) :
    Calls Try.prog 81 #[.int .i64 a0, .slice A1 l1.length c1, .slice A2 l2.length c2] w fun e w' => e = .returned (.bool r) ∧ Drawn0 w w' := by
  have HR1 := Aside0.mk hr1
  have HC1 := Aside0.mk hc1
  clear hr1 hc1
  have HR2 := Aside0.mk hr2
  have HC2 := Aside0.mk hc2
  clear hr2 hc2
  have H : (impl_isTrivial.l0 k l1 l2 a0 0) = some r := h
  clear h
  have H' := Aside0.mk H
  clear H
  go_enter Try.func81, Try.ntmps81
  go_wp2
  go_loopg [9] k (fun kq v9 w' => ∃ (x9_1 : Int), v9 = .int .i64 x9_1 ∧ Aside0 (impl_isTrivial.l0 kq l1 l2 a0 x9_1 = some r) ∧ Aside0 (kq ≤ k) ∧ Drawn0 w w')
  case atStart => exact ⟨(0), (by first | rfl | (simp; done) | (simp [*]; done)), H', ⟨Nat.le_refl _⟩, by repeat (first | exact Drawn0.refl _ | apply Drawn0.step)⟩
  case round =>
    clear H'
    try clear c1
    try clear c2
    try clear p2
    obtain ⟨x9_1, rfl, HA, HK1, ⟨m1, rfl⟩⟩ := hrel
    cases gk with
    | zero => exact absurd HA.out (by simp [impl_isTrivial.l0])
    | succ k1 =>
      have H := HA.out
      clear HA
      simp only [impl_isTrivial.l0] at H
      by_cases c4 : x9_1 < a0
      · rw [if_pos c4] at H
        have c4b0 : decide (x9_1 < a0) = true := decide_eq_true c4
        clear c4
        replace H := Option.bind_eq_some_iff.mp H
        obtain ⟨t299, A50, H⟩ := H
        replace H : (if t299 = x9_1 then (impl_isTrivial.l0 k1 l1 l2 a0 (wrap64 (x9_1 + 1))) else (some false)) = some r := H
        have A5 := Aside0.mk A50
        clear A50
        by_cases c6 : t299 = x9_1
        · rw [if_pos c6] at H
          have c6b0 : (t299 == x9_1) = true := beq_iff_eq.mpr c6
          have c6b1 : (t299 != x9_1) = false := bne_eq_false_iff_eq.mpr c6
          clear c6
          have H' := Aside0.mk H
          clear H
          go_wp2_with (first | ((with_reducible refine gate_callee (f := 112) rfl ?_); refine goesL_ (some 15) rfl rfl Try.func112 (by kernel_rfl) rfl #[.slice A1 l1.length c1, .slice A2 l2.length c2, .int .i64 x9_1] rfl (by (try simp only [List.map_toArray, List.map_cons, List.map_nil]); first | done | rfl | (simp only [List.length_drop, List.length_take]; rfl)) ?_; (with_reducible refine (impl_actWord.calls k1 _ _ l1 _ _ l2 x9_1 t299 _ ?side1 ?side2 ?side3 ?side4 A5.out).mono ?_); (case side1 => repeat (first | exact HR1.out | (with_reducible refine Kd.C_alloc ?_ _) | (with_reducible refine Kd.C_drewN ?_ _) | (with_reducible refine Kd.C_drew ?_))); (case side2 => exact HC1.out); (case side3 => repeat (first | exact HR2.out | (with_reducible refine Kd.C_alloc ?_ _) | (with_reducible refine Kd.C_drewN ?_ _) | (with_reducible refine Kd.C_drew ?_))); (case side4 => exact HC2.out); rintro e w' ⟨rfl, ⟨nd, rfl⟩⟩; refine ⟨_, rfl, ?_⟩))
          go_roundg k1
          case measure => have := HK1.out; omega
          case rel => exact ⟨(wrap64 (x9_1 + 1)), (by first | rfl | (simp; done) | (simp [*]; done)), H', ⟨by have := HK1.out; omega⟩, by repeat (first | exact Drawn0.refl _ | apply Drawn0.step)⟩
        · rw [if_neg c6] at H
          have c6b0 : (t299 == x9_1) = false := beq_eq_false_iff_ne.mpr c6
          have c6b1 : (t299 != x9_1) = true := bne_iff_ne.mpr c6
          obtain rfl := Option.some.inj H
          go_wp2_with (first | ((with_reducible refine gate_callee (f := 112) rfl ?_); refine goesL_ (some 15) rfl rfl Try.func112 (by kernel_rfl) rfl #[.slice A1 l1.length c1, .slice A2 l2.length c2, .int .i64 x9_1] rfl (by (try simp only [List.map_toArray, List.map_cons, List.map_nil]); first | done | rfl | (simp only [List.length_drop, List.length_take]; rfl)) ?_; (with_reducible refine (impl_actWord.calls k1 _ _ l1 _ _ l2 x9_1 t299 _ ?side1 ?side2 ?side3 ?side4 A5.out).mono ?_); (case side1 => repeat (first | exact HR1.out | (with_reducible refine Kd.C_alloc ?_ _) | (with_reducible refine Kd.C_drewN ?_ _) | (with_reducible refine Kd.C_drew ?_))); (case side2 => exact HC1.out); (case side3 => repeat (first | exact HR2.out | (with_reducible refine Kd.C_alloc ?_ _) | (with_reducible refine Kd.C_drewN ?_ _) | (with_reducible refine Kd.C_drew ?_))); (case side4 => exact HC2.out); rintro e w' ⟨rfl, ⟨nd, rfl⟩⟩; refine ⟨_, rfl, ?_⟩))
          go_ret
          exact ⟨by first | rfl | (simp; done) | (simp [*]; done), by repeat (first | exact Drawn0.refl _ | apply Drawn0.step)⟩
      · rw [if_neg c4] at H
        have c4b0 : decide (x9_1 < a0) = false := decide_eq_false c4
        clear c4
        obtain rfl := Option.some.inj H
        go_wp2
        go_ret
        exact ⟨by first | rfl | (simp; done) | (simp [*]; done), by repeat (first | exact Drawn0.refl _ | apply Drawn0.step)⟩

/-! ### impl_size_int64_82: function 82 -/
def impl_size_int64_82.f (l0 : List (List Int)) : Option (Int) := some (l0.length : Int)
set_option maxHeartbeats 8000000 in
set_option maxRecDepth 100000 in
theorem impl_size_int64_82.calls (A0 : Option Addr) (c0 : Nat) (l0 : List (List Int)) (r : Int) (w : World) (hr0 : Kd.C (Kd.slice 2 (Kd.int .i64)) w A0 l0.length l0) (hc0 : l0.length ≤ c0) (h : impl_size_int64_82.f l0 = some r) :
    Calls Try.prog 82 #[.slice A0 l0.length c0] w fun e w' => e = .returned (.int .i64 r) ∧ Drawn0 w w' := by
  have HR0 := Aside0.mk hr0
  have HC0 := Aside0.mk hc0
  clear hr0 hc0
  have H : (some (l0.length : Int)) = some r := h
  clear h
  obtain rfl := Option.some.inj H
  go_enter Try.func82, Try.ntmps82
  go_wp2
  go_ret
  exact ⟨by first | rfl | (simp; done) | (simp [*]; done), by repeat (first | exact Drawn0.refl _ | apply Drawn0.step)⟩

/-! ### impl_size_int64_110: function 110 -/
def impl_size_int64_110.f (l0 : List Int) : Option (Int) := some (l0.length : Int)
set_option maxHeartbeats 8000000 in
set_option maxRecDepth 100000 in
theorem impl_size_int64_110.calls (A0 : Option Addr) (c0 : Nat) (l0 : List Int) (r : Int) (w : World) (hr0 : Kd.C (Kd.int .i64) w A0 l0.length l0) (hc0 : l0.length ≤ c0) (h : impl_size_int64_110.f l0 = some r) :
    Calls Try.prog 110 #[.slice A0 l0.length c0] w fun e w' => e = .returned (.int .i64 r) ∧ Drawn0 w w' := by
  have HR0 := Aside0.mk hr0
  have HC0 := Aside0.mk hc0
  clear hr0 hc0
  have H : (some (l0.length : Int)) = some r := h
  clear h
  obtain rfl := Option.some.inj H
  go_enter Try.func110, Try.ntmps110
  go_wp2
  go_ret
  exact ⟨by first | rfl | (simp; done) | (simp [*]; done), by repeat (first | exact Drawn0.refl _ | apply Drawn0.step)⟩

/-! ### impl_isPermutation: function 115 -/
def impl_isPermutation.l0 : Nat → List Int → Int → List Bool → List Int → Int → Int → Option (Bool)
 | 0, _, _, _, _, _, _ => none
 | k + 1, x0, x1, x5, x10, x11, x12 => if x12 < x11 then (if 0 ≤ x12 then (if x12 < (x10.length : Int) then ((impl_inRange.f (rd x10 x12) 0 (wrap64 (x1 - 1))).bind fun t304 => (if t304 = true then (if 0 ≤ (rd x10 x12) then (if (rd x10 x12) < (x5.length : Int) then (if rdOf false x5 (rd x10 x12) = true then (some false) else (impl_isPermutation.l0 k x0 x1 (x5.set ((rd x10 x12) : Int).toNat true) x10 x11 (wrap64 (x12 + 1)))) else (none)) else (none)) else (some false))) else (none)) else (none)) else ((impl_size_int64_110.f x0).bind fun t307 => (some (t307 == x1)))
def impl_isPermutation.f (k : Nat) (l0 : List Int) (a1 : Int) : Option (Bool) := if 0 ≤ a1 then (if (a1 : Int).toNat ≤ 281474976710656 then (impl_isPermutation.l0 k l0 a1 (List.replicate (a1 : Int).toNat false) l0 (l0.length : Int) 0) else (none)) else (none)
theorem impl_isPermutation.mono_l : ∀ k, (∀ y0 y1 y2 y3 y4 y5, LeO (impl_isPermutation.l0 k y0 y1 y2 y3 y4 y5) (impl_isPermutation.l0 (k + 1) y0 y1 y2 y3 y4 y5))
 | 0 => fun _ _ _ _ _ _ r h => by simp [impl_isPermutation.l0] at h
 | k + 1 => by
  have ih0 := impl_isPermutation.mono_l k
  ·intro y0 y1 y2 y3 y4 y5
   unfold impl_isPermutation.l0
   repeat' first
   | (with_reducible exact ih0 _ _ _ _ _ _)
   | (with_reducible exact LeO.refl _)
   | (with_reducible exact LeO.none _)
   | (with_reducible refine LeO.ite ?_ ?_)
   | (with_reducible refine LeO.bind ?_ (fun _ => ?_))
   | exact ih0 _ _ _ _ _ _
   | exact LeO.none _
   | refine LeO.ite ?_ ?_
   | refine LeO.bind ?_ (fun _ => ?_)
theorem impl_isPermutation.mono : ∀ a0 a1 k, LeO (impl_isPermutation.f k a0 a1) (impl_isPermutation.f (k + 1) a0 a1) := by
 intro a0 a1 k
 have ih0 := impl_isPermutation.mono_l k
 unfold impl_isPermutation.f
 repeat' first
   | (with_reducible exact ih0 _ _ _ _ _ _)
   | (with_reducible exact LeO.refl _)
   | (with_reducible exact LeO.none _)
   | (with_reducible refine LeO.ite ?_ ?_)
   | (with_reducible refine LeO.bind ?_ (fun _ => ?_))
   | exact ih0 _ _ _ _ _ _
   | exact LeO.none _
   | refine LeO.ite ?_ ?_
   | refine LeO.bind ?_ (fun _ => ?_)
set_option maxHeartbeats 8000000 in
set_option maxRecDepth 100000 in
theorem impl_isPermutation.calls (k : Nat) (A0 : Option Addr) (c0 : Nat) (l0 : List Int) (a1 : Int) (r : Bool) (w : World) (hr0 : Kd.C (Kd.int .i64) w A0 l0.length l0) (hc0 : l0.length ≤ c0) (h : impl_isPermutation.f k l0 a1 = some r) :
  Calls Try.prog 115 #[.slice A0 l0.length c0, .int .i64 a1] w fun e w' => e = .returned (.bool r) ∧ Below w.heap.size w w' := by
 have HR0 := am_ hr0
 have HC0 := am_ hc0
 clear hr0 hc0
 have HB := am_ (Below.refl w.heap.size w)
 have H : (if 0 ≤ a1 then (if (a1 : Int).toNat ≤ 281474976710656 then (impl_isPermutation.l0 k l0 a1 (List.replicate (a1 : Int).toNat false) l0 (l0.length : Int) 0) else (none)) else (none)) = some r := h
 clear h
 by_cases c3 : 0 ≤ a1
 ·rw [if_pos c3] at H
  have c3b0 := eq_true c3
  have c3b1 : decide (0 ≤ a1) = true := decide_eq_true c3
  clear c3
  by_cases c4 : (a1 : Int).toNat ≤ 281474976710656
  ·rw [if_pos c4] at H
   have c4b0 := eq_true c4
   have c4b1 : decide ((a1 : Int).toNat ≤ 281474976710656) = true := decide_eq_true c4
   clear c4
   obtain ⟨y300, hy300⟩ : ∃ y_ : List Bool, y_ = (List.replicate (a1 : Int).toNat false) := ⟨_, rfl⟩
   replace H : (impl_isPermutation.l0 k l0 a1 y300 l0 (l0.length : Int) 0) = some r := by first | (rw [hy300]; with_reducible exact H) | (have H2_ := (Option.bind_some _ _).symm.trans H; rw [hy300]; with_reducible exact H2_) | (have H2_ := (Option.bind_some _ _).symm.trans H; with_reducible exact H2_) | with_reducible exact H | (rw [hy300]; exact H) | exact H
   have Ny300 := am_ hy300
   clear hy300
   have H' := am_ H
   clear H
   go_enter Try.func115, Try.ntmps115
   go_wp2_with (first | ((with_reducible refine gate_dst (N := 9) rfl ?_); refine Kd.R_make Kd.bool _ 4 rfl (N := 9) rfl 93 _ _ rfl a1 rfl rfl Try.underlying93 (.bool false) 1 info4 rfl (by decide) (by omega) false (ok := fun _ => True) (okp := fun _ => True) rfl (fun _ hk => hk) trivial (of_decide_eq_true (by first | (with_reducible assumption) | assumption)) (Nat.le_trans (Nat.mul_le_mul_right _ (of_decide_eq_true (by first | (with_reducible assumption) | assumption) : a1.toNat ≤ 281474976710656)) (by omega)) (Below.refl _ _) (Nat.le_refl _) ?_; intro v301 w5 ho6 hb hg_ hnew_; clear hg_ hnew_; (first | rw [← Ny300.out] at ho6 | (simp only [Int.reduceToNat] at ho6; rw [← Ny300.out] at ho6)); have n0_ := am_ (Kd.R_lower ho6 (below_size (bb_ HB.out))); have n1_ := am_ (below_step (bb_ HB.out) hb); clear HB; revert n0_ n1_; intro HO302 HB; clear hb ho6))
   go_loopg [12] k (fun kq v12 w' => ∃ (x5_1 : List Bool) (x12_1 : Int), v12 = .int .i64 x12_1 ∧ Aside0 (impl_isPermutation.l0 kq l0 a1 x5_1 l0 (l0.length : Int) x12_1 = some r) ∧ Aside0 (kq ≤ k) ∧ Aside0 (Kd.R Kd.bool 4 w' w.heap.size (fun _ => True) v301 x5_1) ∧ Aside0 (Below w.heap.size w w'))
   case atStart => exact ⟨(y300), (0), (by first | rfl | (simp; done) | (simp [*]; done)), H', ⟨Nat.le_refl _⟩, ⟨rk_ HO302.out⟩, ⟨bb_ HB.out⟩⟩
   case round =>
    clear H'
    try clear c1
    try clear p2
    try clear c3
    try clear c3b0
    try clear c3b1
    try clear c4
    try clear c4b0
    try clear c4b1
    obtain ⟨x5_1, x12_1, rfl, HA, HK1, HO_5, HB⟩ := hrel
    cases gk with
    | zero => exact absurd HA.out (by simp [impl_isPermutation.l0])
    | succ k1 =>
     have H := HA.out
     clear HA
     simp only [impl_isPermutation.l0] at H
     by_cases c7 : x12_1 < (l0.length : Int)
     ·rw [if_pos c7] at H
      have c7b0 : decide (x12_1 < (l0.length : Int)) = true := decide_eq_true c7
      clear c7
      by_cases c8 : 0 ≤ x12_1
      ·rw [if_pos c8] at H
       have c8b0 : decide (0 ≤ x12_1) = true := decide_eq_true c8
       clear c8
       by_cases c9 : x12_1 < (l0.length : Int)
       ·rw [if_pos c9] at H
        have c9b0 : decide (x12_1 < (l0.length : Int)) = true := decide_eq_true c9
        clear c9
        replace H := Option.bind_eq_some_iff.mp H
        obtain ⟨t304, A100, H⟩ := H
        replace H : (if t304 = true then (if 0 ≤ (rd l0 x12_1) then (if (rd l0 x12_1) < (x5_1.length : Int) then (if rdOf false x5_1 (rd l0 x12_1) = true then (some false) else (impl_isPermutation.l0 k1 l0 a1 (x5_1.set ((rd l0 x12_1) : Int).toNat true) l0 (l0.length : Int) (wrap64 (x12_1 + 1)))) else (none)) else (none)) else (some false)) = some r := H
        have A10 := am_ A100
        clear A100
        by_cases c11 : t304 = true
        ·subst c11
         have H1 : (if 0 ≤ (rd l0 x12_1) then (if (rd l0 x12_1) < (x5_1.length : Int) then (if rdOf false x5_1 (rd l0 x12_1) = true then (some false) else (impl_isPermutation.l0 k1 l0 a1 (x5_1.set ((rd l0 x12_1) : Int).toNat true) l0 (l0.length : Int) (wrap64 (x12_1 + 1)))) else (none)) else (none)) = some r := by rw [if_pos rfl] at H; exact H
         clear H
         have H := H1
         clear H1
         by_cases c12 : 0 ≤ (rd l0 x12_1)
         ·rw [if_pos c12] at H
          have c12b0 : decide (0 ≤ (rd l0 x12_1)) = true := decide_eq_true c12
          clear c12
          by_cases c13 : (rd l0 x12_1) < (x5_1.length : Int)
          ·rw [if_pos c13] at H
           have c13b0 : decide ((rd l0 x12_1) < (x5_1.length : Int)) = true := decide_eq_true c13
           clear c13
           obtain ⟨bq14, hbq14⟩ : ∃ b_ : Bool, b_ = (rdOf false x5_1 (rd l0 x12_1)) := ⟨_, rfl⟩
           replace H : (if bq14 = true then (some false) else (impl_isPermutation.l0 k1 l0 a1 (x5_1.set ((rd l0 x12_1) : Int).toNat true) l0 (l0.length : Int) (wrap64 (x12_1 + 1)))) = some r := by rw [← hbq14] at H; exact H
           have Nbq14 := am_ hbq14
           clear hbq14
           by_cases c15 : bq14 = true
           ·subst c15
            have H1 : (some false) = some r := by rw [if_pos rfl] at H; exact H
            clear H
            have H := H1
            clear H1
            obtain rfl := Option.some.inj H
            have p303 : 0 ≤ (x12_1 : Int) := of_decide_eq_true (by first | (with_reducible assumption) | assumption)
            have q303 : x12_1 < (l0.length : Int) := of_decide_eq_true (by first | (with_reducible assumption) | assumption)
            obtain ⟨ad303, e303, hx303_0⟩ := Kd.at_int HR0.out x12_1 p303 q303
            cases e303
            replace hx303_0 := (HB.out.cell (World.block_lt_of_cell? w _ hx303_0)).trans hx303_0
            replace p303 := eq_true p303
            replace q303 := eq_true q303
            go_wp2_with (first | ((with_reducible refine gate_callee (f := 64) rfl ?_); refine goesL_ (some 19) rfl rfl Try.func64 (by kernel_rfl) rfl #[.int .i64 (rd l0 x12_1), .int .i64 0, .int .i64 (wrap64 (a1 - 1))] rfl lm_ ?_; (with_reducible refine (impl_inRange.calls (rd l0 x12_1) 0 (wrap64 (a1 - 1)) true _ A10.out).mono ?_); rintro e w' ⟨rfl, ⟨nd, rfl⟩⟩; refine ⟨_, rfl, ?_⟩; obtain ⟨Ao16, co16, eo16⟩ := Kd.R_slice HO_5.out; subst eo16; have p305 : 0 ≤ ((rd l0 x12_1) : Int) := of_decide_eq_true (by first | (with_reducible assumption) | assumption); have q305 : (rd l0 x12_1) < (x5_1.length : Int) := of_decide_eq_true (by first | (with_reducible assumption) | assumption); obtain ⟨ad305, e305, hx305_0⟩ := Kd.at_bool (Kd.R_reads' HO_5.out).2.2 (rd l0 x12_1) p305 q305; (try rw [← Nbq14.out] at hx305_0); cases e305; replace p305 := eq_true p305; replace q305 := eq_true q305))
            go_ret
            exact ⟨by first | rfl | (simp [errW_none, errW_some] <;> rfl) | (simp [*, errW_none, errW_some] <;> rfl), bb_ HB.out⟩
           ·replace c15 := Bool.eq_false_iff.mpr c15
            subst c15
            have H1 : (impl_isPermutation.l0 k1 l0 a1 (x5_1.set ((rd l0 x12_1) : Int).toNat true) l0 (l0.length : Int) (wrap64 (x12_1 + 1))) = some r := by rw [if_neg (show ¬ (false = true) by decide)] at H; exact H
            clear H
            have H := H1
            clear H1
            obtain ⟨y306, hy306⟩ : ∃ y_ : List Bool, y_ = (x5_1.set ((rd l0 x12_1) : Int).toNat true) := ⟨_, rfl⟩
            replace H : (impl_isPermutation.l0 k1 l0 a1 y306 l0 (l0.length : Int) (wrap64 (x12_1 + 1))) = some r := by first | (rw [hy306]; with_reducible exact H) | (have H2_ := (Option.bind_some _ _).symm.trans H; rw [hy306]; with_reducible exact H2_) | (have H2_ := (Option.bind_some _ _).symm.trans H; with_reducible exact H2_) | with_reducible exact H | (rw [hy306]; exact H) | exact H
            have Ny306 := am_ hy306
            clear hy306
            have H' := am_ H
            clear H
            have p303 : 0 ≤ (x12_1 : Int) := of_decide_eq_true (by first | (with_reducible assumption) | assumption)
            have q303 : x12_1 < (l0.length : Int) := of_decide_eq_true (by first | (with_reducible assumption) | assumption)
            obtain ⟨ad303, e303, hx303_0⟩ := Kd.at_int HR0.out x12_1 p303 q303
            cases e303
            replace hx303_0 := (HB.out.cell (World.block_lt_of_cell? w _ hx303_0)).trans hx303_0
            replace p303 := eq_true p303
            replace q303 := eq_true q303
            go_wp2_with (first | ((with_reducible refine gate_callee (f := 64) rfl ?_); refine goesL_ (some 19) rfl rfl Try.func64 (by kernel_rfl) rfl #[.int .i64 (rd l0 x12_1), .int .i64 0, .int .i64 (wrap64 (a1 - 1))] rfl lm_ ?_; (with_reducible refine (impl_inRange.calls (rd l0 x12_1) 0 (wrap64 (a1 - 1)) true _ A10.out).mono ?_); rintro e w' ⟨rfl, ⟨nd, rfl⟩⟩; refine ⟨_, rfl, ?_⟩; (try (rw [drewN_self wr]; generalize hq_ : World.drewN wr _ = wr; have n0_ : Aside0 (Kd.R Kd.bool 4 wr w.heap.size (fun _ => True) v301 x5_1) := ⟨by rw [← hq_]; exact (rk_ HO_5.out)⟩; have n1_ : Aside0 (Below w.heap.size w wr) := ⟨by rw [← hq_]; exact (bb_ HB.out)⟩; clear HO_5 HB hq_; have HO_5 := n0_; have HB := n1_; clear n0_ n1_)); obtain ⟨Ao18, co18, eo18⟩ := Kd.R_slice HO_5.out; subst eo18; have p305 : 0 ≤ ((rd l0 x12_1) : Int) := of_decide_eq_true (by first | (with_reducible assumption) | assumption); have q305 : (rd l0 x12_1) < (x5_1.length : Int) := of_decide_eq_true (by first | (with_reducible assumption) | assumption); obtain ⟨ad305, e305, hx305_0⟩ := Kd.at_bool (Kd.R_reads' HO_5.out).2.2 (rd l0 x12_1) p305 q305; (try rw [← Nbq14.out] at hx305_0); cases e305; replace p305 := eq_true p305; replace q305 := eq_true q305; have p17 : 0 ≤ ((rd l0 x12_1) : Int) := of_decide_eq_true (by first | (with_reducible assumption) | assumption); have q17 : ((rd l0 x12_1) : Int) < ((x5_1.length : Int) : Int) := of_decide_eq_true (by first | (with_reducible assumption) | assumption); obtain ⟨go17, co17, eo17, gb17, gl17, cl17, HG17⟩ := Kd.R_form HO_5.out (by omega); (first | cases eo17 | (injection eo17 with ea_ en_ ec_; (first | subst ea_ | (injection ea_ with ea_; subst ea_)); subst ec_; clear en_)); have GB17 := am_ gb17; have GG17 := am_ HG17; clear gb17 gl17 HG17; (first | simp only [add_plain] at hx305_0 | skip); obtain ⟨hx17_0, hf17_0⟩ := Kd.R_celln false HO_5.out ((rd l0 x12_1) : Int) p17 q17; replace p17 := eq_true p17; replace q17 := eq_true q17; obtain ⟨hy19_, hz19_⟩ := Kd.R_celln false HO_5.out ((rd l0 x12_1) : Int) (of_decide_eq_true (by first | (with_reducible assumption) | assumption)) (of_decide_eq_true (by first | (with_reducible assumption) | assumption)); have HP19 := Kd.R_putg HO_5.out ((rd l0 x12_1) : Int) true) | ((with_reducible refine gate_store (t := 4) (p := 29) rfl ?_); refine store_event (t := 4) (p := 29) (v := ?vo_w20) (w1 := (wr.setCell ⟨go17, ((rd l0 x12_1) : Int).toNat, none⟩ (.bool true))) ?hg ?ho ?hn ?hr ?_; (case ho => rfl); (case hg => rfl); (case hn => rfl); (case hr => first | (go_simp; done) | (go_simp; rfl)); intro w20 hw; have hg : wr.grownBy w20 (some go17) := (by rw [hw]; exact HP19.2); have hp_ : Kd.R Kd.bool 4 w20 w.heap.size (fun _ => True) (.slice (some ⟨go17, 0, none⟩) x5_1.length co18) y306 := (by rw [hw, Ny306.out]; exact HP19.1); clear HP19; have n0_ := am_ (hp_); have n1_ := am_ ((by rw [hw]; exact below_set (HB.out) GB17.out : Below w.heap.size w w20)); clear HO_5 HB; revert n0_ n1_; intro HO_5 HB; clear hg hw hp_))
            go_roundg k1
            case measure => have := HK1.out; omega
            case rel => exact ⟨(y306), (wrap64 (x12_1 + 1)), (by first | rfl | (simp; done) | (simp [*]; done)), H', ⟨by have := HK1.out; omega⟩, ⟨rk_ HO_5.out⟩, ⟨bb_ HB.out⟩⟩
          ·rw [if_neg c13] at H
           exact absurd H (by simp)
         ·rw [if_neg c12] at H
          exact absurd H (by simp)
        ·replace c11 := Bool.eq_false_iff.mpr c11
         subst c11
         have H1 : (some false) = some r := by rw [if_neg (show ¬ (false = true) by decide)] at H; exact H
         clear H
         have H := H1
         clear H1
         obtain rfl := Option.some.inj H
         have p303 : 0 ≤ (x12_1 : Int) := of_decide_eq_true (by first | (with_reducible assumption) | assumption)
         have q303 : x12_1 < (l0.length : Int) := of_decide_eq_true (by first | (with_reducible assumption) | assumption)
         obtain ⟨ad303, e303, hx303_0⟩ := Kd.at_int HR0.out x12_1 p303 q303
         cases e303
         replace hx303_0 := (HB.out.cell (World.block_lt_of_cell? w _ hx303_0)).trans hx303_0
         replace p303 := eq_true p303
         replace q303 := eq_true q303
         go_wp2_with (first | ((with_reducible refine gate_callee (f := 64) rfl ?_); refine goesL_ (some 19) rfl rfl Try.func64 (by kernel_rfl) rfl #[.int .i64 (rd l0 x12_1), .int .i64 0, .int .i64 (wrap64 (a1 - 1))] rfl lm_ ?_; (with_reducible refine (impl_inRange.calls (rd l0 x12_1) 0 (wrap64 (a1 - 1)) false _ A10.out).mono ?_); rintro e w' ⟨rfl, ⟨nd, rfl⟩⟩; refine ⟨_, rfl, ?_⟩))
         go_ret
         exact ⟨by first | rfl | (simp [errW_none, errW_some] <;> rfl) | (simp [*, errW_none, errW_some] <;> rfl), bb_ HB.out⟩
       ·rw [if_neg c9] at H
        exact absurd H (by simp)
      ·rw [if_neg c8] at H
       exact absurd H (by simp)
     ·rw [if_neg c7] at H
      have c7b0 : decide (x12_1 < (l0.length : Int)) = false := decide_eq_false c7
      clear c7
      replace H := Option.bind_eq_some_iff.mp H
      obtain ⟨t307, A210, H⟩ := H
      replace H : (some (t307 == a1)) = some r := H
      have A21 := am_ A210
      clear A210
      obtain rfl := Option.some.inj H
      go_wp2_with (first | ((with_reducible refine gate_callee (f := 110) rfl ?_); refine goesL_ (some 32) rfl rfl Try.func110 (by kernel_rfl) rfl #[.slice A0 l0.length c0] rfl lm_ ?_; (with_reducible refine (impl_size_int64_110.calls _ _ l0 t307 _ ?side1 ?side2 A21.out).mono ?_); (case side1 => repeat (first | exact (Kd.C_below HR0.out HB.out) | (with_reducible refine Kd.C_alloc ?_ _) | (with_reducible refine Kd.C_drewN ?_ _) | (with_reducible refine Kd.C_drew ?_))); (case side2 => exact HC0.out); rintro e w' ⟨rfl, ⟨nd, rfl⟩⟩; refine ⟨_, rfl, ?_⟩))
      go_ret
      exact ⟨by first | rfl | (simp [errW_none, errW_some] <;> rfl) | (simp [*, errW_none, errW_some] <;> rfl), bb_ HB.out⟩
  ·rw [if_neg c4] at H
   exact absurd H (by simp)
 ·rw [if_neg c3] at H
  exact absurd H (by simp)

/-! ### impl_arePermutations: function 88 -/
def impl_arePermutations.q (k : Nat) (n : Int) (x : List Int) : Option Bool := (impl_isPermutation.f k x n).bind fun b => some (!b)
def impl_arePermutations.f (k : Nat) (a0 : Int) (l1 : List (List Int)) : Option Bool :=
  if 1 ≤ a0 ∧ a0 ≤ 4 then (anyO (impl_arePermutations.q k a0) l1).bind fun b => some (!b) else some false
theorem impl_arePermutations.mono : ∀ a0 l1 k, LeO (impl_arePermutations.f k a0 l1) (impl_arePermutations.f (k + 1) a0 l1) := by
  intro a l k
  unfold impl_arePermutations.f
  exact LeO.ite (LeO.bind (anyO_le (fun x => LeO.bind (impl_isPermutation.mono x a k) fun _ => LeO.refl _) l) fun _ => LeO.refl _) (LeO.refl _)
set_option maxHeartbeats 8000000 in
set_option maxRecDepth 100000 in
theorem arePermutations_lit (k : Nat) (A : Option Addr) (c : Nat) (x : List Int) (g : Int) (b : Bool) (B : Nat) (w : World) (hc : w.cell? ⟨B, 0, none⟩ = some (.int .i64 g)) (hr : Kd.C (Kd.int .i64) w A x.length x) (hl : x.length ≤ c)
    (h : impl_arePermutations.q k g x = some b) :
    Calls Try.prog 114 #[.slice A x.length c, .pointer (some ⟨B, 0, none⟩)] w fun e w' => e = .returned (.bool b) ∧ Below w.heap.size w w' := by
  obtain ⟨b1, h1, h2⟩ := Option.bind_eq_some_iff.mp h
  obtain rfl : (!b1) = b := Option.some.inj h2
  have hC := impl_isPermutation.calls k A c x g b1 w hr hl h1
  clear h h1 h2 hr hl
  go_enter Try.func114, Try.ntmps114
  go_wp2_with (go_at_call 115; (with_reducible refine hC.mono ?_); rintro e w' ⟨rfl, hb'⟩)
  go_ret
  exact ⟨rfl, hb'⟩
theorem inRange_quiet2 (x a b : Int) (w : World) : Calls Try.prog 64 #[.int .i64 x, .int .i64 a, .int .i64 b] w fun e w' => e = .returned (.bool (decide (a ≤ x) && decide (x ≤ b))) ∧ Drawn0 w w' := by
  refine impl_inRange.calls x a b _ w ?_
  unfold impl_inRange.f
  by_cases h : a ≤ x <;> simp [h]
set_option maxHeartbeats 8000000 in
set_option maxRecDepth 100000 in
theorem impl_arePermutations.calls (k : Nat) (a0 : Int) (A1 : Option Addr) (c1 : Nat) (l1 : List (List Int)) (r : Bool) (w : World) (hr1 : Kd.C (Kd.slice 2 (Kd.int .i64)) w A1 l1.length l1) (hc1 : l1.length ≤ c1) (h : impl_arePermutations.f k a0 l1 = some r) :
    Calls Try.prog 88 #[.int .i64 a0, .slice A1 l1.length c1] w fun e w' => e = .returned (.bool r) ∧ Below w.heap.size w w' := by
  have hR := fun W => inRange_quiet2 a0 1 4 W
  have HR := Aside0.mk hR
  clear hR
  unfold impl_arePermutations.f at h
  by_cases h1 : 1 ≤ a0 ∧ a0 ≤ 4
  · rw [if_pos h1] at h
    have E1 : (decide ((1 : Int) ≤ a0) && decide (a0 ≤ 4)) = true := by simp [h1.1, h1.2]
    have EH1 := Aside0.mk E1
    clear h1 E1
    obtain ⟨b, hb, h3⟩ := Option.bind_eq_some_iff.mp h
    have hC := fun (W : World) (hw : Below w.heap.size w W) (hB : w.heap.size < W.heap.size) (hc : W.cell? ⟨w.heap.size, 0, none⟩ = some (.int .i64 a0)) =>
      containsRows 2 114 #[.pointer (some ⟨w.heap.size, 0, none⟩)] (Go.Proofs.enters_of Try.func114 (by kernel_rfl) rfl) (impl_arePermutations.q k a0) A1 c1 l1 b W (Kd.C_below hr1 hw)
        (fun W' A c x b' _ hb' hrx hlx hq => arePermutations_lit k A c x a0 b' w.heap.size W' ((hb'.cell (p := ⟨w.heap.size, 0, none⟩) hB).trans hc) hrx hlx hq) hb
    have HC := Aside0.mk hC
    have H3 := Aside0.mk (Option.some.inj h3)
    clear hC hr1 hc1 h h3 hb
    go_enter Try.func88, Try.ntmps88
    go_wp2_with (first
      | (go_at_call 64; refine (HR.out _).mono ?_; rintro e w' ⟨rfl, ⟨nd, rfl⟩⟩; rw [EH1.out])
      | (go_at_call 79; refine (HC.out _ (by repeat (first | exact Below.refl _ _ | apply pw_below_drewN | apply below_alloc)) (by simp) (by simp)).mono ?_; rintro e w' ⟨rfl, hb'⟩))
    go_ret
    refine ⟨by rw [← H3.out] <;> rfl, ?_⟩
    exact (below_then (pw_below_drewN (below_alloc (Below.refl _ w) _) _) (by simp) hb')
  · rw [if_neg h1] at h
    have E1 : (decide ((1 : Int) ≤ a0) && decide (a0 ≤ 4)) = false := by
      by_cases h0 : (1 : Int) ≤ a0 <;> by_cases h4 : a0 ≤ 4 <;> simp [h0, h4]
      exact h1 ⟨h0, h4⟩
    have EH1 := Aside0.mk E1
    have H3 := Aside0.mk (Option.some.inj h)
    clear h1 E1 h hr1 hc1
    go_enter Try.func88, Try.ntmps88
    go_wp2_with (go_at_call 64; refine (HR.out _).mono ?_; rintro e w' ⟨rfl, ⟨nd, rfl⟩⟩; rw [EH1.out])
    go_ret
    exact ⟨by rw [← H3.out] <;> rfl, by repeat (first | exact Below.refl _ _ | apply pw_below_drewN | apply below_alloc)⟩

/-! ### impl_IsRepresentation: function 54 -/
def impl_IsRepresentation.q (k : Nat) (n : Int) (G : List (List Int)) (x : List Int) : Option Bool := (impl_isTrivial.f k n G x).bind fun b => some (!b)
def impl_IsRepresentation.f (k : Nat) (a0_0 : Int) (l0_1 : List (List Int)) (a1 : Int) (l2 : List (List Int)) : Option Bool :=
  (impl_isPresentation.f k a0_0 l0_1).bind fun b1 => if b1 = true then (impl_arePermutations.f k a1 l2).bind fun b2 => if b2 = true then (if (l2.length : Int) = a0_0 then (anyO (impl_IsRepresentation.q k a1 l2) l0_1).bind fun b => some (!b) else some false) else some false else some false
theorem impl_IsRepresentation.mono : ∀ a0_0 l0_1 a1 l2 k, LeO (impl_IsRepresentation.f k a0_0 l0_1 a1 l2) (impl_IsRepresentation.f (k + 1) a0_0 l0_1 a1 l2) := by
  intro a l n G k
  unfold impl_IsRepresentation.f
  exact LeO.bind (impl_isPresentation.mono _ _ _) fun _ => LeO.ite (LeO.bind (impl_arePermutations.mono _ _ _) fun _ => LeO.ite (LeO.ite (LeO.bind (anyO_le (fun x => LeO.bind (impl_isTrivial.mono _ _ _ _) fun _ => LeO.refl _) l) fun _ => LeO.refl _) (LeO.refl _)) (LeO.refl _)) (LeO.refl _)
set_option maxHeartbeats 8000000 in
set_option maxRecDepth 100000 in
theorem isRepresentation_lit (k : Nat) (A : Option Addr) (c : Nat) (x : List Int) (n : Int) (A2 : Option Addr) (c2 : Nat) (G : List (List Int)) (b : Bool) (B B2 : Nat) (w : World) (hc : w.cell? ⟨B, 0, none⟩ = some (.int .i64 n)) (hc2 : w.cell? ⟨B2, 0, none⟩ = some (.slice A2 G.length c2))
    (hr : Kd.C (Kd.int .i64) w A x.length x) (hl : x.length ≤ c) (hr2 : Kd.C (Kd.slice 2 (Kd.int .i64)) w A2 G.length G) (hl2 : G.length ≤ c2)
    (h : impl_IsRepresentation.q k n G x = some b) :
    Calls Try.prog 89 #[.slice A x.length c, .pointer (some ⟨B, 0, none⟩), .pointer (some ⟨B2, 0, none⟩)] w fun e w' => e = .returned (.bool b) ∧ Below w.heap.size w w' := by
  obtain ⟨b1, h1, h2⟩ := Option.bind_eq_some_iff.mp h
  obtain rfl : (!b1) = b := Option.some.inj h2
  have hC := impl_isTrivial.calls k n A2 c2 G A c x b1 w hr2 hl2 hr hl h1
  clear h h1 h2 hr hl hr2 hl2
  go_enter Try.func89, Try.ntmps89
  go_wp2_with (go_at_call 81; (with_reducible refine hC.mono ?_); rintro e w' ⟨rfl, hb'⟩)
  go_ret
  exact ⟨rfl, hb'.below⟩
theorem takeD {P : Program} {ops : Array Oper} {Q : Exit → Act → World → Prop} {md : Region.Mode} {S : World → Prop} {i : Nat} {oi : Oper} (d : Option Tmp) {v : Value} {fuel : Nat} {listed : Array Bool} {a : Act} {w : World} (hi : ops[i]? = some oi) (hd : oi.dst = d)
    (hs : Region.noSelect ops = true) (hf : Region.free md ops listed i = true) (hr : (Region.ready md ops listed).contains i = true)
    (hQ : ∀ c a w, Q (.panic c) (a.put d v) w → Q (.panic c) a w) (hy : YieldsIf P ops S oi v a) (hS : S w)
    (h : wpAnyH P md ops Q S fuel (listed.setIfInBounds i true) (a.put d v) w) : wpAnyH P md ops Q S (fuel + 1) listed a w := by
  subst hd
  exact wpAnyH_take hi hs hf hr hQ hy hS h
theorem isrep_cells {w W w' : World} {g n : Int} {A0 A2 : Option Addr} {m0 c0 m2 c2 B : Nat} (hb : Below W.heap.size W w') (h0 : W.cell? ⟨B, 0, none⟩ = some (.int .i64 g)) (h1 : W.cell? ⟨B, 1, none⟩ = some (.slice A0 m0 c0)) (h2 : W.cell? ⟨B + 1, 0, none⟩ = some (.int .i64 n)) (h3 : W.cell? ⟨B + 1 + 1, 0, none⟩ = some (.slice A2 m2 c2)) :
    w'.cell? ⟨B, 0, none⟩ = some (.int .i64 g) ∧ w'.cell? ⟨B, 1, none⟩ = some (.slice A0 m0 c0) ∧ w'.cell? ⟨B + 1, 0, none⟩ = some (.int .i64 n) ∧ w'.cell? ⟨B + 1 + 1, 0, none⟩ = some (.slice A2 m2 c2) :=
  ⟨pw_cell_below hb h0, pw_cell_below hb h1, pw_cell_below hb h2, pw_cell_below hb h3⟩
def isrepW (w : World) (g n : Int) (A0 A2 : Option Addr) (m0 c0 m2 c2 : Nat) : World := ((w.alloc (.cells #[.int .i64 g, .slice A0 m0 c0] 28)).alloc (.cells #[.int .i64 n] 2)).alloc (.cells #[.slice A2 m2 c2] 22)
theorem isrep_start (w : World) (g n : Int) (A0 A2 : Option Addr) (m0 c0 m2 c2 : Nat) : (isrepW w g n A0 A2 m0 c0 m2 c2).cell? ⟨w.heap.size, 0, none⟩ = some (.int .i64 g) ∧ (isrepW w g n A0 A2 m0 c0 m2 c2).cell? ⟨w.heap.size, 1, none⟩ = some (.slice A0 m0 c0) ∧ (isrepW w g n A0 A2 m0 c0 m2 c2).cell? ⟨w.heap.size + 1, 0, none⟩ = some (.int .i64 n) ∧ (isrepW w g n A0 A2 m0 c0 m2 c2).cell? ⟨w.heap.size + 1 + 1, 0, none⟩ = some (.slice A2 m2 c2) := by
  refine ⟨?_, ?_, ?_, World.cell?_alloc_at _ _ _ _ (by simp)⟩
  · exact (World.cell?_alloc_past _ _ _ (by simp; omega)).trans ((World.cell?_alloc_past _ _ _ (by simp)).trans (World.cell?_alloc_at _ _ _ _ rfl))
  · exact (World.cell?_alloc_past _ _ _ (by simp; omega)).trans ((World.cell?_alloc_past _ _ _ (by simp)).trans (World.cell?_alloc_at _ _ _ _ rfl))
  · exact (World.cell?_alloc_past _ _ _ (by simp)).trans (World.cell?_alloc_at _ _ _ _ (by simp))
theorem isrep_below (w : World) (g n : Int) (A0 A2 : Option Addr) (m0 c0 m2 c2 : Nat) : Below w.heap.size w (isrepW w g n A0 A2 m0 c0 m2 c2) := below_alloc (below_alloc (below_alloc (Below.refl _ _) _) _) _
set_option maxHeartbeats 8000000 in
set_option maxRecDepth 100000 in
theorem size_rows_ (A : Option Addr) (n c : Nat) (w : World) : Calls Try.prog 82 #[.slice A n c] w fun e w' => e = .returned (.int .i64 n) ∧ Drawn0 w w' := by
  go_enter Try.func82, Try.ntmps82
  go_wp2
  go_ret
  exact ⟨rfl, Drawn0.refl _⟩
set_option maxHeartbeats 8000000 in
set_option maxRecDepth 100000 in
theorem impl_IsRepresentation.calls (k : Nat) (a0_0 : Int) (A0_1 : Option Addr) (c0_1 : Nat) (l0_1 : List (List Int)) (a1 : Int) (A2 : Option Addr) (c2 : Nat) (l2 : List (List Int)) (r : Bool) (w : World) (hr0_1 : Kd.C (Kd.slice 2 (Kd.int .i64)) w A0_1 l0_1.length l0_1) (hc0_1 : l0_1.length ≤ c0_1) (hr2 : Kd.C (Kd.slice 2 (Kd.int .i64)) w A2 l2.length l2) (hc2 : l2.length ≤ c2) (h : impl_IsRepresentation.f k a0_0 l0_1 a1 l2 = some r) :
    Calls Try.prog 54 #[.agg #[.int .i64 a0_0, .slice A0_1 l0_1.length c0_1], .int .i64 a1, .slice A2 l2.length c2] w fun e w' => e = .returned (.bool r) ∧ Below w.heap.size w w' := by
  unfold impl_IsRepresentation.f at h
  obtain ⟨b1, h1, h⟩ := Option.bind_eq_some_iff.mp h
  have P1 := Aside0.mk fun (W : World) (hW : Below w.heap.size w W) => impl_isPresentation.calls k a0_0 A0_1 c0_1 l0_1 b1 W (Kd.C_below hr0_1 hW) hc0_1 h1
  have HST := Aside0.mk (isrep_start w a0_0 a1 A0_1 A2 l0_1.length c0_1 l2.length c2)
  have HB0 := Aside0.mk (isrep_below w a0_0 a1 A0_1 A2 l0_1.length c0_1 l2.length c2)
  cases b1 with
  | false =>
    have H3 := Aside0.mk (Option.some.inj h)
    clear h h1 hr0_1 hr2 hc0_1 hc2
    go_enter Try.func54, Try.ntmps54
    go_wp2_with fail
    generalize hW0 : ((w.alloc (.cells #[.int .i64 a0_0, .slice A0_1 l0_1.length c0_1] 28)).alloc (.cells #[.int .i64 a1] 2)).alloc (.cells #[.slice A2 l2.length c2] 22) = W0
    have HS2 := HST.out
    have HB1 := HB0.out
    unfold isrepW at HS2 HB1
    rw [hW0] at HS2 HB1
    clear HST HB0 hW0
    have HB2 := Aside0.mk HB1
    clear HB1
    obtain ⟨s0, s1, s2, s3⟩ := HS2
    refine wp_region_held_drew (S := (fun w' => w'.cell? ⟨w.heap.size, 0, none⟩ = some (.int .i64 a0_0) ∧ w'.cell? ⟨w.heap.size, 1, none⟩ = some (.slice A0_1 l0_1.length c0_1) ∧ w'.cell? ⟨w.heap.size + 1, 0, none⟩ = some (.int .i64 a1) ∧ w'.cell? ⟨w.heap.size + 1 + 1, 0, none⟩ = some (.slice A2 l2.length c2))) (by kernel_rfl) ?b_s (fun hHeld => ?b_0)
    case b_s => exact ⟨s0, s1, s2, s3⟩
    case b_0 =>
    refine takeD (i := 0) (some 7) (v := ?b0_v) rfl rfl (by kernel_rfl) (by kernel_rfl) (by kernel_rfl) (fun _ _ _ h => h) (Or.inl ⟨by rfl, ?b0_y⟩) hHeld ?b0_n
    case b0_y => intro w_ hS_; (try dsimp only at hS_); go_simp; try (with_reducible rfl)
    simp only [Act.put, List.setIfInBounds_toArray, List.set_cons_zero, List.set_cons_succ]
    refine wpAnyH_ready (rs := [1]) (by kernel_rfl) (by simp) ?_
    refine AllReadyH.cons rfl (fun K hK => ?_) AllReadyH.nil
    go_simp
    (go_at_call 59; refine (P1.out _ (below_drew HB2.out)).mono ?_; rintro e w1 ⟨rfl, hb1⟩; have HB3 := Aside0.mk (below_then (below_drew HB2.out) (below_size (below_drew HB2.out)) hb1); have hcs1 := isrep_cells (w := w) hb1 s0 s1 s2 s3; clear hb1 P1)
    refine hK.out _ _ ?b1_s (fun hHeld2 => ?b1_n)
    case b1_s => (try dsimp only); exact hcs1
    clear hK K hHeld; have hHeld := hHeld2; clear hHeld2
    refine takeD (i := 2) (some 9) (v := ?b2_v) rfl rfl (by kernel_rfl) (by kernel_rfl) (by kernel_rfl) (fun _ _ _ h => h) (Or.inl ⟨by rfl, ?b2_y⟩) hHeld ?b2_n
    case b2_y => intro w_ hS_; (try dsimp only at hS_); go_simp; try (with_reducible rfl)
    simp only [Act.put, List.setIfInBounds_toArray, List.set_cons_zero, List.set_cons_succ]
    refine takeD (i := 3) (some 10) (v := undef) rfl rfl (by kernel_rfl) (by kernel_rfl) (by kernel_rfl) (fun _ _ _ h => h) (Or.inr ⟨by rfl, rfl⟩) hHeld ?_
    simp only [Act.put, List.setIfInBounds_toArray, List.set_cons_zero, List.set_cons_succ]
    refine takeD (i := 4) (some 11) (v := undef) rfl rfl (by kernel_rfl) (by kernel_rfl) (by kernel_rfl) (fun _ _ _ h => h) (Or.inr ⟨by rfl, rfl⟩) hHeld ?_
    simp only [Act.put, List.setIfInBounds_toArray, List.set_cons_zero, List.set_cons_succ]
    refine takeD (i := 5) (some 12) (v := undef) rfl rfl (by kernel_rfl) (by kernel_rfl) (by kernel_rfl) (fun _ _ _ h => h) (Or.inr ⟨by rfl, rfl⟩) hHeld ?_
    simp only [Act.put, List.setIfInBounds_toArray, List.set_cons_zero, List.set_cons_succ]
    refine takeD (i := 6) (some 13) (v := ?b6_v) rfl rfl (by kernel_rfl) (by kernel_rfl) (by kernel_rfl) (fun _ _ _ h => h) (Or.inl ⟨by rfl, ?b6_y⟩) hHeld ?b6_n
    case b6_y => intro w_ hS_; (try dsimp only at hS_); go_simp; try (with_reducible rfl)
    simp only [Act.put, List.setIfInBounds_toArray, List.set_cons_zero, List.set_cons_succ]
    refine takeD (i := 7) (some 14) (v := ?b7_v) rfl rfl (by kernel_rfl) (by kernel_rfl) (by kernel_rfl) (fun _ _ _ h => h) (Or.inl ⟨by rfl, ?b7_y⟩) hHeld ?b7_n
    case b7_y => intro w_ hS_; (try dsimp only at hS_); go_simp; try (with_reducible rfl)
    simp only [Act.put, List.setIfInBounds_toArray, List.set_cons_zero, List.set_cons_succ]
    refine takeD (i := 8) (some 15) (v := undef) rfl rfl (by kernel_rfl) (by kernel_rfl) (by kernel_rfl) (fun _ _ _ h => h) (Or.inr ⟨by rfl, rfl⟩) hHeld ?_
    simp only [Act.put, List.setIfInBounds_toArray, List.set_cons_zero, List.set_cons_succ]
    refine takeD (i := 9) (some 16) (v := undef) rfl rfl (by kernel_rfl) (by kernel_rfl) (by kernel_rfl) (fun _ _ _ h => h) (Or.inr ⟨by rfl, rfl⟩) hHeld ?_
    simp only [Act.put, List.setIfInBounds_toArray, List.set_cons_zero, List.set_cons_succ]
    refine takeD (i := 10) (some 17) (v := undef) rfl rfl (by kernel_rfl) (by kernel_rfl) (by kernel_rfl) (fun _ _ _ h => h) (Or.inr ⟨by rfl, rfl⟩) hHeld ?_
    simp only [Act.put, List.setIfInBounds_toArray, List.set_cons_zero, List.set_cons_succ]
    refine takeD (i := 11) (some 18) (v := undef) rfl rfl (by kernel_rfl) (by kernel_rfl) (by kernel_rfl) (fun _ _ _ h => h) (Or.inr ⟨by rfl, rfl⟩) hHeld ?_
    simp only [Act.put, List.setIfInBounds_toArray, List.set_cons_zero, List.set_cons_succ]
    refine takeD (i := 12) (some 19) (v := undef) rfl rfl (by kernel_rfl) (by kernel_rfl) (by kernel_rfl) (fun _ _ _ h => h) (Or.inr ⟨by rfl, rfl⟩) hHeld ?_
    simp only [Act.put, List.setIfInBounds_toArray, List.set_cons_zero, List.set_cons_succ]
    refine takeD (i := 13) (some 20) (v := ?b13_v) rfl rfl (by kernel_rfl) (by kernel_rfl) (by kernel_rfl) (fun _ _ _ h => h) (Or.inl ⟨by rfl, ?b13_y⟩) hHeld ?b13_n
    case b13_y => intro w_ hS_; (try dsimp only at hS_); go_simp; try (with_reducible rfl)
    simp only [Act.put, List.setIfInBounds_toArray, List.set_cons_zero, List.set_cons_succ]
    refine takeD (i := 14) (some 21) (v := ?b14_v) rfl rfl (by kernel_rfl) (by kernel_rfl) (by kernel_rfl) (fun _ _ _ h => h) (Or.inl ⟨by rfl, ?b14_y⟩) hHeld ?b14_n
    case b14_y => intro w_ hS_; (try dsimp only at hS_); go_simp; try (with_reducible rfl)
    simp only [Act.put, List.setIfInBounds_toArray, List.set_cons_zero, List.set_cons_succ]
    refine takeD (i := 15) (some 22) (v := undef) rfl rfl (by kernel_rfl) (by kernel_rfl) (by kernel_rfl) (fun _ _ _ h => h) (Or.inr ⟨by rfl, rfl⟩) hHeld ?_
    simp only [Act.put, List.setIfInBounds_toArray, List.set_cons_zero, List.set_cons_succ]
    refine takeD (i := 16) (some 23) (v := undef) rfl rfl (by kernel_rfl) (by kernel_rfl) (by kernel_rfl) (fun _ _ _ h => h) (Or.inr ⟨by rfl, rfl⟩) hHeld ?_
    simp only [Act.put, List.setIfInBounds_toArray, List.set_cons_zero, List.set_cons_succ]
    refine takeD (i := 17) (some 24) (v := undef) rfl rfl (by kernel_rfl) (by kernel_rfl) (by kernel_rfl) (fun _ _ _ h => h) (Or.inr ⟨by rfl, rfl⟩) hHeld ?_
    simp only [Act.put, List.setIfInBounds_toArray, List.set_cons_zero, List.set_cons_succ]
    refine takeD (i := 18) (some 25) (v := undef) rfl rfl (by kernel_rfl) (by kernel_rfl) (by kernel_rfl) (fun _ _ _ h => h) (Or.inr ⟨by rfl, rfl⟩) hHeld ?_
    simp only [Act.put, List.setIfInBounds_toArray, List.set_cons_zero, List.set_cons_succ]
    refine takeD (i := 19) (some 26) (v := undef) rfl rfl (by kernel_rfl) (by kernel_rfl) (by kernel_rfl) (fun _ _ _ h => h) (Or.inr ⟨by rfl, rfl⟩) hHeld ?_
    simp only [Act.put, List.setIfInBounds_toArray, List.set_cons_zero, List.set_cons_succ]
    refine takeD (i := 20) (some 27) (v := ?b20_v) rfl rfl (by kernel_rfl) (by kernel_rfl) (by kernel_rfl) (fun _ _ _ h => h) (Or.inl ⟨by rfl, ?b20_y⟩) hHeld ?b20_n
    case b20_y => intro w_ hS_; (try dsimp only at hS_); go_simp; try (with_reducible rfl)
    simp only [Act.put, List.setIfInBounds_toArray, List.set_cons_zero, List.set_cons_succ]
    refine takeD (i := 21) (some 6) (v := ?b21_v) rfl rfl (by kernel_rfl) (by kernel_rfl) (by kernel_rfl) (fun _ _ _ h => h) (Or.inl ⟨by rfl, ?b21_y⟩) hHeld ?b21_n
    case b21_y => intro w_ hS_; (try dsimp only at hS_); go_simp; try (with_reducible rfl)
    simp only [Act.put, List.setIfInBounds_toArray, List.set_cons_zero, List.set_cons_succ]
    refine wpAnyH_done (by kernel_rfl) ?_ _
    go_wp2
    go_ret
    exact ⟨by rw [← H3.out] <;> rfl, HB3.out⟩
  | true =>
    rw [if_pos rfl] at h
    obtain ⟨b2, h2, h⟩ := Option.bind_eq_some_iff.mp h
    have P2 := Aside0.mk fun (W : World) (hW : Below w.heap.size w W) => impl_arePermutations.calls k a1 A2 c2 l2 b2 W (Kd.C_below hr2 hW) hc2 h2
    cases b2 with
    | false =>
      have H3 := Aside0.mk (Option.some.inj h)
      clear h h1 h2 hr0_1 hr2 hc0_1 hc2
      go_enter Try.func54, Try.ntmps54
      go_wp2_with fail
      generalize hW0 : ((w.alloc (.cells #[.int .i64 a0_0, .slice A0_1 l0_1.length c0_1] 28)).alloc (.cells #[.int .i64 a1] 2)).alloc (.cells #[.slice A2 l2.length c2] 22) = W0
      have HS2 := HST.out
      have HB1 := HB0.out
      unfold isrepW at HS2 HB1
      rw [hW0] at HS2 HB1
      clear HST HB0 hW0
      have HB2 := Aside0.mk HB1
      clear HB1
      obtain ⟨s0, s1, s2, s3⟩ := HS2
      refine wp_region_held_drew (S := (fun w' => w'.cell? ⟨w.heap.size, 0, none⟩ = some (.int .i64 a0_0) ∧ w'.cell? ⟨w.heap.size, 1, none⟩ = some (.slice A0_1 l0_1.length c0_1) ∧ w'.cell? ⟨w.heap.size + 1, 0, none⟩ = some (.int .i64 a1) ∧ w'.cell? ⟨w.heap.size + 1 + 1, 0, none⟩ = some (.slice A2 l2.length c2))) (by kernel_rfl) ?c_s (fun hHeld => ?c_0)
      case c_s => exact ⟨s0, s1, s2, s3⟩
      case c_0 =>
      refine takeD (i := 0) (some 7) (v := ?c0_v) rfl rfl (by kernel_rfl) (by kernel_rfl) (by kernel_rfl) (fun _ _ _ h => h) (Or.inl ⟨by rfl, ?c0_y⟩) hHeld ?c0_n
      case c0_y => intro w_ hS_; (try dsimp only at hS_); go_simp; try (with_reducible rfl)
      simp only [Act.put, List.setIfInBounds_toArray, List.set_cons_zero, List.set_cons_succ]
      refine wpAnyH_ready (rs := [1]) (by kernel_rfl) (by simp) ?_
      refine AllReadyH.cons rfl (fun K hK => ?_) AllReadyH.nil
      go_simp
      (go_at_call 59; refine (P1.out _ (below_drew HB2.out)).mono ?_; rintro e w1 ⟨rfl, hb1⟩; have HB3 := Aside0.mk (below_then (below_drew HB2.out) (below_size (below_drew HB2.out)) hb1); have hcs1 := isrep_cells (w := w) hb1 s0 s1 s2 s3; clear hb1 P1)
      refine hK.out _ _ ?c1_s (fun hHeld2 => ?c1_n)
      case c1_s => (try dsimp only); exact hcs1
      clear hK K hHeld; have hHeld := hHeld2; clear hHeld2
      refine takeD (i := 2) (some 9) (v := ?c2_v) rfl rfl (by kernel_rfl) (by kernel_rfl) (by kernel_rfl) (fun _ _ _ h => h) (Or.inl ⟨by rfl, ?c2_y⟩) hHeld ?c2_n
      case c2_y => intro w_ hS_; (try dsimp only at hS_); go_simp; try (with_reducible rfl)
      simp only [Act.put, List.setIfInBounds_toArray, List.set_cons_zero, List.set_cons_succ]
      refine takeD (i := 3) (some 10) (v := ?c3_v) rfl rfl (by kernel_rfl) (by kernel_rfl) (by kernel_rfl) (fun _ _ _ h => h) (Or.inl ⟨by rfl, ?c3_y⟩) hHeld ?c3_n
      case c3_y => intro w_ hS_; (try dsimp only at hS_); go_simp; try (with_reducible rfl)
      simp only [Act.put, List.setIfInBounds_toArray, List.set_cons_zero, List.set_cons_succ]
      refine takeD (i := 4) (some 11) (v := ?c4_v) rfl rfl (by kernel_rfl) (by kernel_rfl) (by kernel_rfl) (fun _ _ _ h => h) (Or.inl ⟨by rfl, ?c4_y⟩) hHeld ?c4_n
      case c4_y => intro w_ hS_; (try dsimp only at hS_); go_simp; try (with_reducible rfl)
      simp only [Act.put, List.setIfInBounds_toArray, List.set_cons_zero, List.set_cons_succ]
      refine wpAnyH_ready (rs := [5]) (by kernel_rfl) (by simp) ?_
      refine AllReadyH.cons rfl (fun K hK => ?_) AllReadyH.nil
      go_simp
      (go_at_call 88; refine (P2.out _ HB3.out).mono ?_; rintro e w2 ⟨rfl, hb2⟩; have HB4 := Aside0.mk (below_then HB3.out (below_size HB3.out) hb2); obtain ⟨t0, t1, t2, t3⟩ := hcs1; have hcs2 := isrep_cells (w := w) hb2 t0 t1 t2 t3; clear hb2 P2 t0 t1 t2 t3)
      refine hK.out _ _ ?c5_s (fun hHeld2 => ?c5_n)
      case c5_s => (try dsimp only); exact hcs2
      clear hK K hHeld; have hHeld := hHeld2; clear hHeld2
      refine takeD (i := 6) (some 13) (v := ?c6_v) rfl rfl (by kernel_rfl) (by kernel_rfl) (by kernel_rfl) (fun _ _ _ h => h) (Or.inl ⟨by rfl, ?c6_y⟩) hHeld ?c6_n
      case c6_y => intro w_ hS_; (try dsimp only at hS_); go_simp; try (with_reducible rfl)
      simp only [Act.put, List.setIfInBounds_toArray, List.set_cons_zero, List.set_cons_succ]
      refine takeD (i := 7) (some 14) (v := ?c7_v) rfl rfl (by kernel_rfl) (by kernel_rfl) (by kernel_rfl) (fun _ _ _ h => h) (Or.inl ⟨by rfl, ?c7_y⟩) hHeld ?c7_n
      case c7_y => intro w_ hS_; (try dsimp only at hS_); go_simp; try (with_reducible rfl)
      simp only [Act.put, List.setIfInBounds_toArray, List.set_cons_zero, List.set_cons_succ]
      refine takeD (i := 8) (some 15) (v := undef) rfl rfl (by kernel_rfl) (by kernel_rfl) (by kernel_rfl) (fun _ _ _ h => h) (Or.inr ⟨by rfl, rfl⟩) hHeld ?_
      simp only [Act.put, List.setIfInBounds_toArray, List.set_cons_zero, List.set_cons_succ]
      refine takeD (i := 9) (some 16) (v := undef) rfl rfl (by kernel_rfl) (by kernel_rfl) (by kernel_rfl) (fun _ _ _ h => h) (Or.inr ⟨by rfl, rfl⟩) hHeld ?_
      simp only [Act.put, List.setIfInBounds_toArray, List.set_cons_zero, List.set_cons_succ]
      refine takeD (i := 10) (some 17) (v := undef) rfl rfl (by kernel_rfl) (by kernel_rfl) (by kernel_rfl) (fun _ _ _ h => h) (Or.inr ⟨by rfl, rfl⟩) hHeld ?_
      simp only [Act.put, List.setIfInBounds_toArray, List.set_cons_zero, List.set_cons_succ]
      refine takeD (i := 11) (some 18) (v := undef) rfl rfl (by kernel_rfl) (by kernel_rfl) (by kernel_rfl) (fun _ _ _ h => h) (Or.inr ⟨by rfl, rfl⟩) hHeld ?_
      simp only [Act.put, List.setIfInBounds_toArray, List.set_cons_zero, List.set_cons_succ]
      refine takeD (i := 12) (some 19) (v := undef) rfl rfl (by kernel_rfl) (by kernel_rfl) (by kernel_rfl) (fun _ _ _ h => h) (Or.inr ⟨by rfl, rfl⟩) hHeld ?_
      simp only [Act.put, List.setIfInBounds_toArray, List.set_cons_zero, List.set_cons_succ]
      refine takeD (i := 13) (some 20) (v := ?c13_v) rfl rfl (by kernel_rfl) (by kernel_rfl) (by kernel_rfl) (fun _ _ _ h => h) (Or.inl ⟨by rfl, ?c13_y⟩) hHeld ?c13_n
      case c13_y => intro w_ hS_; (try dsimp only at hS_); go_simp; try (with_reducible rfl)
      simp only [Act.put, List.setIfInBounds_toArray, List.set_cons_zero, List.set_cons_succ]
      refine takeD (i := 14) (some 21) (v := ?c14_v) rfl rfl (by kernel_rfl) (by kernel_rfl) (by kernel_rfl) (fun _ _ _ h => h) (Or.inl ⟨by rfl, ?c14_y⟩) hHeld ?c14_n
      case c14_y => intro w_ hS_; (try dsimp only at hS_); go_simp; try (with_reducible rfl)
      simp only [Act.put, List.setIfInBounds_toArray, List.set_cons_zero, List.set_cons_succ]
      refine takeD (i := 15) (some 22) (v := undef) rfl rfl (by kernel_rfl) (by kernel_rfl) (by kernel_rfl) (fun _ _ _ h => h) (Or.inr ⟨by rfl, rfl⟩) hHeld ?_
      simp only [Act.put, List.setIfInBounds_toArray, List.set_cons_zero, List.set_cons_succ]
      refine takeD (i := 16) (some 23) (v := undef) rfl rfl (by kernel_rfl) (by kernel_rfl) (by kernel_rfl) (fun _ _ _ h => h) (Or.inr ⟨by rfl, rfl⟩) hHeld ?_
      simp only [Act.put, List.setIfInBounds_toArray, List.set_cons_zero, List.set_cons_succ]
      refine takeD (i := 17) (some 24) (v := undef) rfl rfl (by kernel_rfl) (by kernel_rfl) (by kernel_rfl) (fun _ _ _ h => h) (Or.inr ⟨by rfl, rfl⟩) hHeld ?_
      simp only [Act.put, List.setIfInBounds_toArray, List.set_cons_zero, List.set_cons_succ]
      refine takeD (i := 18) (some 25) (v := undef) rfl rfl (by kernel_rfl) (by kernel_rfl) (by kernel_rfl) (fun _ _ _ h => h) (Or.inr ⟨by rfl, rfl⟩) hHeld ?_
      simp only [Act.put, List.setIfInBounds_toArray, List.set_cons_zero, List.set_cons_succ]
      refine takeD (i := 19) (some 26) (v := undef) rfl rfl (by kernel_rfl) (by kernel_rfl) (by kernel_rfl) (fun _ _ _ h => h) (Or.inr ⟨by rfl, rfl⟩) hHeld ?_
      simp only [Act.put, List.setIfInBounds_toArray, List.set_cons_zero, List.set_cons_succ]
      refine takeD (i := 20) (some 27) (v := ?c20_v) rfl rfl (by kernel_rfl) (by kernel_rfl) (by kernel_rfl) (fun _ _ _ h => h) (Or.inl ⟨by rfl, ?c20_y⟩) hHeld ?c20_n
      case c20_y => intro w_ hS_; (try dsimp only at hS_); go_simp; try (with_reducible rfl)
      simp only [Act.put, List.setIfInBounds_toArray, List.set_cons_zero, List.set_cons_succ]
      refine takeD (i := 21) (some 6) (v := ?c21_v) rfl rfl (by kernel_rfl) (by kernel_rfl) (by kernel_rfl) (fun _ _ _ h => h) (Or.inl ⟨by rfl, ?c21_y⟩) hHeld ?c21_n
      case c21_y => intro w_ hS_; (try dsimp only at hS_); go_simp; try (with_reducible rfl)
      simp only [Act.put, List.setIfInBounds_toArray, List.set_cons_zero, List.set_cons_succ]
      refine wpAnyH_done (by kernel_rfl) ?_ _
      go_wp2
      go_ret
      exact ⟨by rw [← H3.out] <;> rfl, HB4.out⟩
    | true =>
      rw [if_pos rfl] at h
      by_cases c : (l2.length : Int) = a0_0
      · rw [if_pos c] at h
        obtain ⟨b, hb, h3⟩ := Option.bind_eq_some_iff.mp h
        have H3 := Aside0.mk (Option.some.inj h3)
        have P3 := Aside0.mk fun (W : World) (hW : Below w.heap.size w W) (g2 : W.cell? ⟨w.heap.size + 1, 0, none⟩ = some (.int .i64 a1)) (g3 : W.cell? ⟨w.heap.size + 1 + 1, 0, none⟩ = some (.slice A2 l2.length c2)) =>
          containsRows 2 89 #[.pointer (some ⟨w.heap.size + 1, 0, none⟩), .pointer (some ⟨w.heap.size + 1 + 1, 0, none⟩)] (Go.Proofs.enters_of Try.func89 (by kernel_rfl) rfl) (impl_IsRepresentation.q k a1 l2) A0_1 c0_1 l0_1 b W (Kd.C_below hr0_1 hW)
            (fun W' A c x b' _ hb' hrx hlx hq => isRepresentation_lit k A c x a1 A2 c2 l2 b' (w.heap.size + 1) (w.heap.size + 1 + 1) W' (pw_cell_below hb' g2) (pw_cell_below hb' g3) hrx hlx (Kd.C_below hr2 (below_then hW (below_size hW) hb')) hc2 hq) hb
        have c0b : ((l2.length : Int) == a0_0) = true := beq_iff_eq.2 c
        clear h h1 h2 h3 hb hr0_1 hr2 hc0_1 hc2 c
        go_enter Try.func54, Try.ntmps54
        go_wp2_with fail
        generalize hW0 : ((w.alloc (.cells #[.int .i64 a0_0, .slice A0_1 l0_1.length c0_1] 28)).alloc (.cells #[.int .i64 a1] 2)).alloc (.cells #[.slice A2 l2.length c2] 22) = W0
        have HS2 := HST.out
        have HB1 := HB0.out
        unfold isrepW at HS2 HB1
        rw [hW0] at HS2 HB1
        clear HST HB0 hW0
        have HB2 := Aside0.mk HB1
        clear HB1
        obtain ⟨s0, s1, s2, s3⟩ := HS2
        refine wp_region_held_drew (S := (fun w' => w'.cell? ⟨w.heap.size, 0, none⟩ = some (.int .i64 a0_0) ∧ w'.cell? ⟨w.heap.size, 1, none⟩ = some (.slice A0_1 l0_1.length c0_1) ∧ w'.cell? ⟨w.heap.size + 1, 0, none⟩ = some (.int .i64 a1) ∧ w'.cell? ⟨w.heap.size + 1 + 1, 0, none⟩ = some (.slice A2 l2.length c2))) (by kernel_rfl) ?d_s (fun hHeld => ?d_0)
        case d_s => exact ⟨s0, s1, s2, s3⟩
        case d_0 =>
        refine takeD (i := 0) (some 7) (v := ?d0_v) rfl rfl (by kernel_rfl) (by kernel_rfl) (by kernel_rfl) (fun _ _ _ h => h) (Or.inl ⟨by rfl, ?d0_y⟩) hHeld ?d0_n
        case d0_y => intro w_ hS_; (try dsimp only at hS_); go_simp; try (with_reducible rfl)
        simp only [Act.put, List.setIfInBounds_toArray, List.set_cons_zero, List.set_cons_succ]
        refine wpAnyH_ready (rs := [1]) (by kernel_rfl) (by simp) ?_
        refine AllReadyH.cons rfl (fun K hK => ?_) AllReadyH.nil
        go_simp
        (go_at_call 59; refine (P1.out _ (below_drew HB2.out)).mono ?_; rintro e w1 ⟨rfl, hb1⟩; have HB3 := Aside0.mk (below_then (below_drew HB2.out) (below_size (below_drew HB2.out)) hb1); have hcs1 := isrep_cells (w := w) hb1 s0 s1 s2 s3; clear hb1 P1)
        refine hK.out _ _ ?d1_s (fun hHeld2 => ?d1_n)
        case d1_s => (try dsimp only); exact hcs1
        clear hK K hHeld; have hHeld := hHeld2; clear hHeld2
        refine takeD (i := 2) (some 9) (v := ?d2_v) rfl rfl (by kernel_rfl) (by kernel_rfl) (by kernel_rfl) (fun _ _ _ h => h) (Or.inl ⟨by rfl, ?d2_y⟩) hHeld ?d2_n
        case d2_y => intro w_ hS_; (try dsimp only at hS_); go_simp; try (with_reducible rfl)
        simp only [Act.put, List.setIfInBounds_toArray, List.set_cons_zero, List.set_cons_succ]
        refine takeD (i := 3) (some 10) (v := ?d3_v) rfl rfl (by kernel_rfl) (by kernel_rfl) (by kernel_rfl) (fun _ _ _ h => h) (Or.inl ⟨by rfl, ?d3_y⟩) hHeld ?d3_n
        case d3_y => intro w_ hS_; (try dsimp only at hS_); go_simp; try (with_reducible rfl)
        simp only [Act.put, List.setIfInBounds_toArray, List.set_cons_zero, List.set_cons_succ]
        refine takeD (i := 4) (some 11) (v := ?d4_v) rfl rfl (by kernel_rfl) (by kernel_rfl) (by kernel_rfl) (fun _ _ _ h => h) (Or.inl ⟨by rfl, ?d4_y⟩) hHeld ?d4_n
        case d4_y => intro w_ hS_; (try dsimp only at hS_); go_simp; try (with_reducible rfl)
        simp only [Act.put, List.setIfInBounds_toArray, List.set_cons_zero, List.set_cons_succ]
        refine wpAnyH_ready (rs := [5]) (by kernel_rfl) (by simp) ?_
        refine AllReadyH.cons rfl (fun K hK => ?_) AllReadyH.nil
        go_simp
        (go_at_call 88; refine (P2.out _ HB3.out).mono ?_; rintro e w2 ⟨rfl, hb2⟩; have HB4 := Aside0.mk (below_then HB3.out (below_size HB3.out) hb2); obtain ⟨t0, t1, t2, t3⟩ := hcs1; have hcs2 := isrep_cells (w := w) hb2 t0 t1 t2 t3; clear hb2 P2 t0 t1 t2 t3)
        refine hK.out _ _ ?d5_s (fun hHeld2 => ?d5_n)
        case d5_s => (try dsimp only); exact hcs2
        clear hK K hHeld; have hHeld := hHeld2; clear hHeld2
        refine takeD (i := 6) (some 13) (v := ?d6_v) rfl rfl (by kernel_rfl) (by kernel_rfl) (by kernel_rfl) (fun _ _ _ h => h) (Or.inl ⟨by rfl, ?d6_y⟩) hHeld ?d6_n
        case d6_y => intro w_ hS_; (try dsimp only at hS_); go_simp; try (with_reducible rfl)
        simp only [Act.put, List.setIfInBounds_toArray, List.set_cons_zero, List.set_cons_succ]
        refine takeD (i := 7) (some 14) (v := ?d7_v) rfl rfl (by kernel_rfl) (by kernel_rfl) (by kernel_rfl) (fun _ _ _ h => h) (Or.inl ⟨by rfl, ?d7_y⟩) hHeld ?d7_n
        case d7_y => intro w_ hS_; (try dsimp only at hS_); go_simp; try (with_reducible rfl)
        simp only [Act.put, List.setIfInBounds_toArray, List.set_cons_zero, List.set_cons_succ]
        refine takeD (i := 8) (some 15) (v := ?d8_v) rfl rfl (by kernel_rfl) (by kernel_rfl) (by kernel_rfl) (fun _ _ _ h => h) (Or.inl ⟨by rfl, ?d8_y⟩) hHeld ?d8_n
        case d8_y => intro w_ hS_; (try dsimp only at hS_); go_simp; try (with_reducible rfl)
        simp only [Act.put, List.setIfInBounds_toArray, List.set_cons_zero, List.set_cons_succ]
        refine takeD (i := 10) (some 17) (v := ?d9_v) rfl rfl (by kernel_rfl) (by kernel_rfl) (by kernel_rfl) (fun _ _ _ h => h) (Or.inl ⟨by rfl, ?d9_y⟩) hHeld ?d9_n
        case d9_y => intro w_ hS_; (try dsimp only at hS_); go_simp; try (with_reducible rfl)
        simp only [Act.put, List.setIfInBounds_toArray, List.set_cons_zero, List.set_cons_succ]
        refine takeD (i := 11) (some 18) (v := ?d10_v) rfl rfl (by kernel_rfl) (by kernel_rfl) (by kernel_rfl) (fun _ _ _ h => h) (Or.inl ⟨by rfl, ?d10_y⟩) hHeld ?d10_n
        case d10_y => intro w_ hS_; (try dsimp only at hS_); go_simp; try (with_reducible rfl)
        simp only [Act.put, List.setIfInBounds_toArray, List.set_cons_zero, List.set_cons_succ]
        refine wpAnyH_ready (rs := [9]) (by kernel_rfl) (by simp) ?_
        refine AllReadyH.cons rfl (fun K hK => ?_) AllReadyH.nil
        go_simp
        (go_at_call 82; refine (size_rows_ A2 l2.length c2 _).mono ?_; rintro e w3 ⟨rfl, hd⟩; have hb3 := hd.below; have HB5 := Aside0.mk (below_then HB4.out (below_size HB4.out) hb3); obtain ⟨t0, t1, t2, t3⟩ := hcs2; have hcs3 := isrep_cells (w := w) hb3 t0 t1 t2 t3; clear hd hb3 t0 t1 t2 t3)
        refine hK.out _ _ ?d11_s (fun hHeld2 => ?d11_n)
        case d11_s => (try dsimp only); exact hcs3
        clear hK K hHeld; have hHeld := hHeld2; clear hHeld2
        refine takeD (i := 12) (some 19) (v := ?d12_v) rfl rfl (by kernel_rfl) (by kernel_rfl) (by kernel_rfl) (fun _ _ _ h => h) (Or.inl ⟨by rfl, ?d12_y⟩) hHeld ?d12_n
        case d12_y => intro w_ hS_; (try dsimp only at hS_); go_simp; try (with_reducible rfl)
        simp only [Act.put, List.setIfInBounds_toArray, List.set_cons_zero, List.set_cons_succ]
        refine takeD (i := 13) (some 20) (v := ?d13_v) rfl rfl (by kernel_rfl) (by kernel_rfl) (by kernel_rfl) (fun _ _ _ h => h) (Or.inl ⟨by rfl, ?d13_y⟩) hHeld ?d13_n
        case d13_y => intro w_ hS_; (try dsimp only at hS_); go_simp; try (with_reducible rfl)
        simp only [Act.put, List.setIfInBounds_toArray, List.set_cons_zero, List.set_cons_succ]
        refine takeD (i := 14) (some 21) (v := ?d14_v) rfl rfl (by kernel_rfl) (by kernel_rfl) (by kernel_rfl) (fun _ _ _ h => h) (Or.inl ⟨by rfl, ?d14_y⟩) hHeld ?d14_n
        case d14_y => intro w_ hS_; (try dsimp only at hS_); go_simp; try (with_reducible rfl)
        simp only [Act.put, List.setIfInBounds_toArray, List.set_cons_zero, List.set_cons_succ]
        refine takeD (i := 15) (some 22) (v := ?d15_v) rfl rfl (by kernel_rfl) (by kernel_rfl) (by kernel_rfl) (fun _ _ _ h => h) (Or.inl ⟨by rfl, ?d15_y⟩) hHeld ?d15_n
        case d15_y => intro w_ hS_; (try dsimp only at hS_); go_simp; try (with_reducible rfl)
        simp only [Act.put, List.setIfInBounds_toArray, List.set_cons_zero, List.set_cons_succ]
        refine takeD (i := 16) (some 23) (v := ?d16_v) rfl rfl (by kernel_rfl) (by kernel_rfl) (by kernel_rfl) (fun _ _ _ h => h) (Or.inl ⟨by rfl, ?d16_y⟩) hHeld ?d16_n
        case d16_y => intro w_ hS_; (try dsimp only at hS_); go_simp; try (with_reducible rfl)
        simp only [Act.put, List.setIfInBounds_toArray, List.set_cons_zero, List.set_cons_succ]
        refine takeD (i := 17) (some 24) (v := ?d17_v) rfl rfl (by kernel_rfl) (by kernel_rfl) (by kernel_rfl) (fun _ _ _ h => h) (Or.inl ⟨by rfl, ?d17_y⟩) hHeld ?d17_n
        case d17_y => intro w_ hS_; (try dsimp only at hS_); go_simp; try (with_reducible rfl)
        simp only [Act.put, List.setIfInBounds_toArray, List.set_cons_zero, List.set_cons_succ]
        refine wpAnyH_ready (rs := [18]) (by kernel_rfl) (by simp) ?_
        refine AllReadyH.cons rfl (fun K hK => ?_) AllReadyH.nil
        go_simp
        (go_at_call 79; refine (P3.out _ HB5.out hcs3.2.2.1 hcs3.2.2.2).mono ?_; rintro e w4 ⟨rfl, hb4⟩; have HB6 := Aside0.mk (below_then HB5.out (below_size HB5.out) hb4); obtain ⟨t0, t1, t2, t3⟩ := hcs3; have hcs4 := isrep_cells (w := w) hb4 t0 t1 t2 t3; clear hb4 P3 t0 t1 t2 t3)
        refine hK.out _ _ ?d18_s (fun hHeld2 => ?d18_n)
        case d18_s => (try dsimp only); exact hcs4
        clear hK K hHeld; have hHeld := hHeld2; clear hHeld2
        refine takeD (i := 19) (some 26) (v := ?d19_v) rfl rfl (by kernel_rfl) (by kernel_rfl) (by kernel_rfl) (fun _ _ _ h => h) (Or.inl ⟨by rfl, ?d19_y⟩) hHeld ?d19_n
        case d19_y => intro w_ hS_; (try dsimp only at hS_); go_simp; try (with_reducible rfl)
        simp only [Act.put, List.setIfInBounds_toArray, List.set_cons_zero, List.set_cons_succ]
        refine takeD (i := 20) (some 27) (v := ?d20_v) rfl rfl (by kernel_rfl) (by kernel_rfl) (by kernel_rfl) (fun _ _ _ h => h) (Or.inl ⟨by rfl, ?d20_y⟩) hHeld ?d20_n
        case d20_y => intro w_ hS_; (try dsimp only at hS_); go_simp; try (with_reducible rfl)
        simp only [Act.put, List.setIfInBounds_toArray, List.set_cons_zero, List.set_cons_succ]
        refine takeD (i := 21) (some 6) (v := ?d21_v) rfl rfl (by kernel_rfl) (by kernel_rfl) (by kernel_rfl) (fun _ _ _ h => h) (Or.inl ⟨by rfl, ?d21_y⟩) hHeld ?d21_n
        case d21_y => intro w_ hS_; (try dsimp only at hS_); go_simp; try (with_reducible rfl)
        simp only [Act.put, List.setIfInBounds_toArray, List.set_cons_zero, List.set_cons_succ]
        refine wpAnyH_done (by kernel_rfl) ?_ _
        go_wp2
        go_ret
        exact ⟨by rw [← H3.out] <;> rfl, HB6.out⟩
      · rw [if_neg c] at h
        have H3 := Aside0.mk (Option.some.inj h)
        have c0b : ((l2.length : Int) == a0_0) = false := beq_eq_false_iff_ne.2 c
        clear h h1 h2 hr0_1 hr2 hc0_1 hc2 c
        go_enter Try.func54, Try.ntmps54
        go_wp2_with fail
        generalize hW0 : ((w.alloc (.cells #[.int .i64 a0_0, .slice A0_1 l0_1.length c0_1] 28)).alloc (.cells #[.int .i64 a1] 2)).alloc (.cells #[.slice A2 l2.length c2] 22) = W0
        have HS2 := HST.out
        have HB1 := HB0.out
        unfold isrepW at HS2 HB1
        rw [hW0] at HS2 HB1
        clear HST HB0 hW0
        have HB2 := Aside0.mk HB1
        clear HB1
        obtain ⟨s0, s1, s2, s3⟩ := HS2
        refine wp_region_held_drew (S := (fun w' => w'.cell? ⟨w.heap.size, 0, none⟩ = some (.int .i64 a0_0) ∧ w'.cell? ⟨w.heap.size, 1, none⟩ = some (.slice A0_1 l0_1.length c0_1) ∧ w'.cell? ⟨w.heap.size + 1, 0, none⟩ = some (.int .i64 a1) ∧ w'.cell? ⟨w.heap.size + 1 + 1, 0, none⟩ = some (.slice A2 l2.length c2))) (by kernel_rfl) ?e_s (fun hHeld => ?e_0)
        case e_s => exact ⟨s0, s1, s2, s3⟩
        case e_0 =>
        refine takeD (i := 0) (some 7) (v := ?e0_v) rfl rfl (by kernel_rfl) (by kernel_rfl) (by kernel_rfl) (fun _ _ _ h => h) (Or.inl ⟨by rfl, ?e0_y⟩) hHeld ?e0_n
        case e0_y => intro w_ hS_; (try dsimp only at hS_); go_simp; try (with_reducible rfl)
        simp only [Act.put, List.setIfInBounds_toArray, List.set_cons_zero, List.set_cons_succ]
        refine wpAnyH_ready (rs := [1]) (by kernel_rfl) (by simp) ?_
        refine AllReadyH.cons rfl (fun K hK => ?_) AllReadyH.nil
        go_simp
        (go_at_call 59; refine (P1.out _ (below_drew HB2.out)).mono ?_; rintro e w1 ⟨rfl, hb1⟩; have HB3 := Aside0.mk (below_then (below_drew HB2.out) (below_size (below_drew HB2.out)) hb1); have hcs1 := isrep_cells (w := w) hb1 s0 s1 s2 s3; clear hb1 P1)
        refine hK.out _ _ ?e1_s (fun hHeld2 => ?e1_n)
        case e1_s => (try dsimp only); exact hcs1
        clear hK K hHeld; have hHeld := hHeld2; clear hHeld2
        refine takeD (i := 2) (some 9) (v := ?e2_v) rfl rfl (by kernel_rfl) (by kernel_rfl) (by kernel_rfl) (fun _ _ _ h => h) (Or.inl ⟨by rfl, ?e2_y⟩) hHeld ?e2_n
        case e2_y => intro w_ hS_; (try dsimp only at hS_); go_simp; try (with_reducible rfl)
        simp only [Act.put, List.setIfInBounds_toArray, List.set_cons_zero, List.set_cons_succ]
        refine takeD (i := 3) (some 10) (v := ?e3_v) rfl rfl (by kernel_rfl) (by kernel_rfl) (by kernel_rfl) (fun _ _ _ h => h) (Or.inl ⟨by rfl, ?e3_y⟩) hHeld ?e3_n
        case e3_y => intro w_ hS_; (try dsimp only at hS_); go_simp; try (with_reducible rfl)
        simp only [Act.put, List.setIfInBounds_toArray, List.set_cons_zero, List.set_cons_succ]
        refine takeD (i := 4) (some 11) (v := ?e4_v) rfl rfl (by kernel_rfl) (by kernel_rfl) (by kernel_rfl) (fun _ _ _ h => h) (Or.inl ⟨by rfl, ?e4_y⟩) hHeld ?e4_n
        case e4_y => intro w_ hS_; (try dsimp only at hS_); go_simp; try (with_reducible rfl)
        simp only [Act.put, List.setIfInBounds_toArray, List.set_cons_zero, List.set_cons_succ]
        refine wpAnyH_ready (rs := [5]) (by kernel_rfl) (by simp) ?_
        refine AllReadyH.cons rfl (fun K hK => ?_) AllReadyH.nil
        go_simp
        (go_at_call 88; refine (P2.out _ HB3.out).mono ?_; rintro e w2 ⟨rfl, hb2⟩; have HB4 := Aside0.mk (below_then HB3.out (below_size HB3.out) hb2); obtain ⟨t0, t1, t2, t3⟩ := hcs1; have hcs2 := isrep_cells (w := w) hb2 t0 t1 t2 t3; clear hb2 P2 t0 t1 t2 t3)
        refine hK.out _ _ ?e5_s (fun hHeld2 => ?e5_n)
        case e5_s => (try dsimp only); exact hcs2
        clear hK K hHeld; have hHeld := hHeld2; clear hHeld2
        refine takeD (i := 6) (some 13) (v := ?e6_v) rfl rfl (by kernel_rfl) (by kernel_rfl) (by kernel_rfl) (fun _ _ _ h => h) (Or.inl ⟨by rfl, ?e6_y⟩) hHeld ?e6_n
        case e6_y => intro w_ hS_; (try dsimp only at hS_); go_simp; try (with_reducible rfl)
        simp only [Act.put, List.setIfInBounds_toArray, List.set_cons_zero, List.set_cons_succ]
        refine takeD (i := 7) (some 14) (v := ?e7_v) rfl rfl (by kernel_rfl) (by kernel_rfl) (by kernel_rfl) (fun _ _ _ h => h) (Or.inl ⟨by rfl, ?e7_y⟩) hHeld ?e7_n
        case e7_y => intro w_ hS_; (try dsimp only at hS_); go_simp; try (with_reducible rfl)
        simp only [Act.put, List.setIfInBounds_toArray, List.set_cons_zero, List.set_cons_succ]
        refine takeD (i := 8) (some 15) (v := ?e8_v) rfl rfl (by kernel_rfl) (by kernel_rfl) (by kernel_rfl) (fun _ _ _ h => h) (Or.inl ⟨by rfl, ?e8_y⟩) hHeld ?e8_n
        case e8_y => intro w_ hS_; (try dsimp only at hS_); go_simp; try (with_reducible rfl)
        simp only [Act.put, List.setIfInBounds_toArray, List.set_cons_zero, List.set_cons_succ]
        refine takeD (i := 10) (some 17) (v := ?e9_v) rfl rfl (by kernel_rfl) (by kernel_rfl) (by kernel_rfl) (fun _ _ _ h => h) (Or.inl ⟨by rfl, ?e9_y⟩) hHeld ?e9_n
        case e9_y => intro w_ hS_; (try dsimp only at hS_); go_simp; try (with_reducible rfl)
        simp only [Act.put, List.setIfInBounds_toArray, List.set_cons_zero, List.set_cons_succ]
        refine takeD (i := 11) (some 18) (v := ?e10_v) rfl rfl (by kernel_rfl) (by kernel_rfl) (by kernel_rfl) (fun _ _ _ h => h) (Or.inl ⟨by rfl, ?e10_y⟩) hHeld ?e10_n
        case e10_y => intro w_ hS_; (try dsimp only at hS_); go_simp; try (with_reducible rfl)
        simp only [Act.put, List.setIfInBounds_toArray, List.set_cons_zero, List.set_cons_succ]
        refine wpAnyH_ready (rs := [9]) (by kernel_rfl) (by simp) ?_
        refine AllReadyH.cons rfl (fun K hK => ?_) AllReadyH.nil
        go_simp
        (go_at_call 82; refine (size_rows_ A2 l2.length c2 _).mono ?_; rintro e w3 ⟨rfl, hd⟩; have hb3 := hd.below; have HB5 := Aside0.mk (below_then HB4.out (below_size HB4.out) hb3); obtain ⟨t0, t1, t2, t3⟩ := hcs2; have hcs3 := isrep_cells (w := w) hb3 t0 t1 t2 t3; clear hd hb3 t0 t1 t2 t3)
        refine hK.out _ _ ?e11_s (fun hHeld2 => ?e11_n)
        case e11_s => (try dsimp only); exact hcs3
        clear hK K hHeld; have hHeld := hHeld2; clear hHeld2
        refine takeD (i := 12) (some 19) (v := ?e12_v) rfl rfl (by kernel_rfl) (by kernel_rfl) (by kernel_rfl) (fun _ _ _ h => h) (Or.inl ⟨by rfl, ?e12_y⟩) hHeld ?e12_n
        case e12_y => intro w_ hS_; (try dsimp only at hS_); go_simp; try (with_reducible rfl)
        simp only [Act.put, List.setIfInBounds_toArray, List.set_cons_zero, List.set_cons_succ]
        refine takeD (i := 13) (some 20) (v := ?e13_v) rfl rfl (by kernel_rfl) (by kernel_rfl) (by kernel_rfl) (fun _ _ _ h => h) (Or.inl ⟨by rfl, ?e13_y⟩) hHeld ?e13_n
        case e13_y => intro w_ hS_; (try dsimp only at hS_); go_simp; try (with_reducible rfl)
        simp only [Act.put, List.setIfInBounds_toArray, List.set_cons_zero, List.set_cons_succ]
        refine takeD (i := 14) (some 21) (v := ?e14_v) rfl rfl (by kernel_rfl) (by kernel_rfl) (by kernel_rfl) (fun _ _ _ h => h) (Or.inl ⟨by rfl, ?e14_y⟩) hHeld ?e14_n
        case e14_y => intro w_ hS_; (try dsimp only at hS_); go_simp; try (with_reducible rfl)
        simp only [Act.put, List.setIfInBounds_toArray, List.set_cons_zero, List.set_cons_succ]
        refine takeD (i := 15) (some 22) (v := undef) rfl rfl (by kernel_rfl) (by kernel_rfl) (by kernel_rfl) (fun _ _ _ h => h) (Or.inr ⟨by rfl, rfl⟩) hHeld ?_
        simp only [Act.put, List.setIfInBounds_toArray, List.set_cons_zero, List.set_cons_succ]
        refine takeD (i := 16) (some 23) (v := undef) rfl rfl (by kernel_rfl) (by kernel_rfl) (by kernel_rfl) (fun _ _ _ h => h) (Or.inr ⟨by rfl, rfl⟩) hHeld ?_
        simp only [Act.put, List.setIfInBounds_toArray, List.set_cons_zero, List.set_cons_succ]
        refine takeD (i := 17) (some 24) (v := undef) rfl rfl (by kernel_rfl) (by kernel_rfl) (by kernel_rfl) (fun _ _ _ h => h) (Or.inr ⟨by rfl, rfl⟩) hHeld ?_
        simp only [Act.put, List.setIfInBounds_toArray, List.set_cons_zero, List.set_cons_succ]
        refine takeD (i := 18) (some 25) (v := undef) rfl rfl (by kernel_rfl) (by kernel_rfl) (by kernel_rfl) (fun _ _ _ h => h) (Or.inr ⟨by rfl, rfl⟩) hHeld ?_
        simp only [Act.put, List.setIfInBounds_toArray, List.set_cons_zero, List.set_cons_succ]
        refine takeD (i := 19) (some 26) (v := undef) rfl rfl (by kernel_rfl) (by kernel_rfl) (by kernel_rfl) (fun _ _ _ h => h) (Or.inr ⟨by rfl, rfl⟩) hHeld ?_
        simp only [Act.put, List.setIfInBounds_toArray, List.set_cons_zero, List.set_cons_succ]
        refine takeD (i := 20) (some 27) (v := ?e20_v) rfl rfl (by kernel_rfl) (by kernel_rfl) (by kernel_rfl) (fun _ _ _ h => h) (Or.inl ⟨by rfl, ?e20_y⟩) hHeld ?e20_n
        case e20_y => intro w_ hS_; (try dsimp only at hS_); go_simp; try (with_reducible rfl)
        simp only [Act.put, List.setIfInBounds_toArray, List.set_cons_zero, List.set_cons_succ]
        refine takeD (i := 21) (some 6) (v := ?e21_v) rfl rfl (by kernel_rfl) (by kernel_rfl) (by kernel_rfl) (fun _ _ _ h => h) (Or.inl ⟨by rfl, ?e21_y⟩) hHeld ?e21_n
        case e21_y => intro w_ hS_; (try dsimp only at hS_); go_simp; try (with_reducible rfl)
        simp only [Act.put, List.setIfInBounds_toArray, List.set_cons_zero, List.set_cons_succ]
        refine wpAnyH_done (by kernel_rfl) ?_ _
        go_wp2
        go_ret
        exact ⟨by rw [← H3.out] <;> rfl, HB5.out⟩

/-! ### cmp_isNaN_int64: function 152 -/
def cmp_isNaN_int64.f (a0 : Int) : Option (Bool) := some (a0 != a0)
set_option maxHeartbeats 8000000 in
set_option maxRecDepth 100000 in
theorem cmp_isNaN_int64.calls (a0 : Int) (r : Bool) (w : World) (h : cmp_isNaN_int64.f a0 = some r) :
    Calls Try.prog 152 #[.int .i64 a0] w fun e w' => e = .returned (.bool r) ∧ Drawn0 w w' := by
  have H : (some (a0 != a0)) = some r := h
  clear h
  obtain rfl := Option.some.inj H
  go_enter Try.func152, Try.ntmps152
  go_wp2
  go_ret
  exact ⟨by first | rfl | (simp; done) | (simp [*]; done), by repeat (first | exact Drawn0.refl _ | apply Drawn0.step)⟩

end Go.Proofs.Ytbcdngjajjgmkaa.PFnExactStabilizerPresentation
