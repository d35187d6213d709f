/- Written by this session's program out of the kit's print and this session's contracts. -/
import Derived.Test.YtpkocglndlmhkaaPFnExactMultiplyLaurentx0
import Derived.Test.YtpkocglndlmhkaaPFnExactMultiplyLaurentx6
import Derived.Test.YtpkocglndlmhkaaPFnExactMultiplyLaurentx7
import Derived.Test.YtpkocglndlmhkaaPFnExactMultiplyLaurentx8
namespace Go.Proofs.Ytpkocglndlmhkaa.PFnExactMultiplyLaurent
open Go.RowKit Go.Proofs.YtpkocglndlmhkaaW.PrintWords Go.Proofs.YtpkocglndlmhkaaW.PrintLast Go.Proofs.YtpkocglndlmhkaaW.PrintMore
attribute [local go_sem] max2_int min2_int max_two min_two max_three min_three max_four min_four   -- for this text's walks alone
set_option linter.unusedVariables false
set_option linter.unusedSimpArgs false

/-! ### impl_MultiplyLaurent: function 13 -/
mutual
def impl_MultiplyLaurent.l0 : Nat → List Int → Int → Int → Int → List Int → Int → List Int → Option (Int × List Int × Int)
 | 0, _, _, _, _, _, _, _ => none
 | k + 1, x45, x46, x47, x231000, x231001, x244000, x244001 => if x47 < x46 then (if 0 ≤ x47 then (if x47 < (x45.length : Int) then (impl_MultiplyLaurent.l1 k x47 (rd x45 x47) x45 x46 x47 x231001 (x231001.length : Int) 0 x231000 x231001 x244000 x244001) else (none)) else (none)) else ((impl_valid.f k x244000 x244001).bind fun bt244 => (some (bt244.1, bt244.2.1, bt244.2.2)))
def impl_MultiplyLaurent.l1 : Nat → Int → Int → List Int → Int → Int → List Int → Int → Int → Int → List Int → Int → List Int → Option (Int × List Int × Int)
 | 0, _, _, _, _, _, _, _, _, _, _, _, _ => none
 | k + 1, x9, x10, x45, x46, x47, x53, x54, x55, x231000, x231001, x244000, x244001 => if x55 < x54 then (if 0 ≤ x55 then (if x55 < (x53.length : Int) then (if 0 ≤ (wrap64 (x9 + x55)) then (if (wrap64 (x9 + x55)) < (x244001.length : Int) then (impl_MultiplyLaurent.l1 k x9 x10 x45 x46 x47 x53 x54 (wrap64 (x55 + 1)) x231000 x231001 x244000 (x244001.set ((wrap64 (x9 + x55)) : Int).toNat (wrap64 ((rd x244001 (wrap64 (x9 + x55))) + (wrap64 (x10 * (rd x53 x55))))))) else (none)) else (none)) else (none)) else (none)) else (impl_MultiplyLaurent.l0 k x45 x46 (wrap64 (x47 + 1)) x231000 x231001 x244000 x244001)
end
def impl_MultiplyLaurent.f (k : Nat) (a0_0 : Int) (l0_1 : List Int) (a1_0 : Int) (l1_1 : List Int) : Option (Int × List Int × Int) := (impl_areLaurents.f (([(⟨a0_0, l0_1⟩ : S26), (⟨a1_0, l1_1⟩ : S26)] : List (S26)))).bind fun t235 => (if t235 = true then ((impl_Laurent_weight.f k a0_0 l0_1).bind fun t236 => ((impl_Laurent_weight.f k a1_0 l1_1).bind fun t237 => ((impl_product.f t236 t237 1000000000000).bind fun bt238 => (if bt238.2 = true then (if 0 ≤ (wrap64 ((l0_1.length : Int) + (l1_1.length : Int))) then (if (wrap64 ((l0_1.length : Int) + (l1_1.length : Int)) : Int).toNat ≤ 35184372088832 then (impl_MultiplyLaurent.l0 k l0_1 (l0_1.length : Int) 0 a1_0 l1_1 (wrap64 (a0_0 + a1_0)) (List.replicate (wrap64 ((l0_1.length : Int) + (l1_1.length : Int)) : Int).toNat 0)) else (none)) else (none)) else (some (0, ([] : List Int), 3)))))) else (some (0, ([] : List Int), 1)))
theorem impl_MultiplyLaurent.mono_l : ∀ k, (∀ y0 y1 y2 y3 y4 y5 y6, LeO (impl_MultiplyLaurent.l0 k y0 y1 y2 y3 y4 y5 y6) (impl_MultiplyLaurent.l0 (k + 1) y0 y1 y2 y3 y4 y5 y6)) ∧ (∀ y0 y1 y2 y3 y4 y5 y6 y7 y8 y9 y10 y11, LeO (impl_MultiplyLaurent.l1 k y0 y1 y2 y3 y4 y5 y6 y7 y8 y9 y10 y11) (impl_MultiplyLaurent.l1 (k + 1) y0 y1 y2 y3 y4 y5 y6 y7 y8 y9 y10 y11))
 | 0 => ⟨fun _ _ _ _ _ _ _ r h => by simp [impl_MultiplyLaurent.l0] at h, fun _ _ _ _ _ _ _ _ _ _ _ _ r h => by simp [impl_MultiplyLaurent.l1] at h⟩
 | k + 1 => by
  obtain ⟨ih0, ih1⟩ := impl_MultiplyLaurent.mono_l k
  refine ⟨?_, ?_⟩
  ·intro y0 y1 y2 y3 y4 y5 y6
   unfold impl_MultiplyLaurent.l0
   repeat' first
   | (with_reducible exact ih0 _ _ _ _ _ _ _)
   | (with_reducible exact ih1 _ _ _ _ _ _ _ _ _ _ _ _)
   | (with_reducible exact impl_Laurent_weight.mono _ _ _)
   | (with_reducible exact impl_valid.mono _ _ _)
   | (with_reducible exact LeO.refl _)
   | (with_reducible exact LeO.none _)
   | (with_reducible refine LeO.ite ?_ ?_)
   | (with_reducible refine LeO.bind ?_ (fun _ => ?_))
   | exact ih0 _ _ _ _ _ _ _
   | exact ih1 _ _ _ _ _ _ _ _ _ _ _ _
   | exact impl_Laurent_weight.mono _ _ _
   | exact impl_valid.mono _ _ _
   | exact LeO.none _
   | refine LeO.ite ?_ ?_
   | refine LeO.bind ?_ (fun _ => ?_)
  ·intro y0 y1 y2 y3 y4 y5 y6 y7 y8 y9 y10 y11
   unfold impl_MultiplyLaurent.l1
   repeat' first
   | (with_reducible exact ih0 _ _ _ _ _ _ _)
   | (with_reducible exact ih1 _ _ _ _ _ _ _ _ _ _ _ _)
   | (with_reducible exact impl_Laurent_weight.mono _ _ _)
   | (with_reducible exact impl_valid.mono _ _ _)
   | (with_reducible exact LeO.refl _)
   | (with_reducible exact LeO.none _)
   | (with_reducible refine LeO.ite ?_ ?_)
   | (with_reducible refine LeO.bind ?_ (fun _ => ?_))
   | exact ih0 _ _ _ _ _ _ _
   | exact ih1 _ _ _ _ _ _ _ _ _ _ _ _
   | exact impl_Laurent_weight.mono _ _ _
   | exact impl_valid.mono _ _ _
   | exact LeO.none _
   | refine LeO.ite ?_ ?_
   | refine LeO.bind ?_ (fun _ => ?_)
theorem impl_MultiplyLaurent.mono : ∀ a0 a1 a2 a3 k, LeO (impl_MultiplyLaurent.f k a0 a1 a2 a3) (impl_MultiplyLaurent.f (k + 1) a0 a1 a2 a3) := by
 intro a0 a1 a2 a3 k
 obtain ⟨ih0, ih1⟩ := impl_MultiplyLaurent.mono_l k
 unfold impl_MultiplyLaurent.f
 repeat' first
   | (with_reducible exact ih0 _ _ _ _ _ _ _)
   | (with_reducible exact ih1 _ _ _ _ _ _ _ _ _ _ _ _)
   | (with_reducible exact impl_Laurent_weight.mono _ _ _)
   | (with_reducible exact impl_valid.mono _ _ _)
   | (with_reducible exact LeO.refl _)
   | (with_reducible exact LeO.none _)
   | (with_reducible refine LeO.ite ?_ ?_)
   | (with_reducible refine LeO.bind ?_ (fun _ => ?_))
   | exact ih0 _ _ _ _ _ _ _
   | exact ih1 _ _ _ _ _ _ _ _ _ _ _ _
   | exact impl_Laurent_weight.mono _ _ _
   | exact impl_valid.mono _ _ _
   | exact LeO.none _
   | refine LeO.ite ?_ ?_
   | refine LeO.bind ?_ (fun _ => ?_)
def impl_MultiplyLaurent.T3 : Bool × List (List Nat × List Nat) := (true, [([], []), ([0], [0]), ([], []), ([2, 1], [2]), ([1, 3, 3], [1, 3]), ([4], [4]), ([5], [5]), ([5], [5]), ([6, 4, 0, 1, 2, 3, 4, 5, 6], [6]), ([7, 8, 0, 1, 2, 3, 4, 5, 6, 7, 8], [7])])
def impl_MultiplyLaurent.B3 : List Nat := [0, 1, 0, 7, 15, 31, 63, 63, 127, 511]
theorem impl_MultiplyLaurent.tab3 : rtab .any (opsOf Try.f13 3) = impl_MultiplyLaurent.T3 := by kernel_rfl
theorem impl_MultiplyLaurent.bits3 : waitsOk impl_MultiplyLaurent.T3.2 impl_MultiplyLaurent.B3 = true := by kernel_rfl
def impl_MultiplyLaurent.T6 : Bool × List (List Nat × List Nat) := (true, [([], []), ([0], [0]), ([], []), ([2], [2]), ([1, 3], [1, 3]), ([], []), ([5], [5]), ([6], [6]), ([], []), ([8], [8]), ([9], [9]), ([7, 10], [7, 10]), ([11, 11], [11]), ([4, 12], [4, 12]), ([], []), ([14, 13, 0, 1, 2, 3, 4, 5, 6, 7, 8, 9, 10, 11, 12, 13, 14], [13, 14])])
def impl_MultiplyLaurent.B6 : List Nat := [0, 1, 0, 4, 15, 0, 32, 96, 0, 256, 768, 2016, 4064, 8191, 0, 32767]
theorem impl_MultiplyLaurent.tab6 : rtab .any (opsOf Try.f13 6) = impl_MultiplyLaurent.T6 := by kernel_rfl
theorem impl_MultiplyLaurent.bits6 : waitsOk impl_MultiplyLaurent.T6.2 impl_MultiplyLaurent.B6 = true := by kernel_rfl
set_option maxHeartbeats 8000000 in
set_option maxRecDepth 100000 in
theorem impl_MultiplyLaurent.calls (k : Nat) (a0_0 : Int) (P0_1_ : Nat → Prop) (A0_1 : Option Addr) (c0_1 : Nat) (l0_1 : List Int) (a1_0 : Int) (P1_1_ : Nat → Prop) (A1_1 : Option Addr) (c1_1 : Nat) (l1_1 : List Int) (r1 : Int) (r2 : List Int) (r3 : Int) (w : World) (hs0_1 : Kd.V (Kd.int .i64) 2 w w.heap.size (fun k_ => P0_1_ k_) (.slice A0_1 l0_1.length c0_1) l0_1) (hs1_1 : Kd.V (Kd.int .i64) 2 w w.heap.size (fun k_ => P1_1_ k_) (.slice A1_1 l1_1.length c1_1) l1_1) (h : impl_MultiplyLaurent.f k a0_0 l0_1 a1_0 l1_1 = some (r1, r2, r3)) :
  Calls Try.prog 13 #[.agg #[.int .i64 a0_0, .slice A0_1 l0_1.length c0_1], .agg #[.int .i64 a1_0, .slice A1_1 l1_1.length c1_1]] w fun e w' => ∃ v1_ : Value, e = .returned (.tuple #[.agg #[.int .i64 r1, v1_], .int .i64 r3]) ∧ Kd.R (Kd.int .i64) 2 w' w.heap.size (fun k_ => (w.heap.size ≤ k_)) v1_ r2 ∧ Below w.heap.size w w' := by
 have hu26 := Try.underlying26
 have HO0_1 := am_ (show Kd.V (Kd.int .i64) 2 w w.heap.size (fun k_ => ((P0_1_ k_ ∨ P1_1_ k_) ∨ w.heap.size ≤ k_)) (.slice A0_1 l0_1.length c0_1) l0_1 from Kd.V_mono hs0_1 (fun k_ hk => .inl (.inl hk)))
 have HO1_1 := am_ (show Kd.V (Kd.int .i64) 2 w w.heap.size (fun k_ => ((P0_1_ k_ ∨ P1_1_ k_) ∨ w.heap.size ≤ k_)) (.slice A1_1 l1_1.length c1_1) l1_1 from Kd.V_mono hs1_1 (fun k_ hk => .inl (.inr hk)))
 have HB := am_ (Below.refl w.heap.size w)
 have H : ((impl_areLaurents.f (([(⟨a0_0, l0_1⟩ : S26), (⟨a1_0, l1_1⟩ : S26)] : List (S26)))).bind fun t235 => (if t235 = true then ((impl_Laurent_weight.f k a0_0 l0_1).bind fun t236 => ((impl_Laurent_weight.f k a1_0 l1_1).bind fun t237 => ((impl_product.f t236 t237 1000000000000).bind fun bt238 => (if bt238.2 = true then (if 0 ≤ (wrap64 ((l0_1.length : Int) + (l1_1.length : Int))) then (if (wrap64 ((l0_1.length : Int) + (l1_1.length : Int)) : Int).toNat ≤ 35184372088832 then (impl_MultiplyLaurent.l0 k l0_1 (l0_1.length : Int) 0 a1_0 l1_1 (wrap64 (a0_0 + a1_0)) (List.replicate (wrap64 ((l0_1.length : Int) + (l1_1.length : Int)) : Int).toNat 0)) else (none)) else (none)) else (some (0, ([] : List Int), 3)))))) else (some (0, ([] : List Int), 1)))) = some (r1, r2, r3) := h
 clear h
 obtain ⟨y232, hy232⟩ : ∃ y_ : List (S26), y_ = (([(⟨a0_0, l0_1⟩ : S26), (⟨a1_0, l1_1⟩ : S26)] : List (S26))) := ⟨_, rfl⟩
 replace H : ((impl_areLaurents.f y232).bind fun t235 => (if t235 = true then ((impl_Laurent_weight.f k a0_0 l0_1).bind fun t236 => ((impl_Laurent_weight.f k a1_0 l1_1).bind fun t237 => ((impl_product.f t236 t237 1000000000000).bind fun bt238 => (if bt238.2 = true then (if 0 ≤ (wrap64 ((l0_1.length : Int) + (l1_1.length : Int))) then (if (wrap64 ((l0_1.length : Int) + (l1_1.length : Int)) : Int).toNat ≤ 35184372088832 then (impl_MultiplyLaurent.l0 k l0_1 (l0_1.length : Int) 0 a1_0 l1_1 (wrap64 (a0_0 + a1_0)) (List.replicate (wrap64 ((l0_1.length : Int) + (l1_1.length : Int)) : Int).toNat 0)) else (none)) else (none)) else (some (0, ([] : List Int), 3)))))) else (some (0, ([] : List Int), 1)))) = some (r1, r2, r3) := by first | (rw [hy232]; with_reducible exact H) | (have H2_ := (Option.bind_some _ _).symm.trans H; rw [hy232]; with_reducible exact H2_) | (have H2_ := (Option.bind_some _ _).symm.trans H; with_reducible exact H2_) | with_reducible exact H | (rw [hy232]; exact H) | exact H
 have Ny232 := am_ hy232
 clear hy232
 replace H := Option.bind_eq_some_iff.mp H
 obtain ⟨t235, A30, H⟩ := H
 replace H : (if t235 = true then ((impl_Laurent_weight.f k a0_0 l0_1).bind fun t236 => ((impl_Laurent_weight.f k a1_0 l1_1).bind fun t237 => ((impl_product.f t236 t237 1000000000000).bind fun bt238 => (if bt238.2 = true then (if 0 ≤ (wrap64 ((l0_1.length : Int) + (l1_1.length : Int))) then (if (wrap64 ((l0_1.length : Int) + (l1_1.length : Int)) : Int).toNat ≤ 35184372088832 then (impl_MultiplyLaurent.l0 k l0_1 (l0_1.length : Int) 0 a1_0 l1_1 (wrap64 (a0_0 + a1_0)) (List.replicate (wrap64 ((l0_1.length : Int) + (l1_1.length : Int)) : Int).toNat 0)) else (none)) else (none)) else (some (0, ([] : List Int), 3)))))) else (some (0, ([] : List Int), 1))) = some (r1, r2, r3) := H
 have A3 := am_ A30
 clear A30
 by_cases c4 : t235 = true
 ·subst c4
  have H1 : ((impl_Laurent_weight.f k a0_0 l0_1).bind fun t236 => ((impl_Laurent_weight.f k a1_0 l1_1).bind fun t237 => ((impl_product.f t236 t237 1000000000000).bind fun bt238 => (if bt238.2 = true then (if 0 ≤ (wrap64 ((l0_1.length : Int) + (l1_1.length : Int))) then (if (wrap64 ((l0_1.length : Int) + (l1_1.length : Int)) : Int).toNat ≤ 35184372088832 then (impl_MultiplyLaurent.l0 k l0_1 (l0_1.length : Int) 0 a1_0 l1_1 (wrap64 (a0_0 + a1_0)) (List.replicate (wrap64 ((l0_1.length : Int) + (l1_1.length : Int)) : Int).toNat 0)) else (none)) else (none)) else (some (0, ([] : List Int), 3)))))) = some (r1, r2, r3) := by rw [if_pos rfl] at H; exact H
  clear H
  have H := H1
  clear H1
  replace H := Option.bind_eq_some_iff.mp H
  obtain ⟨t236, A50, H⟩ := H
  replace H : ((impl_Laurent_weight.f k a1_0 l1_1).bind fun t237 => ((impl_product.f t236 t237 1000000000000).bind fun bt238 => (if bt238.2 = true then (if 0 ≤ (wrap64 ((l0_1.length : Int) + (l1_1.length : Int))) then (if (wrap64 ((l0_1.length : Int) + (l1_1.length : Int)) : Int).toNat ≤ 35184372088832 then (impl_MultiplyLaurent.l0 k l0_1 (l0_1.length : Int) 0 a1_0 l1_1 (wrap64 (a0_0 + a1_0)) (List.replicate (wrap64 ((l0_1.length : Int) + (l1_1.length : Int)) : Int).toNat 0)) else (none)) else (none)) else (some (0, ([] : List Int), 3))))) = some (r1, r2, r3) := H
  have A5 := am_ A50
  clear A50
  replace H := Option.bind_eq_some_iff.mp H
  obtain ⟨t237, A60, H⟩ := H
  replace H : ((impl_product.f t236 t237 1000000000000).bind fun bt238 => (if bt238.2 = true then (if 0 ≤ (wrap64 ((l0_1.length : Int) + (l1_1.length : Int))) then (if (wrap64 ((l0_1.length : Int) + (l1_1.length : Int)) : Int).toNat ≤ 35184372088832 then (impl_MultiplyLaurent.l0 k l0_1 (l0_1.length : Int) 0 a1_0 l1_1 (wrap64 (a0_0 + a1_0)) (List.replicate (wrap64 ((l0_1.length : Int) + (l1_1.length : Int)) : Int).toNat 0)) else (none)) else (none)) else (some (0, ([] : List Int), 3)))) = some (r1, r2, r3) := H
  have A6 := am_ A60
  clear A60
  replace H := Option.bind_eq_some_iff.mp H
  obtain ⟨⟨t238, t239⟩, A70, H⟩ := H
  replace H : (if t239 = true then (if 0 ≤ (wrap64 ((l0_1.length : Int) + (l1_1.length : Int))) then (if (wrap64 ((l0_1.length : Int) + (l1_1.length : Int)) : Int).toNat ≤ 35184372088832 then (impl_MultiplyLaurent.l0 k l0_1 (l0_1.length : Int) 0 a1_0 l1_1 (wrap64 (a0_0 + a1_0)) (List.replicate (wrap64 ((l0_1.length : Int) + (l1_1.length : Int)) : Int).toNat 0)) else (none)) else (none)) else (some (0, ([] : List Int), 3))) = some (r1, r2, r3) := H
  have A7 := am_ A70
  clear A70
  by_cases c8 : t239 = true
  ·subst c8
   have H1 : (if 0 ≤ (wrap64 ((l0_1.length : Int) + (l1_1.length : Int))) then (if (wrap64 ((l0_1.length : Int) + (l1_1.length : Int)) : Int).toNat ≤ 35184372088832 then (impl_MultiplyLaurent.l0 k l0_1 (l0_1.length : Int) 0 a1_0 l1_1 (wrap64 (a0_0 + a1_0)) (List.replicate (wrap64 ((l0_1.length : Int) + (l1_1.length : Int)) : Int).toNat 0)) else (none)) else (none)) = some (r1, r2, r3) := by rw [if_pos rfl] at H; exact H
   clear H
   have H := H1
   clear H1
   obtain ⟨ji9, hji9⟩ : ∃ j_ : Int, (wrap64 ((l0_1.length : Int) + (l1_1.length : Int))) = j_ := ⟨_, rfl⟩
   replace H : (if 0 ≤ (ji9) then (if (ji9 : Int).toNat ≤ 35184372088832 then (impl_MultiplyLaurent.l0 k l0_1 (l0_1.length : Int) 0 a1_0 l1_1 (wrap64 (a0_0 + a1_0)) (List.replicate (ji9 : Int).toNat 0)) else (none)) else (none)) = some (r1, r2, r3) := by first | (rw [hji9] at H; exact H) | (simp only [hji9] at H ⊢; exact H)
   (try rw [hji9] at A3)
   (try rw [hji9] at A5)
   (try rw [hji9] at A6)
   (try rw [hji9] at A7)
   have hji9w : (IntKind.i64.wrap ((l0_1.length : Int) + (l1_1.length : Int))) = ji9 := (i64_w _).trans hji9
   by_cases c10 : 0 ≤ (ji9)
   ·rw [if_pos c10] at H
    have c10b0 := eq_true c10
    have c10b1 : decide (0 ≤ (ji9)) = true := decide_eq_true c10
    clear c10
    by_cases c11 : (ji9 : Int).toNat ≤ 35184372088832
    ·rw [if_pos c11] at H
     have c11b0 := eq_true c11
     have c11b1 : decide ((ji9 : Int).toNat ≤ 35184372088832) = true := decide_eq_true c11
     clear c11
     obtain ⟨y240, hy240⟩ : ∃ y_ : List Int, y_ = (List.replicate (ji9 : Int).toNat 0) := ⟨_, rfl⟩
     replace H : (impl_MultiplyLaurent.l0 k l0_1 (l0_1.length : Int) 0 a1_0 l1_1 (wrap64 (a0_0 + a1_0)) y240) = some (r1, r2, r3) := by first | (rw [hy240]; with_reducible exact H) | (have H2_ := (Option.bind_some _ _).symm.trans H; rw [hy240]; with_reducible exact H2_) | (have H2_ := (Option.bind_some _ _).symm.trans H; with_reducible exact H2_) | with_reducible exact H | (rw [hy240]; exact H) | exact H
     have Ny240 := am_ hy240
     clear hy240
     have H' := am_ H
     clear H
     go_enter Try.func13, Try.ntmps13
     try go_wp2_with (first | ((with_reducible refine gate_dst (N := 2) rfl ?_); refine box_event ?hg (N := 2) ?hd (cs := #[.int .i64 a0_0, .slice A0_1 l0_1.length c0_1]) (t := 26) ?hr ?_; (case hd => rfl); (case hg => rfl); (case hr => first | (go_simp; done) | (go_simp; rfl)); intro gb229 hg w12 hbox hb; have n0_ := am_ (Kd.V_below (Kd.V_elderB (by (with_reducible repeat (first | apply Kd.V_alloc | apply Kd.V_drewN | apply Kd.V_drew)); exact HO0_1.out) gb229 (Nat.le_of_eq hg.symm)) hb); have n1_ := am_ (Kd.V_below (Kd.V_elderB (by (with_reducible repeat (first | apply Kd.V_alloc | apply Kd.V_drewN | apply Kd.V_drew)); exact HO1_1.out) gb229 (Nat.le_of_eq hg.symm)) hb); have n2_ := am_ (below_step (bb_ HB.out) hb); have n3_ := am_ (hbox); have n4_ := am_ ((by rw [hg]; exact (below_size (bb_ HB.out)) : w.heap.size ≤ gb229)); have n5_ := am_ ((by rw [hg]; exact (below_size (bb_ HB.out)) : w.heap.size ≤ gb229)); clear HO0_1 HO1_1 HB; revert n0_ n1_ n2_ n3_ n4_ n5_; intro HO0_1 HO1_1 HB BK229 GW229 GE229; clear hb hbox hg) | ((with_reducible refine gate_dst (N := 3) rfl ?_); refine box_event ?hg (N := 3) ?hd (cs := #[.int .i64 a1_0, .slice A1_1 l1_1.length c1_1]) (t := 26) ?hr ?_; (case hd => rfl); (case hg => rfl); (case hr => first | (go_simp; done) | (go_simp; rfl)); intro gb230 hg w13 hbox hb; have n0_ := am_ (Kd.V_below (Kd.V_elderB (by (with_reducible repeat (first | apply Kd.V_alloc | apply Kd.V_drewN | apply Kd.V_drew)); exact HO0_1.out) gb230 (Nat.le_of_eq hg.symm)) hb); have n1_ := am_ (Kd.V_below (Kd.V_elderB (by (with_reducible repeat (first | apply Kd.V_alloc | apply Kd.V_drewN | apply Kd.V_drew)); exact HO1_1.out) gb230 (Nat.le_of_eq hg.symm)) hb); have n2_ := am_ (bw_ BK229 hb); have n3_ := am_ (below_step (bb_ HB.out) hb); have n4_ := am_ (hbox); have n5_ := am_ ((by rw [hg]; exact (below_size (bb_ HB.out)) : w.heap.size ≤ gb230)); have n6_ := am_ ((by rw [hg]; exact (below_size (bb_ HB.out)) : w.heap.size ≤ gb230)); have n7_ := am_ ((by rw [hg]; exact Nat.ne_of_lt (bl_ BK229) : gb229 ≠ gb230)); have n8_ := am_ ((by rw [hg]; exact Nat.ne_of_gt (bl_ BK229) : gb230 ≠ gb229)); clear HO0_1 HO1_1 BK229 HB; revert n0_ n1_ n2_ n3_ n4_ n5_ n6_ n7_ n8_; intro HO0_1 HO1_1 BK229 HB BK230 GW230 GE230 NB229_230 NB230_229; clear hb hbox hg) | ((with_reducible refine gate_dst (N := 4) rfl ?_); refine box_event ?hg (N := 4) ?hd (cs := #[.int .i64 0, .slice none 0 0]) (t := 26) ?hr ?_; (case hd => rfl); (case hg => rfl); (case hr => first | (go_simp; done) | (go_simp; rfl)); intro gb231 hg w14 hbox hb; have n0_ := am_ (Kd.V_below (Kd.V_elderB (by (with_reducible repeat (first | apply Kd.V_alloc | apply Kd.V_drewN | apply Kd.V_drew)); exact HO0_1.out) gb231 (Nat.le_of_eq hg.symm)) hb); have n1_ := am_ (Kd.V_below (Kd.V_elderB (by (with_reducible repeat (first | apply Kd.V_alloc | apply Kd.V_drewN | apply Kd.V_drew)); exact HO1_1.out) gb231 (Nat.le_of_eq hg.symm)) hb); have n2_ := am_ (bw_ BK229 hb); have n3_ := am_ (bw_ BK230 hb); have n4_ := am_ (below_step (bb_ HB.out) hb); have n5_ := am_ (hbox); have n6_ := am_ ((by rw [hg]; exact (below_size (bb_ HB.out)) : w.heap.size ≤ gb231)); have n7_ := am_ ((by rw [hg]; exact (below_size (bb_ HB.out)) : w.heap.size ≤ gb231)); have n8_ := am_ ((by rw [hg]; exact Nat.ne_of_lt (bl_ BK229) : gb229 ≠ gb231)); have n9_ := am_ ((by rw [hg]; exact Nat.ne_of_gt (bl_ BK229) : gb231 ≠ gb229)); have n10_ := am_ ((by rw [hg]; exact Nat.ne_of_lt (bl_ BK230) : gb230 ≠ gb231)); have n11_ := am_ ((by rw [hg]; exact Nat.ne_of_gt (bl_ BK230) : gb231 ≠ gb230)); clear HO0_1 HO1_1 BK229 BK230 HB; revert n0_ n1_ n2_ n3_ n4_ n5_ n6_ n7_ n8_ n9_ n10_ n11_; intro HO0_1 HO1_1 BK229 BK230 HB BK231 GW231 GE231 NB229_231 NB231_229 NB230_231 NB231_230; clear hb hbox hg; have hnb15 := NB229_230.out; have hnc15 := NB230_229.out; have hnb16 := NB229_231.out; have hnc16 := NB231_229.out; have hcz17_0 : w14.cell? ⟨gb229, 0, none⟩ = some (.int .i64 a0_0) := bc_ BK229 0; have hcz17_1 : w14.cell? ⟨gb229, 1, none⟩ = some (.slice A0_1 l0_1.length c0_1) := bc_ BK229 1; have hfz17_0 := blk_frozen BK229.out 0; have hfz17_1 := blk_frozen BK229.out 1; have hnb18 := NB230_231.out; have hnc18 := NB231_230.out; have hcz19_0 : w14.cell? ⟨gb230, 0, none⟩ = some (.int .i64 a1_0) := bc_ BK230 0; have hcz19_1 : w14.cell? ⟨gb230, 1, none⟩ = some (.slice A1_1 l1_1.length c1_1) := bc_ BK230 1; have hfz19_0 := blk_frozen BK230.out 0; have hfz19_1 := blk_frozen BK230.out 1) | ((with_reducible refine gate_dst (N := 15) rfl ?_); refine Kd.N_lit k26 _ 26 ?hg (N' := 15) ?hd (xs := ([(⟨a0_0, l0_1⟩ : S26), (⟨a1_0, l1_1⟩ : S26)] : List (S26))) (inner := [.int .i64 a0_0, .slice A0_1 l0_1.length c0_1, .int .i64 a1_0, .slice A1_1 l1_1.length c1_1]) (ok := (fun k_ => ((P0_1_ k_ ∨ P1_1_ k_) ∨ w.heap.size ≤ k_) ∧ k_ ≠ gb229 ∧ k_ ≠ gb230 ∧ k_ ≠ gb231)) (okp := (fun k_ => ((P0_1_ k_ ∨ P1_1_ k_) ∨ w.heap.size ≤ k_) ∧ k_ ≠ gb229 ∧ k_ ≠ gb230 ∧ k_ ≠ gb231)) ?hr ?hp (fun _ hk => hk) ((show ∀ k_, w14.heap.size ≤ k_ → (fun k_ => ((P0_1_ k_ ∨ P1_1_ k_) ∨ w.heap.size ≤ k_) ∧ k_ ≠ gb229 ∧ k_ ≠ gb230 ∧ k_ ≠ gb231) k_ from fun k_ hk => ⟨(.inr (Nat.le_trans (below_size (bb_ HB.out)) hk)), Kd.freshB (g := gb229) (o := .cells #[.int .i64 a0_0, .slice A0_1 l0_1.length c0_1] 26 (0, 0)) (bk_ BK229.out) k_ hk, Kd.freshB (g := gb230) (o := .cells #[.int .i64 a1_0, .slice A1_1 l1_1.length c1_1] 26 (0, 0)) (bk_ BK230.out) k_ hk, Kd.freshB (g := gb231) (o := .cells #[.int .i64 0, .slice none 0 0] 26 (0, 0)) (bk_ BK231.out) k_ hk⟩) _ (Nat.le_refl _)) (Below.refl _ _) (Nat.le_refl _) (by simp) ?_; (case hd => rfl); (case hg => rfl); (case hr => first | (go_simp; done) | (go_simp; rfl)); (case hp => exact (Reps.c2 (show Kd.FK k26 _ _ (⟨a0_0, l0_1⟩ : S26) [.int .i64 a0_0, .slice A0_1 l0_1.length c0_1] from (k26_mkF _ _ (⟨a0_0, l0_1⟩ : S26) (Kd.V_reads' (Kd.V_mono (ok' := (fun k_ => ((P0_1_ k_ ∨ P1_1_ k_) ∨ w.heap.size ≤ k_) ∧ k_ ≠ gb229 ∧ k_ ≠ gb230 ∧ k_ ≠ gb231)) (HO0_1.out) (fun k_ hk => ⟨hk.1.1.1, ⟨hk.1.1.2, ⟨hk.1.2, hk.2⟩⟩⟩))).2.1 (Kd.V_F (Kd.V_mono (ok' := (fun k_ => ((P0_1_ k_ ∨ P1_1_ k_) ∨ w.heap.size ≤ k_) ∧ k_ ≠ gb229 ∧ k_ ≠ gb230 ∧ k_ ≠ gb231)) (HO0_1.out) (fun k_ hk => ⟨hk.1.1.1, ⟨hk.1.1.2, ⟨hk.1.2, hk.2⟩⟩⟩))))) (Reps.c2 (show Kd.FK k26 _ _ (⟨a1_0, l1_1⟩ : S26) [.int .i64 a1_0, .slice A1_1 l1_1.length c1_1] from (k26_mkF _ _ (⟨a1_0, l1_1⟩ : S26) (Kd.V_reads' (Kd.V_mono (ok' := (fun k_ => ((P0_1_ k_ ∨ P1_1_ k_) ∨ w.heap.size ≤ k_) ∧ k_ ≠ gb229 ∧ k_ ≠ gb230 ∧ k_ ≠ gb231)) (HO1_1.out) (fun k_ hk => ⟨hk.1.1.1, ⟨hk.1.1.2, ⟨hk.1.2, hk.2⟩⟩⟩))).2.1 (Kd.V_F (Kd.V_mono (ok' := (fun k_ => ((P0_1_ k_ ∨ P1_1_ k_) ∨ w.heap.size ≤ k_) ∧ k_ ≠ gb229 ∧ k_ ≠ gb230 ∧ k_ ≠ gb231)) (HO1_1.out) (fun k_ hk => ⟨hk.1.1.1, ⟨hk.1.1.2, ⟨hk.1.2, hk.2⟩⟩⟩))))) (Reps.none _ _)))); intro v233 w20 ho21 hb hg_ hnew_; clear hg_ hnew_; (first | rw [← Ny232.out] at ho21 | (simp only [Int.reduceToNat] at ho21; rw [← Ny232.out] at ho21)); have n0_ := am_ (Kd.V_elder' (by (with_reducible repeat (first | apply Kd.V_alloc | apply Kd.V_drewN | apply Kd.V_drew)); exact HO0_1.out) (Kd.N_base ho21) hb); have n1_ := am_ (Kd.V_elder' (by (with_reducible repeat (first | apply Kd.V_alloc | apply Kd.V_drewN | apply Kd.V_drew)); exact HO1_1.out) (Kd.N_base ho21) hb); have n2_ := am_ (Kd.N_lower ho21 (below_size (bb_ HB.out))); have n3_ := am_ (bw_ BK229 hb); have n4_ := am_ (bw_ BK230 hb); have n5_ := am_ (bw_ BK231 hb); have n6_ := am_ (below_step (bb_ HB.out) hb); clear HO0_1 HO1_1 BK229 BK230 BK231 HB; revert n0_ n1_ n2_ n3_ n4_ n5_ n6_; intro HO0_1 HO1_1 HO234 BK229 BK230 BK231 HB; clear hb ho21; obtain ⟨Ao22, co22, eo22⟩ := Kd.N_slice HO234.out; subst eo22) | ((with_reducible refine gate_callee (f := 19) rfl ?_); refine goesL_ (some 16) rfl rfl Try.func19 (by kernel_rfl) rfl #[.slice Ao22 y232.length co22] rfl lm_ ?_; (with_reducible refine (impl_areLaurents.calls _ _ y232 true _ ?side1 ?side2 A3.out).mono ?_); (case side1 => repeat (first | exact (Kd.N_reads' HO234.out).2.2 | (with_reducible refine Kd.C_alloc ?_ _) | (with_reducible refine Kd.C_drewN ?_ _) | (with_reducible refine Kd.C_drew ?_))); (case side2 => exact (Kd.N_reads' HO234.out).2.1); rintro e w23 ⟨rfl, hb⟩; refine ⟨_, rfl, ?_⟩; have n0_ := am_ (Kd.V_below (by (with_reducible repeat (first | apply Kd.V_alloc | apply Kd.V_drewN | apply Kd.V_drew)); exact HO0_1.out) hb); have n1_ := am_ (Kd.V_below (by (with_reducible repeat (first | apply Kd.V_alloc | apply Kd.V_drewN | apply Kd.V_drew)); exact HO1_1.out) hb); have n2_ := am_ (Kd.N_below (by (with_reducible repeat (first | apply Kd.N_alloc | apply Kd.N_drewN | apply Kd.N_drew)); exact HO234.out) hb); have n3_ := am_ (bw_ BK229 hb); have n4_ := am_ (bw_ BK230 hb); have n5_ := am_ (bw_ BK231 hb); have n6_ := am_ (below_step (bb_ HB.out) hb); clear HO0_1 HO1_1 HO234 BK229 BK230 BK231 HB; revert n0_ n1_ n2_ n3_ n4_ n5_ n6_; intro HO0_1 HO1_1 HO234 BK229 BK230 BK231 HB; (try clear hb); (try clear hb2); (try clear hk); (try clear hi)))
     have n0_ := am_ (Kd.V_drew HO0_1.out)
     have n1_ := am_ (Kd.V_drew HO1_1.out)
     have n2_ := am_ (Kd.N_drew HO234.out)
     have n3_ := am_ (blk_drew BK229.out)
     have n4_ := am_ (blk_drew BK230.out)
     have n5_ := am_ (blk_drew BK231.out)
     have n6_ := am_ (below_drew1 HB.out)
     clear HO0_1 HO1_1 HO234 BK229 BK230 BK231 HB; revert n0_ n1_ n2_ n3_ n4_ n5_ n6_; intro HO0_1 HO1_1 HO234 BK229 BK230 BK231 HB
     refine start_ (n := 10) (S := fun w' => w'.cell? ⟨gb229, 0, none⟩ = some (.int .i64 a0_0) ∧ w'.cell? ⟨gb229, 1, none⟩ = some (.slice A0_1 l0_1.length c0_1) ∧ w'.cell? ⟨gb230, 0, none⟩ = some (.int .i64 a1_0) ∧ w'.cell? ⟨gb230, 1, none⟩ = some (.slice A1_1 l1_1.length c1_1)) (ds := []) #[false, false, false, false, false, false, false, false, false, false] (by kernel_rfl) rfl rfl ⟨bc_ BK229 0, bc_ BK229 1, bc_ BK230 0, bc_ BK230 1⟩ (fun hHeld => ?_); refine with_tabW impl_MultiplyLaurent.tab3 impl_MultiplyLaurent.bits3 (fun HT_ HW_ => ?_)
     generalize w23.drew = w24 at HO0_1 HO1_1 HO234 BK229 BK230 BK231 HB hHeld ⊢
     refine take_ (i := 0) (N := some 20) (v := ?_) (a' := ?_) #[true, false, false, false, false, false, false, false, false, false] rfl rfl (take_ofW HT_.out HW_.out (by kernel_rfl)) (fun _ _ _ h => h) (Or.inl ⟨by rfl, ?_⟩) hHeld ?_ ?_
     rotate_left
     ·rintro w' ⟨s0, s1, s2, s3⟩
      go_simp
      with_reducible rfl
     rotate_left
     ·simp only [Act.put, List.setIfInBounds_toArray, List.set_cons_zero, List.set_cons_succ, i64_w, i32_w]
      rfl
     refine take_ (i := 2) (N := some 22) (v := ?_) (a' := ?_) #[true, false, true, false, false, false, false, false, false, false] rfl rfl (take_ofW HT_.out HW_.out (by kernel_rfl)) (fun _ _ _ h => h) (Or.inl ⟨by rfl, ?_⟩) hHeld ?_ ?_
     rotate_left
     ·rintro w' ⟨s0, s1, s2, s3⟩
      go_simp
      with_reducible rfl
     rotate_left
     ·simp only [Act.put, List.setIfInBounds_toArray, List.set_cons_zero, List.set_cons_succ, i64_w, i32_w]
      rfl
     refine one_ (i := 1) (N := some 21) #[true, true, true, false, false, false, false, false, false, false] rfl rfl (one_of HT_.out (by kernel_rfl)) (by decide) (fun K hK => ?_)
     refine goes_ Try.func29 (by kernel_rfl) rfl #[.agg #[.int .i64 a0_0, .slice A0_1 l0_1.length c0_1]] (by rfl) rfl rfl lm_ ?_
     with_reducible refine (impl_Laurent_weight.calls k a0_0 _ _ l0_1 t236 _ ?side1 ?side2 A5.out).mono ?_
     (case side1 => repeat (first | exact (Kd.V_reads' HO0_1.out).2.2 | (with_reducible refine Kd.C_alloc ?_ _) | (with_reducible refine Kd.C_drewN ?_ _) | (with_reducible refine Kd.C_drew ?_)))
     (case side2 => exact (Kd.V_reads' HO0_1.out).2.1)
     rintro e w25 ⟨rfl, hb⟩
     refine ⟨_, rfl, ?_⟩
     have n0_ := am_ (Kd.V_below (by (with_reducible repeat (first | apply Kd.V_alloc | apply Kd.V_drewN | apply Kd.V_drew)); exact HO0_1.out) hb)
     have n1_ := am_ (Kd.V_below (by (with_reducible repeat (first | apply Kd.V_alloc | apply Kd.V_drewN | apply Kd.V_drew)); exact HO1_1.out) hb)
     have n2_ := am_ (Kd.N_below (by (with_reducible repeat (first | apply Kd.N_alloc | apply Kd.N_drewN | apply Kd.N_drew)); exact HO234.out) hb)
     have n3_ := am_ (bw_ BK229 hb)
     have n4_ := am_ (bw_ BK230 hb)
     have n5_ := am_ (bw_ BK231 hb)
     have n6_ := am_ (below_step (bb_ HB.out) hb)
     clear HO0_1 HO1_1 HO234 BK229 BK230 BK231 HB; revert n0_ n1_ n2_ n3_ n4_ n5_ n6_; intro HO0_1 HO1_1 HO234 BK229 BK230 BK231 HB
     (try clear hb)
     (try clear hb2)
     (try clear hk)
     (try clear hi)
     refine hK.out _ _ ⟨bc_ BK229 0, bc_ BK229 1, bc_ BK230 0, bc_ BK230 1⟩ (fun hHeld => ?_)
     clear hK K
     refine norm_ (a' := ?_) ?_ ?_
     rotate_left
     ·show Act.put _ (some 21) _ = _
      simp only [Act.put, List.setIfInBounds_toArray, List.set_cons_zero, List.set_cons_succ, i64_w, i32_w]
      rfl
     refine one_ (i := 3) (N := some 23) #[true, true, true, true, false, false, false, false, false, false] rfl rfl (one_of HT_.out (by kernel_rfl)) (by decide) (fun K hK => ?_)
     refine goes_ Try.func29 (by kernel_rfl) rfl #[.agg #[.int .i64 a1_0, .slice A1_1 l1_1.length c1_1]] (by rfl) rfl rfl lm_ ?_
     with_reducible refine (impl_Laurent_weight.calls k a1_0 _ _ l1_1 t237 _ ?side1 ?side2 A6.out).mono ?_
     (case side1 => repeat (first | exact (Kd.V_reads' HO1_1.out).2.2 | (with_reducible refine Kd.C_alloc ?_ _) | (with_reducible refine Kd.C_drewN ?_ _) | (with_reducible refine Kd.C_drew ?_)))
     (case side2 => exact (Kd.V_reads' HO1_1.out).2.1)
     rintro e w26 ⟨rfl, hb⟩
     refine ⟨_, rfl, ?_⟩
     have n0_ := am_ (Kd.V_below (by (with_reducible repeat (first | apply Kd.V_alloc | apply Kd.V_drewN | apply Kd.V_drew)); exact HO0_1.out) hb)
     have n1_ := am_ (Kd.V_below (by (with_reducible repeat (first | apply Kd.V_alloc | apply Kd.V_drewN | apply Kd.V_drew)); exact HO1_1.out) hb)
     have n2_ := am_ (Kd.N_below (by (with_reducible repeat (first | apply Kd.N_alloc | apply Kd.N_drewN | apply Kd.N_drew)); exact HO234.out) hb)
     have n3_ := am_ (bw_ BK229 hb)
     have n4_ := am_ (bw_ BK230 hb)
     have n5_ := am_ (bw_ BK231 hb)
     have n6_ := am_ (below_step (bb_ HB.out) hb)
     clear HO0_1 HO1_1 HO234 BK229 BK230 BK231 HB; revert n0_ n1_ n2_ n3_ n4_ n5_ n6_; intro HO0_1 HO1_1 HO234 BK229 BK230 BK231 HB
     (try clear hb)
     (try clear hb2)
     (try clear hk)
     (try clear hi)
     refine hK.out _ _ ⟨bc_ BK229 0, bc_ BK229 1, bc_ BK230 0, bc_ BK230 1⟩ (fun hHeld => ?_)
     clear hK K
     refine norm_ (a' := ?_) ?_ ?_
     rotate_left
     ·show Act.put _ (some 23) _ = _
      simp only [Act.put, List.setIfInBounds_toArray, List.set_cons_zero, List.set_cons_succ, i64_w, i32_w]
      rfl
     refine one_ (i := 4) (N := some 24) #[true, true, true, true, true, false, false, false, false, false] rfl rfl (one_of HT_.out (by kernel_rfl)) (by decide) (fun K hK => ?_)
     refine goes_ Try.func28 (by kernel_rfl) rfl #[.int .i64 t236, .int .i64 t237, .int .i64 1000000000000] (by rfl) rfl rfl lm_ ?_
     with_reducible refine (impl_product.calls t236 t237 1000000000000 t238 true _ A7.out).mono ?_
     rintro e w' ⟨rfl, ⟨nd, rfl⟩⟩
     refine ⟨_, rfl, ?_⟩
     refine hK.out _ _ ⟨bc_ BK229 0, bc_ BK229 1, bc_ BK230 0, bc_ BK230 1⟩ (fun hHeld => ?_)
     clear hK K
     refine norm_ (a' := ?_) ?_ ?_
     rotate_left
     ·show Act.put _ (some 24) _ = _
      simp only [Act.put, List.setIfInBounds_toArray, List.set_cons_zero, List.set_cons_succ, i64_w, i32_w]
      rfl
     refine pure_ (i := 5) (N := some 19) (v := ?_) (a' := ?_) #[true, true, true, true, true, true, false, false, false, false] rfl rfl (any_of HT_.out (by kernel_rfl)) (fun _ _ _ h => h) (Or.inl ⟨by rfl, ?_⟩) ?_ ?_
     rotate_left
     ·intro w'
      go_simp
      with_reducible rfl
     rotate_left
     ·simp only [Act.put, List.setIfInBounds_toArray, List.set_cons_zero, List.set_cons_succ, i64_w, i32_w]
      rfl
     refine pure_ (i := 6) (N := some 25) (v := ?_) (a' := ?_) #[true, true, true, true, true, true, true, false, false, false] rfl rfl (any_of HT_.out (by kernel_rfl)) (fun _ _ _ h => h) (Or.inl ⟨by rfl, ?_⟩) ?_ ?_
     rotate_left
     ·intro w'
      go_simp
      with_reducible rfl
     rotate_left
     ·simp only [Act.put, List.setIfInBounds_toArray, List.set_cons_zero, List.set_cons_succ, i64_w, i32_w]
      rfl
     refine pure_ (i := 7) (N := some 26) (v := ?_) (a' := ?_) #[true, true, true, true, true, true, true, true, false, false] rfl rfl (any_of HT_.out (by kernel_rfl)) (fun _ _ _ h => h) (Or.inl ⟨by rfl, ?_⟩) ?_ ?_
     rotate_left
     ·intro w'
      go_simp
      with_reducible rfl
     rotate_left
     ·simp only [Act.put, List.setIfInBounds_toArray, List.set_cons_zero, List.set_cons_succ, i64_w, i32_w]
      rfl
     refine pure_ (i := 8) (N := some 6) (v := ?_) (a' := ?_) #[true, true, true, true, true, true, true, true, true, false] rfl rfl (any_of HT_.out (by kernel_rfl)) (fun _ _ _ h => h) (Or.inl ⟨by rfl, ?_⟩) ?_ ?_
     rotate_left
     ·intro w'
      go_simp
      with_reducible rfl
     rotate_left
     ·simp only [Act.put, List.setIfInBounds_toArray, List.set_cons_zero, List.set_cons_succ, i64_w, i32_w]
      rfl
     refine pure_ (i := 9) (N := some 7) (v := ?_) (a' := ?_) #[true, true, true, true, true, true, true, true, true, true] rfl rfl (any_of HT_.out (by kernel_rfl)) (fun _ _ _ h => h) (Or.inl ⟨by rfl, ?_⟩) ?_ ?_
     rotate_left
     ·intro w'
      go_simp
      with_reducible rfl
     rotate_left
     ·simp only [Act.put, List.setIfInBounds_toArray, List.set_cons_zero, List.set_cons_succ, i64_w, i32_w]
      rfl
     refine done_ (done_of HT_.out (by kernel_rfl)) ?_
     try go_wp2
     (try (rw [drewN_self w26]; generalize hq_ : World.drewN w26 _ = w26; have n0_ : Aside0 (Kd.V (Kd.int .i64) 2 w26 w.heap.size (fun k_ => ((P0_1_ k_ ∨ P1_1_ k_) ∨ w.heap.size ≤ k_) ∧ some k_ ≠ (.slice Ao22 y232.length co22 : Value).ownBlock ∧ k_ ≠ gb229 ∧ k_ ≠ gb230 ∧ k_ ≠ gb231) (.slice A0_1 l0_1.length c0_1) l0_1) := ⟨by rw [← hq_]; exact (by (with_reducible repeat (first | apply Kd.V_alloc | apply Kd.V_drewN | apply Kd.V_drew)); exact Kd.V_mono HO0_1.out (fun _ hk => by first | exact ⟨hk.1.1.1.1, ⟨hk.2, ⟨hk.1.1.1.2, ⟨hk.1.1.2, hk.1.2⟩⟩⟩⟩ | simp only [hk, and_self, ne_eq, not_false_eq_true, true_and, and_true]))⟩; have n1_ : Aside0 (Kd.V (Kd.int .i64) 2 w26 w.heap.size (fun k_ => ((P0_1_ k_ ∨ P1_1_ k_) ∨ w.heap.size ≤ k_) ∧ some k_ ≠ (.slice Ao22 y232.length co22 : Value).ownBlock ∧ k_ ≠ gb229 ∧ k_ ≠ gb230 ∧ k_ ≠ gb231) (.slice A1_1 l1_1.length c1_1) l1_1) := ⟨by rw [← hq_]; exact (by (with_reducible repeat (first | apply Kd.V_alloc | apply Kd.V_drewN | apply Kd.V_drew)); exact Kd.V_mono HO1_1.out (fun _ hk => by first | exact ⟨hk.1.1.1.1, ⟨hk.2, ⟨hk.1.1.1.2, ⟨hk.1.1.2, hk.1.2⟩⟩⟩⟩ | simp only [hk, and_self, ne_eq, not_false_eq_true, true_and, and_true]))⟩; have n2_ : Aside0 (Kd.N k26 26 w26 w.heap.size (fun k_ => ((P0_1_ k_ ∨ P1_1_ k_) ∨ w.heap.size ≤ k_) ∧ k_ ≠ gb229 ∧ k_ ≠ gb230 ∧ k_ ≠ gb231) (.slice Ao22 y232.length co22) y232) := ⟨by rw [← hq_]; exact (by (with_reducible repeat (first | apply Kd.N_alloc | apply Kd.N_drewN | apply Kd.N_drew)); exact HO234.out)⟩; have n3_ : Aside0 (w26.heap[gb229]? = some (.cells #[.int .i64 a0_0, .slice A0_1 l0_1.length c0_1] 26 (0, 0))) := ⟨by rw [← hq_]; exact (bk_ BK229.out)⟩; have n4_ : Aside0 (w26.heap[gb230]? = some (.cells #[.int .i64 a1_0, .slice A1_1 l1_1.length c1_1] 26 (0, 0))) := ⟨by rw [← hq_]; exact (bk_ BK230.out)⟩; have n5_ : Aside0 (w26.heap[gb231]? = some (.cells #[.int .i64 0, .slice none 0 0] 26 (0, 0))) := ⟨by rw [← hq_]; exact (bk_ BK231.out)⟩; have n6_ : Aside0 (Below w.heap.size w w26) := ⟨by rw [← hq_]; exact (bb_ HB.out)⟩; clear HO0_1 HO1_1 HO234 BK229 BK230 BK231 HB hq_; have HO0_1 := n0_; have HO1_1 := n1_; have HO234 := n2_; have BK229 := n3_; have BK230 := n4_; have BK231 := n5_; have HB := n6_; clear n0_ n1_ n2_ n3_ n4_ n5_ n6_))
     have n0_ := am_ (Kd.V_drew HO0_1.out)
     have n1_ := am_ (Kd.V_drew HO1_1.out)
     have n2_ := am_ (Kd.N_drew HO234.out)
     have n3_ := am_ (blk_drew BK229.out)
     have n4_ := am_ (blk_drew BK230.out)
     have n5_ := am_ (blk_drew BK231.out)
     have n6_ := am_ (below_drew1 HB.out)
     clear HO0_1 HO1_1 HO234 BK229 BK230 BK231 HB; revert n0_ n1_ n2_ n3_ n4_ n5_ n6_; intro HO0_1 HO1_1 HO234 BK229 BK230 BK231 HB
     refine start_ (n := 16) (S := fun w' => w'.cell? ⟨gb229, 0, none⟩ = some (.int .i64 a0_0) ∧ w'.cell? ⟨gb229, 1, none⟩ = some (.slice A0_1 l0_1.length c0_1) ∧ w'.cell? ⟨gb230, 0, none⟩ = some (.int .i64 a1_0) ∧ w'.cell? ⟨gb230, 1, none⟩ = some (.slice A1_1 l1_1.length c1_1)) (ds := []) #[false, false, false, false, false, false, false, false, false, false, false, false, false, false, false, false] (by kernel_rfl) rfl rfl ⟨bc_ BK229 0, bc_ BK229 1, bc_ BK230 0, bc_ BK230 1⟩ (fun hHeld => ?_); refine with_tabW impl_MultiplyLaurent.tab6 impl_MultiplyLaurent.bits6 (fun HT_ HW_ => ?_)
     generalize w26.drew = w27 at HO0_1 HO1_1 HO234 BK229 BK230 BK231 HB hHeld ⊢
     refine pure_ (i := 0) (N := some 30) (v := ?_) (a' := ?_) #[true, false, false, false, false, false, false, false, false, false, false, false, false, false, false, false] rfl rfl (any_of HT_.out (by kernel_rfl)) (fun _ _ _ h => h) (Or.inl ⟨by rfl, ?_⟩) ?_ ?_
     rotate_left
     ·intro w'
      go_simp
      with_reducible rfl
     rotate_left
     ·simp only [Act.put, List.setIfInBounds_toArray, List.set_cons_zero, List.set_cons_succ, i64_w, i32_w]
      rfl
     refine pure_ (i := 2) (N := some 32) (v := ?_) (a' := ?_) #[true, false, true, false, false, false, false, false, false, false, false, false, false, false, false, false] rfl rfl (any_of HT_.out (by kernel_rfl)) (fun _ _ _ h => h) (Or.inl ⟨by rfl, ?_⟩) ?_ ?_
     rotate_left
     ·intro w'
      go_simp
      with_reducible rfl
     rotate_left
     ·simp only [Act.put, List.setIfInBounds_toArray, List.set_cons_zero, List.set_cons_succ, i64_w, i32_w]
      rfl
     refine pure_ (i := 5) (N := some 35) (v := ?_) (a' := ?_) #[true, false, true, false, false, true, false, false, false, false, false, false, false, false, false, false] rfl rfl (any_of HT_.out (by kernel_rfl)) (fun _ _ _ h => h) (Or.inl ⟨by rfl, ?_⟩) ?_ ?_
     rotate_left
     ·intro w'
      go_simp
      with_reducible rfl
     rotate_left
     ·simp only [Act.put, List.setIfInBounds_toArray, List.set_cons_zero, List.set_cons_succ, i64_w, i32_w]
      rfl
     refine pure_ (i := 8) (N := some 38) (v := ?_) (a' := ?_) #[true, false, true, false, false, true, false, false, true, false, false, false, false, false, false, false] rfl rfl (any_of HT_.out (by kernel_rfl)) (fun _ _ _ h => h) (Or.inl ⟨by rfl, ?_⟩) ?_ ?_
     rotate_left
     ·intro w'
      go_simp
      with_reducible rfl
     rotate_left
     ·simp only [Act.put, List.setIfInBounds_toArray, List.set_cons_zero, List.set_cons_succ, i64_w, i32_w]
      rfl
     refine take_ (i := 1) (N := some 31) (v := ?_) (a' := ?_) #[true, true, true, false, false, true, false, false, true, false, false, false, false, false, false, false] rfl rfl (take_ofW HT_.out HW_.out (by kernel_rfl)) (fun _ _ _ h => h) (Or.inl ⟨by rfl, ?_⟩) hHeld ?_ ?_
     rotate_left
     ·rintro w' ⟨s0, s1, s2, s3⟩
      go_simp
      with_reducible rfl
     rotate_left
     ·simp only [Act.put, List.setIfInBounds_toArray, List.set_cons_zero, List.set_cons_succ, i64_w, i32_w]
      rfl
     refine take_ (i := 3) (N := some 33) (v := ?_) (a' := ?_) #[true, true, true, true, false, true, false, false, true, false, false, false, false, false, false, false] rfl rfl (take_ofW HT_.out HW_.out (by kernel_rfl)) (fun _ _ _ h => h) (Or.inl ⟨by rfl, ?_⟩) hHeld ?_ ?_
     rotate_left
     ·rintro w' ⟨s0, s1, s2, s3⟩
      go_simp
      with_reducible rfl
     rotate_left
     ·simp only [Act.put, List.setIfInBounds_toArray, List.set_cons_zero, List.set_cons_succ, i64_w, i32_w]
      rfl
     refine pure_ (i := 4) (N := some 34) (v := ?_) (a' := ?_) #[true, true, true, true, true, true, false, false, true, false, false, false, false, false, false, false] rfl rfl (any_of HT_.out (by kernel_rfl)) (fun _ _ _ h => h) (Or.inl ⟨by rfl, ?_⟩) ?_ ?_
     rotate_left
     ·intro w'
      go_simp
      with_reducible rfl
     rotate_left
     ·simp only [Act.put, List.setIfInBounds_toArray, List.set_cons_zero, List.set_cons_succ, i64_w, i32_w]
      rfl
     refine take_ (i := 6) (N := some 36) (v := ?_) (a' := ?_) #[true, true, true, true, true, true, true, false, true, false, false, false, false, false, false, false] rfl rfl (take_ofW HT_.out HW_.out (by kernel_rfl)) (fun _ _ _ h => h) (Or.inl ⟨by rfl, ?_⟩) hHeld ?_ ?_
     rotate_left
     ·rintro w' ⟨s0, s1, s2, s3⟩
      go_simp
      with_reducible rfl
     rotate_left
     ·simp only [Act.put, List.setIfInBounds_toArray, List.set_cons_zero, List.set_cons_succ, i64_w, i32_w]
      rfl
     refine pure_ (i := 7) (N := some 37) (v := ?_) (a' := ?_) #[true, true, true, true, true, true, true, true, true, false, false, false, false, false, false, false] rfl rfl (any_of HT_.out (by kernel_rfl)) (fun _ _ _ h => h) (Or.inl ⟨by rfl, ?_⟩) ?_ ?_
     rotate_left
     ·intro w'
      go_simp
      with_reducible rfl
     rotate_left
     ·simp only [Act.put, List.setIfInBounds_toArray, List.set_cons_zero, List.set_cons_succ, i64_w, i32_w]
      rfl
     refine take_ (i := 9) (N := some 39) (v := ?_) (a' := ?_) #[true, true, true, true, true, true, true, true, true, true, false, false, false, false, false, false] rfl rfl (take_ofW HT_.out HW_.out (by kernel_rfl)) (fun _ _ _ h => h) (Or.inl ⟨by rfl, ?_⟩) hHeld ?_ ?_
     rotate_left
     ·rintro w' ⟨s0, s1, s2, s3⟩
      go_simp
      with_reducible rfl
     rotate_left
     ·simp only [Act.put, List.setIfInBounds_toArray, List.set_cons_zero, List.set_cons_succ, i64_w, i32_w]
      rfl
     refine pure_ (i := 10) (N := some 40) (v := ?_) (a' := ?_) #[true, true, true, true, true, true, true, true, true, true, true, false, false, false, false, false] rfl rfl (any_of HT_.out (by kernel_rfl)) (fun _ _ _ h => h) (Or.inl ⟨by rfl, ?_⟩) ?_ ?_
     rotate_left
     ·intro w'
      go_simp
      with_reducible rfl
     rotate_left
     ·simp only [Act.put, List.setIfInBounds_toArray, List.set_cons_zero, List.set_cons_succ, i64_w, i32_w]
      rfl
     refine pure_ (i := 11) (N := some 41) (v := ?_) (a' := ?_) #[true, true, true, true, true, true, true, true, true, true, true, true, false, false, false, false] rfl rfl (any_of HT_.out (by kernel_rfl)) (fun _ _ _ h => h) (Or.inl ⟨by rfl, ?_⟩) ?_ ?_
     rotate_left
     ·intro w'
      go_simp
      with_reducible rfl
     rotate_left
     ·simp only [Act.put, List.setIfInBounds_toArray, List.set_cons_zero, List.set_cons_succ, i64_w, i32_w]
      rfl
     refine join_ (σ := Value × Nat) 1 #[true, true, true, true, true, true, true, true, true, true, true, true, true, true, true, false] (fun s_ => [(42, s_.1), (8, .pointer (some ⟨s_.2, 0, none⟩)), (43, .agg #[.int .i64 (wrap64 (a0_0 + a1_0)), s_.1])]) (fun s_ w' => (w'.cell? ⟨gb229, 0, none⟩ = some (.int .i64 a0_0) ∧ w'.cell? ⟨gb229, 1, none⟩ = some (.slice A0_1 l0_1.length c0_1) ∧ w'.cell? ⟨gb230, 0, none⟩ = some (.int .i64 a1_0) ∧ w'.cell? ⟨gb230, 1, none⟩ = some (.slice A1_1 l1_1.length c1_1)) ∧ (Kd.V (Kd.int .i64) 2 w' w.heap.size (fun k_ => ((P0_1_ k_ ∨ P1_1_ k_) ∨ w.heap.size ≤ k_) ∧ some k_ ≠ (.slice Ao22 y232.length co22 : Value).ownBlock ∧ some k_ ≠ (s_.1 : Value).ownBlock ∧ k_ ≠ gb229 ∧ k_ ≠ gb230 ∧ k_ ≠ gb231 ∧ k_ ≠ s_.2) (.slice A0_1 l0_1.length c0_1) l0_1) ∧ (Kd.V (Kd.int .i64) 2 w' w.heap.size (fun k_ => ((P0_1_ k_ ∨ P1_1_ k_) ∨ w.heap.size ≤ k_) ∧ some k_ ≠ (.slice Ao22 y232.length co22 : Value).ownBlock ∧ some k_ ≠ (s_.1 : Value).ownBlock ∧ k_ ≠ gb229 ∧ k_ ≠ gb230 ∧ k_ ≠ gb231 ∧ k_ ≠ s_.2) (.slice A1_1 l1_1.length c1_1) l1_1) ∧ (Kd.N k26 26 w' w.heap.size (fun k_ => ((P0_1_ k_ ∨ P1_1_ k_) ∨ w.heap.size ≤ k_) ∧ some k_ ≠ (s_.1 : Value).ownBlock ∧ k_ ≠ gb229 ∧ k_ ≠ gb230 ∧ k_ ≠ gb231 ∧ k_ ≠ s_.2) (.slice Ao22 y232.length co22) y232) ∧ (Kd.R (Kd.int .i64) 2 w' w.heap.size (fun k_ => (w.heap.size ≤ k_)) s_.1 y240) ∧ (w'.heap[gb229]? = some (.cells #[.int .i64 a0_0, .slice A0_1 l0_1.length c0_1] 26 (0, 0))) ∧ (w'.heap[gb230]? = some (.cells #[.int .i64 a1_0, .slice A1_1 l1_1.length c1_1] 26 (0, 0))) ∧ (w'.heap[gb231]? = some (.cells #[.int .i64 0, .slice none 0 0] 26 (0, 0))) ∧ (w'.heap[s_.2]? = some (.cells #[.int .i64 0, .slice none 0 0] 26 (0, 0))) ∧ (w.heap.size ≤ s_.2) ∧ (w.heap.size ≤ s_.2) ∧ (gb229 ≠ s_.2) ∧ (s_.2 ≠ gb229) ∧ (gb230 ≠ s_.2) ∧ (s_.2 ≠ gb230) ∧ (gb231 ≠ s_.2) ∧ (s_.2 ≠ gb231) ∧ (Below w.heap.size w w')) ?_ ?_
     rotate_left
     ·intro hCont
      refine two_ (i := 12) (j := 14) (Ni := some 42) (Nj := some 8) #[true, true, true, true, true, true, true, true, true, true, true, true, true, false, false, false] #[true, true, true, true, true, true, true, true, true, true, true, true, false, false, true, false] rfl rfl rfl rfl (two_of HT_.out (by kernel_rfl)) (by decide) (by decide) (fun K hK => ?_) (fun K hK => ?_)
      ·skip
       refine Kd.R_make_step (Kd.int .i64) _ 2 (by rfl) (N := 42) rfl 22 _ _ rfl ji9 rfl rfl Try.underlying22 (.int .i64 0) 8 info2 rfl (by decide) (by omega) 0 (ok := fun _ => True) (okp := fun _ => True) rfl (fun _ hk => hk) trivial (of_decide_eq_true (by first | (with_reducible assumption) | assumption)) (Nat.le_trans (Nat.mul_le_mul_right _ (of_decide_eq_true (by first | (with_reducible assumption) | assumption) : ji9.toNat ≤ 35184372088832)) (by omega)) (Below.refl _ _) (Nat.le_refl _) ?_
       intro v241 w28 ho29 hb hg_ hnew_
       clear hg_ hnew_
       (first | rw [← Ny240.out] at ho29 | (simp only [Int.reduceToNat] at ho29; rw [← Ny240.out] at ho29))
       have n0_ := am_ (Kd.V_elder' (by (with_reducible repeat (first | apply Kd.V_alloc | apply Kd.V_drewN | apply Kd.V_drew)); exact HO0_1.out) (Kd.R_base ho29) hb)
       have n1_ := am_ (Kd.V_elder' (by (with_reducible repeat (first | apply Kd.V_alloc | apply Kd.V_drewN | apply Kd.V_drew)); exact HO1_1.out) (Kd.R_base ho29) hb)
       have n2_ := am_ (Kd.N_elder' (by (with_reducible repeat (first | apply Kd.N_alloc | apply Kd.N_drewN | apply Kd.N_drew)); exact HO234.out) (Kd.R_base ho29) hb)
       have n3_ := am_ (Kd.R_lower (Kd.R_newM (M := fun k_ => (w.heap.size ≤ k_)) ho29 (below_size (bb_ HB.out)) (fun k_ h_ => h_)) (below_size (bb_ HB.out)))
       have n4_ := am_ (bw_ BK229 hb)
       have n5_ := am_ (bw_ BK230 hb)
       have n6_ := am_ (bw_ BK231 hb)
       have n7_ := am_ (below_step (bb_ HB.out) hb)
       clear HO0_1 HO1_1 HO234 BK229 BK230 BK231 HB; revert n0_ n1_ n2_ n3_ n4_ n5_ n6_ n7_; intro HO0_1 HO1_1 HO234 HO242 BK229 BK230 BK231 HB
       clear hb ho29
       obtain ⟨Ao30, co30, eo30⟩ := Kd.R_slice HO242.out
       (first | subst eo30 | (injection eo30 with f1_ f2_ f3_; have f4_ := f1_.symm; have f5_ := f3_.symm; clear f1_ f2_ f3_; subst f4_; subst f5_))
       refine hK.out _ _ ⟨bc_ BK229 0, bc_ BK229 1, bc_ BK230 0, bc_ BK230 1⟩ (fun hHeld => ?_)
       clear hK K
       refine norm_ (a' := ?_) ?_ ?_
       rotate_left
       ·show Act.put _ (some 42) _ = _
        simp only [Act.put, List.setIfInBounds_toArray, List.set_cons_zero, List.set_cons_succ, i64_w, i32_w]
        rfl
       refine pure_ (i := 13) (N := some 43) (v := ?_) (a' := ?_) #[true, true, true, true, true, true, true, true, true, true, true, true, true, true, false, false] rfl rfl (any_of HT_.out (by kernel_rfl)) (fun _ _ _ h => h) (Or.inl ⟨by rfl, ?_⟩) ?_ ?_
       rotate_left
       ·intro w'
        go_simp
        with_reducible rfl
       rotate_left
       ·simp only [Act.put, List.setIfInBounds_toArray, List.set_cons_zero, List.set_cons_succ, i64_w, i32_w]
        rfl
       refine one_ (i := 14) (N := some 8) #[true, true, true, true, true, true, true, true, true, true, true, true, true, true, true, false] rfl rfl (one_of HT_.out (by kernel_rfl)) (by decide) (fun K hK => ?_)
       refine box_step ?hg (N := 8) ?hd (cs := #[.int .i64 0, .slice none 0 0]) (t := 26) ?hr ?_; (case hd => rfl); (case hg => rfl); (case hr => first | (go_simp; done) | (go_simp; rfl))
       intro gb243 hg w31 hbox hb
       have n0_ := am_ (Kd.V_below (Kd.V_elderB (by (with_reducible repeat (first | apply Kd.V_alloc | apply Kd.V_drewN | apply Kd.V_drew)); exact HO0_1.out) gb243 (Nat.le_of_eq hg.symm)) hb)
       have n1_ := am_ (Kd.V_below (Kd.V_elderB (by (with_reducible repeat (first | apply Kd.V_alloc | apply Kd.V_drewN | apply Kd.V_drew)); exact HO1_1.out) gb243 (Nat.le_of_eq hg.symm)) hb)
       have n2_ := am_ (Kd.N_below (Kd.N_elderB (by (with_reducible repeat (first | apply Kd.N_alloc | apply Kd.N_drewN | apply Kd.N_drew)); exact HO234.out) gb243 (Nat.le_of_eq hg.symm)) hb)
       have n3_ := am_ (Kd.R_below (rk_ HO242.out) hb)
       have n4_ := am_ (bw_ BK229 hb)
       have n5_ := am_ (bw_ BK230 hb)
       have n6_ := am_ (bw_ BK231 hb)
       have n7_ := am_ (below_step (bb_ HB.out) hb)
       have n8_ := am_ (hbox)
       have n9_ := am_ ((by rw [hg]; exact (below_size (bb_ HB.out)) : w.heap.size ≤ gb243))
       have n10_ := am_ ((by rw [hg]; exact (below_size (bb_ HB.out)) : w.heap.size ≤ gb243))
       have n11_ := am_ ((by rw [hg]; exact Nat.ne_of_lt (bl_ BK229) : gb229 ≠ gb243))
       have n12_ := am_ ((by rw [hg]; exact Nat.ne_of_gt (bl_ BK229) : gb243 ≠ gb229))
       have n13_ := am_ ((by rw [hg]; exact Nat.ne_of_lt (bl_ BK230) : gb230 ≠ gb243))
       have n14_ := am_ ((by rw [hg]; exact Nat.ne_of_gt (bl_ BK230) : gb243 ≠ gb230))
       have n15_ := am_ ((by rw [hg]; exact Nat.ne_of_lt (bl_ BK231) : gb231 ≠ gb243))
       have n16_ := am_ ((by rw [hg]; exact Nat.ne_of_gt (bl_ BK231) : gb243 ≠ gb231))
       clear HO0_1 HO1_1 HO234 HO242 BK229 BK230 BK231 HB; revert n0_ n1_ n2_ n3_ n4_ n5_ n6_ n7_ n8_ n9_ n10_ n11_ n12_ n13_ n14_ n15_ n16_; intro HO0_1 HO1_1 HO234 HO242 BK229 BK230 BK231 HB BK243 GW243 GE243 NB229_243 NB243_229 NB230_243 NB243_230 NB231_243 NB243_231
       clear hb hbox hg
       refine hK.out _ _ ⟨bc_ BK229 0, bc_ BK229 1, bc_ BK230 0, bc_ BK230 1⟩ (fun hHeld => ?_)
       clear hK K
       refine norm_ (a' := ?_) ?_ ?_
       rotate_left
       ·show Act.put _ (some 8) _ = _
        simp only [Act.put, List.setIfInBounds_toArray, List.set_cons_zero, List.set_cons_succ, i64_w, i32_w]
        rfl
       exact norm_ (by simp only [putAll, Act.put, List.setIfInBounds_toArray, List.set_cons_zero, List.set_cons_succ]) (hCont (.slice Ao30 y240.length co30, gb243) _ ⟨hHeld, (by (with_reducible repeat (first | apply Kd.V_alloc | apply Kd.V_drewN | apply Kd.V_drew)); exact Kd.V_mono HO0_1.out (fun _ hk => by first | exact ⟨hk.1.1.1.1.1.1, ⟨hk.1.1.2, ⟨hk.1.2, ⟨hk.1.1.1.1.1.2, ⟨hk.1.1.1.1.2, ⟨hk.1.1.1.2, hk.2⟩⟩⟩⟩⟩⟩ | simp only [hk, and_self, ne_eq, not_false_eq_true, true_and, and_true])), (by (with_reducible repeat (first | apply Kd.V_alloc | apply Kd.V_drewN | apply Kd.V_drew)); exact Kd.V_mono HO1_1.out (fun _ hk => by first | exact ⟨hk.1.1.1.1.1.1, ⟨hk.1.1.2, ⟨hk.1.2, ⟨hk.1.1.1.1.1.2, ⟨hk.1.1.1.1.2, ⟨hk.1.1.1.2, hk.2⟩⟩⟩⟩⟩⟩ | simp only [hk, and_self, ne_eq, not_false_eq_true, true_and, and_true])), (by (with_reducible repeat (first | apply Kd.N_alloc | apply Kd.N_drewN | apply Kd.N_drew)); exact Kd.N_mono HO234.out (fun _ hk => by first | exact ⟨hk.1.1.1, ⟨hk.1.2, ⟨hk.1.1.2.1, ⟨hk.1.1.2.2.1, ⟨hk.1.1.2.2.2, hk.2⟩⟩⟩⟩⟩ | simp only [hk, and_self, ne_eq, not_false_eq_true, true_and, and_true])), (rm_ HO242.out (fun _ hk => hk.1)), (bk_ BK229.out), (bk_ BK230.out), (bk_ BK231.out), (bk_ BK243.out), GW243.out, GE243.out, NB229_243.out, NB243_229.out, NB230_243.out, NB243_230.out, NB231_243.out, NB243_231.out, (bb_ HB.out)⟩)
      ·skip
       refine box_step ?hg (N := 8) ?hd (cs := #[.int .i64 0, .slice none 0 0]) (t := 26) ?hr ?_; (case hd => rfl); (case hg => rfl); (case hr => first | (go_simp; done) | (go_simp; rfl))
       intro gb243 hg w28 hbox hb
       have n0_ := am_ (Kd.V_below (Kd.V_elderB (by (with_reducible repeat (first | apply Kd.V_alloc | apply Kd.V_drewN | apply Kd.V_drew)); exact HO0_1.out) gb243 (Nat.le_of_eq hg.symm)) hb)
       have n1_ := am_ (Kd.V_below (Kd.V_elderB (by (with_reducible repeat (first | apply Kd.V_alloc | apply Kd.V_drewN | apply Kd.V_drew)); exact HO1_1.out) gb243 (Nat.le_of_eq hg.symm)) hb)
       have n2_ := am_ (Kd.N_below (Kd.N_elderB (by (with_reducible repeat (first | apply Kd.N_alloc | apply Kd.N_drewN | apply Kd.N_drew)); exact HO234.out) gb243 (Nat.le_of_eq hg.symm)) hb)
       have n3_ := am_ (bw_ BK229 hb)
       have n4_ := am_ (bw_ BK230 hb)
       have n5_ := am_ (bw_ BK231 hb)
       have n6_ := am_ (below_step (bb_ HB.out) hb)
       have n7_ := am_ (hbox)
       have n8_ := am_ ((by rw [hg]; exact (below_size (bb_ HB.out)) : w.heap.size ≤ gb243))
       have n9_ := am_ ((by rw [hg]; exact (below_size (bb_ HB.out)) : w.heap.size ≤ gb243))
       have n10_ := am_ ((by rw [hg]; exact Nat.ne_of_lt (bl_ BK229) : gb229 ≠ gb243))
       have n11_ := am_ ((by rw [hg]; exact Nat.ne_of_gt (bl_ BK229) : gb243 ≠ gb229))
       have n12_ := am_ ((by rw [hg]; exact Nat.ne_of_lt (bl_ BK230) : gb230 ≠ gb243))
       have n13_ := am_ ((by rw [hg]; exact Nat.ne_of_gt (bl_ BK230) : gb243 ≠ gb230))
       have n14_ := am_ ((by rw [hg]; exact Nat.ne_of_lt (bl_ BK231) : gb231 ≠ gb243))
       have n15_ := am_ ((by rw [hg]; exact Nat.ne_of_gt (bl_ BK231) : gb243 ≠ gb231))
       clear HO0_1 HO1_1 HO234 BK229 BK230 BK231 HB; revert n0_ n1_ n2_ n3_ n4_ n5_ n6_ n7_ n8_ n9_ n10_ n11_ n12_ n13_ n14_ n15_; intro HO0_1 HO1_1 HO234 BK229 BK230 BK231 HB BK243 GW243 GE243 NB229_243 NB243_229 NB230_243 NB243_230 NB231_243 NB243_231
       clear hb hbox hg
       refine hK.out _ _ ⟨bc_ BK229 0, bc_ BK229 1, bc_ BK230 0, bc_ BK230 1⟩ (fun hHeld => ?_)
       clear hK K
       refine norm_ (a' := ?_) ?_ ?_
       rotate_left
       ·show Act.put _ (some 8) _ = _
        simp only [Act.put, List.setIfInBounds_toArray, List.set_cons_zero, List.set_cons_succ, i64_w, i32_w]
        rfl
       refine one_ (i := 12) (N := some 42) #[true, true, true, true, true, true, true, true, true, true, true, true, true, false, true, false] rfl rfl (one_of HT_.out (by kernel_rfl)) (by decide) (fun K hK => ?_)
       refine Kd.R_make_step (Kd.int .i64) _ 2 (by rfl) (N := 42) rfl 22 _ _ rfl ji9 rfl rfl Try.underlying22 (.int .i64 0) 8 info2 rfl (by decide) (by omega) 0 (ok := fun _ => True) (okp := fun _ => True) rfl (fun _ hk => hk) trivial (of_decide_eq_true (by first | (with_reducible assumption) | assumption)) (Nat.le_trans (Nat.mul_le_mul_right _ (of_decide_eq_true (by first | (with_reducible assumption) | assumption) : ji9.toNat ≤ 35184372088832)) (by omega)) (Below.refl _ _) (Nat.le_refl _) ?_
       intro v241 w29 ho30 hb hg_ hnew_
       clear hg_ hnew_
       (first | rw [← Ny240.out] at ho30 | (simp only [Int.reduceToNat] at ho30; rw [← Ny240.out] at ho30))
       have n0_ := am_ (Kd.V_elder' (by (with_reducible repeat (first | apply Kd.V_alloc | apply Kd.V_drewN | apply Kd.V_drew)); exact HO0_1.out) (Kd.R_base ho30) hb)
       have n1_ := am_ (Kd.V_elder' (by (with_reducible repeat (first | apply Kd.V_alloc | apply Kd.V_drewN | apply Kd.V_drew)); exact HO1_1.out) (Kd.R_base ho30) hb)
       have n2_ := am_ (Kd.N_elder' (by (with_reducible repeat (first | apply Kd.N_alloc | apply Kd.N_drewN | apply Kd.N_drew)); exact HO234.out) (Kd.R_base ho30) hb)
       have n3_ := am_ (Kd.R_lower (Kd.R_newM (M := fun k_ => (w.heap.size ≤ k_)) ho30 (below_size (bb_ HB.out)) (fun k_ h_ => h_)) (below_size (bb_ HB.out)))
       have n4_ := am_ (bw_ BK229 hb)
       have n5_ := am_ (bw_ BK230 hb)
       have n6_ := am_ (bw_ BK231 hb)
       have n7_ := am_ (bw_ BK243 hb)
       have n8_ := am_ (below_step (bb_ HB.out) hb)
       clear HO0_1 HO1_1 HO234 BK229 BK230 BK231 BK243 HB; revert n0_ n1_ n2_ n3_ n4_ n5_ n6_ n7_ n8_; intro HO0_1 HO1_1 HO234 HO242 BK229 BK230 BK231 BK243 HB
       clear hb ho30
       obtain ⟨Ao31, co31, eo31⟩ := Kd.R_slice HO242.out
       (first | subst eo31 | (injection eo31 with f1_ f2_ f3_; have f4_ := f1_.symm; have f5_ := f3_.symm; clear f1_ f2_ f3_; subst f4_; subst f5_))
       refine hK.out _ _ ⟨bc_ BK229 0, bc_ BK229 1, bc_ BK230 0, bc_ BK230 1⟩ (fun hHeld => ?_)
       clear hK K
       refine norm_ (a' := ?_) ?_ ?_
       rotate_left
       ·show Act.put _ (some 42) _ = _
        simp only [Act.put, List.setIfInBounds_toArray, List.set_cons_zero, List.set_cons_succ, i64_w, i32_w]
        rfl
       refine pure_ (i := 13) (N := some 43) (v := ?_) (a' := ?_) #[true, true, true, true, true, true, true, true, true, true, true, true, true, true, true, false] rfl rfl (any_of HT_.out (by kernel_rfl)) (fun _ _ _ h => h) (Or.inl ⟨by rfl, ?_⟩) ?_ ?_
       rotate_left
       ·intro w'
        go_simp
        with_reducible rfl
       rotate_left
       ·simp only [Act.put, List.setIfInBounds_toArray, List.set_cons_zero, List.set_cons_succ, i64_w, i32_w]
        rfl
       exact norm_ (by simp only [putAll, Act.put, List.setIfInBounds_toArray, List.set_cons_zero, List.set_cons_succ]) (hCont (.slice Ao31 y240.length co31, gb243) _ ⟨hHeld, (by (with_reducible repeat (first | apply Kd.V_alloc | apply Kd.V_drewN | apply Kd.V_drew)); exact Kd.V_mono HO0_1.out (fun _ hk => by first | exact ⟨hk.1.1.1.1.1.1, ⟨hk.1.1.2, ⟨hk.2, ⟨hk.1.1.1.1.1.2, ⟨hk.1.1.1.1.2, ⟨hk.1.1.1.2, hk.1.2⟩⟩⟩⟩⟩⟩ | simp only [hk, and_self, ne_eq, not_false_eq_true, true_and, and_true])), (by (with_reducible repeat (first | apply Kd.V_alloc | apply Kd.V_drewN | apply Kd.V_drew)); exact Kd.V_mono HO1_1.out (fun _ hk => by first | exact ⟨hk.1.1.1.1.1.1, ⟨hk.1.1.2, ⟨hk.2, ⟨hk.1.1.1.1.1.2, ⟨hk.1.1.1.1.2, ⟨hk.1.1.1.2, hk.1.2⟩⟩⟩⟩⟩⟩ | simp only [hk, and_self, ne_eq, not_false_eq_true, true_and, and_true])), (by (with_reducible repeat (first | apply Kd.N_alloc | apply Kd.N_drewN | apply Kd.N_drew)); exact Kd.N_mono HO234.out (fun _ hk => by first | exact ⟨hk.1.1.1, ⟨hk.2, ⟨hk.1.1.2.1, ⟨hk.1.1.2.2.1, ⟨hk.1.1.2.2.2, hk.1.2⟩⟩⟩⟩⟩ | simp only [hk, and_self, ne_eq, not_false_eq_true, true_and, and_true])), (rm_ HO242.out (fun _ hk => hk.1)), (bk_ BK229.out), (bk_ BK230.out), (bk_ BK231.out), (bk_ BK243.out), GW243.out, GE243.out, NB229_243.out, NB243_229.out, NB230_243.out, NB243_230.out, NB231_243.out, NB243_231.out, (bb_ HB.out)⟩)
     rintro ⟨v241, gb243⟩ w32 ⟨hS_, h0_, h1_, h2_, h3_, h4_, h5_, h6_, h7_, h8_, h9_, h10_, h11_, h12_, h13_, h14_, h15_, h16_⟩
     have n0_ : Aside0 (Kd.V (Kd.int .i64) 2 w32 w.heap.size (fun k_ => ((P0_1_ k_ ∨ P1_1_ k_) ∨ w.heap.size ≤ k_) ∧ some k_ ≠ (.slice Ao22 y232.length co22 : Value).ownBlock ∧ some k_ ≠ (v241 : Value).ownBlock ∧ k_ ≠ gb229 ∧ k_ ≠ gb230 ∧ k_ ≠ gb231 ∧ k_ ≠ gb243) (.slice A0_1 l0_1.length c0_1) l0_1) := ⟨h0_⟩
     have n1_ : Aside0 (Kd.V (Kd.int .i64) 2 w32 w.heap.size (fun k_ => ((P0_1_ k_ ∨ P1_1_ k_) ∨ w.heap.size ≤ k_) ∧ some k_ ≠ (.slice Ao22 y232.length co22 : Value).ownBlock ∧ some k_ ≠ (v241 : Value).ownBlock ∧ k_ ≠ gb229 ∧ k_ ≠ gb230 ∧ k_ ≠ gb231 ∧ k_ ≠ gb243) (.slice A1_1 l1_1.length c1_1) l1_1) := ⟨h1_⟩
     have n2_ : Aside0 (Kd.N k26 26 w32 w.heap.size (fun k_ => ((P0_1_ k_ ∨ P1_1_ k_) ∨ w.heap.size ≤ k_) ∧ some k_ ≠ (v241 : Value).ownBlock ∧ k_ ≠ gb229 ∧ k_ ≠ gb230 ∧ k_ ≠ gb231 ∧ k_ ≠ gb243) (.slice Ao22 y232.length co22) y232) := ⟨h2_⟩
     have n3_ : Aside0 (Kd.R (Kd.int .i64) 2 w32 w.heap.size (fun k_ => (w.heap.size ≤ k_)) v241 y240) := ⟨h3_⟩
     have n4_ : Aside0 (w32.heap[gb229]? = some (.cells #[.int .i64 a0_0, .slice A0_1 l0_1.length c0_1] 26 (0, 0))) := ⟨h4_⟩
     have n5_ : Aside0 (w32.heap[gb230]? = some (.cells #[.int .i64 a1_0, .slice A1_1 l1_1.length c1_1] 26 (0, 0))) := ⟨h5_⟩
     have n6_ : Aside0 (w32.heap[gb231]? = some (.cells #[.int .i64 0, .slice none 0 0] 26 (0, 0))) := ⟨h6_⟩
     have n7_ : Aside0 (w32.heap[gb243]? = some (.cells #[.int .i64 0, .slice none 0 0] 26 (0, 0))) := ⟨h7_⟩
     have n8_ : Aside0 (w.heap.size ≤ gb243) := ⟨h8_⟩
     have n9_ : Aside0 (w.heap.size ≤ gb243) := ⟨h9_⟩
     have n10_ : Aside0 (gb229 ≠ gb243) := ⟨h10_⟩
     have n11_ : Aside0 (gb243 ≠ gb229) := ⟨h11_⟩
     have n12_ : Aside0 (gb230 ≠ gb243) := ⟨h12_⟩
     have n13_ : Aside0 (gb243 ≠ gb230) := ⟨h13_⟩
     have n14_ : Aside0 (gb231 ≠ gb243) := ⟨h14_⟩
     have n15_ : Aside0 (gb243 ≠ gb231) := ⟨h15_⟩
     have n16_ : Aside0 (Below w.heap.size w w32) := ⟨h16_⟩
     clear HO0_1
     clear HO1_1
     clear HO234
     clear BK229
     clear BK230
     clear BK231
     clear HB
     clear h0_ h1_ h2_ h3_ h4_ h5_ h6_ h7_ h8_ h9_ h10_ h11_ h12_ h13_ h14_ h15_ h16_
     have HO0_1 := n0_
     have HO1_1 := n1_
     have HO234 := n2_
     have HO242 := n3_
     have BK229 := n4_
     have BK230 := n5_
     have BK231 := n6_
     have BK243 := n7_
     have GW243 := n8_
     have GE243 := n9_
     have NB229_243 := n10_
     have NB243_229 := n11_
     have NB230_243 := n12_
     have NB243_230 := n13_
     have NB231_243 := n14_
     have NB243_231 := n15_
     have HB := n16_
     clear n0_ n1_ n2_ n3_ n4_ n5_ n6_ n7_ n8_ n9_ n10_ n11_ n12_ n13_ n14_ n15_ n16_
     have hHeld : w32.cell? ⟨gb229, 0, none⟩ = some (.int .i64 a0_0) ∧ w32.cell? ⟨gb229, 1, none⟩ = some (.slice A0_1 l0_1.length c0_1) ∧ w32.cell? ⟨gb230, 0, none⟩ = some (.int .i64 a1_0) ∧ w32.cell? ⟨gb230, 1, none⟩ = some (.slice A1_1 l1_1.length c1_1) := hS_
     obtain ⟨Ao33, co33, eo33⟩ := Kd.R_slice HO242.out
     (first | subst eo33 | (injection eo33 with f1_ f2_ f3_; have f4_ := f1_.symm; have f5_ := f3_.symm; clear f1_ f2_ f3_; subst f4_; subst f5_))
     refine norm_ (a' := ?_) ?_ ?_
     rotate_left
     ·simp only [putAll, Act.put, List.setIfInBounds_toArray, List.set_cons_zero, List.set_cons_succ]
      rfl
     refine one_ (i := 15) (N := none) #[true, true, true, true, true, true, true, true, true, true, true, true, true, true, true, true] rfl rfl (one_of HT_.out (by kernel_rfl)) (by decide) (fun K hK => ?_)
     have hs34 : w32.cell? ⟨gb243, 0, none⟩ = some (.int .i64 0) := bc_ BK243 0
     have hfs34 := blk_frozen BK243.out 0
     have hns34_0 := NB229_243.out
     have hns34_1 := NB230_243.out
     have hns34_2 := NB231_243.out
     have hms34_0 := NB243_229.out
     have hms34_1 := NB243_230.out
     have hms34_2 := NB243_231.out
     have hs35 : w32.cell? ⟨gb243, 1, none⟩ = some (.slice none 0 0) := bc_ BK243 1
     have hfs35 := blk_frozen BK243.out 1
     have hns35_0 := NB229_243.out
     have hns35_1 := NB230_243.out
     have hns35_2 := NB231_243.out
     have hms35_0 := NB243_229.out
     have hms35_1 := NB243_230.out
     have hms35_2 := NB243_231.out
     refine skip_ (w1 := ?_) (by rfl) rfl ?_ ?_
     rotate_left
     ·go_simp
      rfl
     refine hK.out _ _ ⟨((cell_far (p := ⟨gb243, _, none⟩) NB229_243.out _).trans (((cell_far (p := ⟨gb243, _, none⟩) NB229_243.out _).trans (hHeld.1)))), ((cell_far (p := ⟨gb243, _, none⟩) NB229_243.out _).trans (((cell_far (p := ⟨gb243, _, none⟩) NB229_243.out _).trans (hHeld.2.1)))), ((cell_far (p := ⟨gb243, _, none⟩) NB230_243.out _).trans (((cell_far (p := ⟨gb243, _, none⟩) NB230_243.out _).trans (hHeld.2.2.1)))), ((cell_far (p := ⟨gb243, _, none⟩) NB230_243.out _).trans (((cell_far (p := ⟨gb243, _, none⟩) NB230_243.out _).trans (hHeld.2.2.2))))⟩ (fun hHeld => ?_)
     clear hK K
     refine done_ (done_of HT_.out (by kernel_rfl)) ?_
     have hnb36 := NB229_243.out
     have hnc36 := NB243_229.out
     have hcz37_0 : w32.cell? ⟨gb229, 0, none⟩ = some (.int .i64 a0_0) := bc_ BK229 0
     have hcz37_1 : w32.cell? ⟨gb229, 1, none⟩ = some (.slice A0_1 l0_1.length c0_1) := bc_ BK229 1
     have hfz37_0 := blk_frozen BK229.out 0
     have hfz37_1 := blk_frozen BK229.out 1
     try go_wp2
     go_loopg [47] k (fun kq v47 w' => ∃ (x45_1 : List Int) (x47_1 : Int) (x230001_1 : List Int) (x231001_1 : List Int) (x244001_1 : List Int) (u230001 : Value) (u231001 : Value) (u244001 : Value), v47 = .int .i64 x47_1 ∧ Aside0 (impl_MultiplyLaurent.l0 kq x45_1 (l0_1.length : Int) x47_1 a1_0 x231001_1 (wrap64 (a0_0 + a1_0)) x244001_1 = some (r1, r2, r3)) ∧ Aside0 (kq ≤ k) ∧ Aside0 (Kd.V (Kd.int .i64) 2 w' w.heap.size (fun k_ => ((P0_1_ k_ ∨ P1_1_ k_) ∨ w.heap.size ≤ k_) ∧ some k_ ≠ (u244001 : Value).ownBlock ∧ k_ ≠ gb229 ∧ k_ ≠ gb230 ∧ k_ ≠ gb231 ∧ k_ ≠ gb243) (.slice A0_1 l0_1.length c0_1) x45_1) ∧ Aside0 (Kd.V (Kd.int .i64) 2 w' w.heap.size (fun k_ => ((P0_1_ k_ ∨ P1_1_ k_) ∨ w.heap.size ≤ k_) ∧ some k_ ≠ (u244001 : Value).ownBlock ∧ k_ ≠ gb229 ∧ k_ ≠ gb230 ∧ k_ ≠ gb231 ∧ k_ ≠ gb243) u230001 x230001_1) ∧ Aside0 (Kd.V (Kd.int .i64) 2 w' w.heap.size (fun k_ => ((P0_1_ k_ ∨ P1_1_ k_) ∨ w.heap.size ≤ k_) ∧ some k_ ≠ (u244001 : Value).ownBlock ∧ k_ ≠ gb229 ∧ k_ ≠ gb230 ∧ k_ ≠ gb231 ∧ k_ ≠ gb243) u231001 x231001_1) ∧ Aside0 (Kd.R (Kd.int .i64) 2 w' w.heap.size (fun k_ => (w.heap.size ≤ k_)) u244001 x244001_1) ∧ Aside0 (w'.heap[gb229]? = some (.cells #[.int .i64 a0_0, u230001] 26 (0, 0))) ∧ Aside0 (w'.heap[gb230]? = some (.cells #[.int .i64 a1_0, u231001] 26 (0, 0))) ∧ Aside0 (w'.heap[gb231]? = some (.cells #[.int .i64 0, (.slice none 0 0)] 26 (0, 0))) ∧ Aside0 (w'.heap[gb243]? = some (.cells #[.int .i64 (wrap64 (a0_0 + a1_0)), u244001] 26 (0, 0))) ∧ Aside0 (Below w.heap.size w w'))
     case atStart => exact ⟨(l0_1), (0), (l0_1), (l1_1), (y240), (.slice A0_1 l0_1.length c0_1), (.slice A1_1 l1_1.length c1_1), (.slice Ao33 y240.length co33), (by first | rfl | (simp; done) | (simp [*]; done)), H', ⟨Nat.le_refl _⟩, ⟨by (with_reducible repeat (first | apply Kd.V_alloc | apply Kd.V_drewN | apply Kd.V_drew)); exact Kd.V_mono (Kd.V_far (p := ⟨gb243, 1, none⟩) (Kd.V_far (p := ⟨gb243, 0, none⟩) (Kd.V_mono HO0_1.out (fun k_ hk => (⟨hk, hk.2.2.2.2.2.2⟩ : _ ∧ k_ ≠ gb243))) (fun _ hk => hk.2) (.int .i64 (wrap64 (a0_0 + a1_0)))) (fun _ hk => hk.2) (.slice Ao33 y240.length co33)) (fun _ hk => by first | exact ⟨hk.1.1, ⟨hk.1.2.2.1, ⟨hk.1.2.2.2.1, ⟨hk.1.2.2.2.2.1, ⟨hk.1.2.2.2.2.2.1, hk.1.2.2.2.2.2.2⟩⟩⟩⟩⟩ | simp only [hk, and_self, ne_eq, not_false_eq_true, true_and, and_true])⟩, ⟨by (with_reducible repeat (first | apply Kd.V_alloc | apply Kd.V_drewN | apply Kd.V_drew)); exact Kd.V_mono (Kd.V_far (p := ⟨gb243, 1, none⟩) (Kd.V_far (p := ⟨gb243, 0, none⟩) (Kd.V_mono HO0_1.out (fun k_ hk => (⟨hk, hk.2.2.2.2.2.2⟩ : _ ∧ k_ ≠ gb243))) (fun _ hk => hk.2) (.int .i64 (wrap64 (a0_0 + a1_0)))) (fun _ hk => hk.2) (.slice Ao33 y240.length co33)) (fun _ hk => by first | exact ⟨hk.1.1, ⟨hk.1.2.2.1, ⟨hk.1.2.2.2.1, ⟨hk.1.2.2.2.2.1, ⟨hk.1.2.2.2.2.2.1, hk.1.2.2.2.2.2.2⟩⟩⟩⟩⟩ | simp only [hk, and_self, ne_eq, not_false_eq_true, true_and, and_true])⟩, ⟨by (with_reducible repeat (first | apply Kd.V_alloc | apply Kd.V_drewN | apply Kd.V_drew)); exact Kd.V_mono (Kd.V_far (p := ⟨gb243, 1, none⟩) (Kd.V_far (p := ⟨gb243, 0, none⟩) (Kd.V_mono HO1_1.out (fun k_ hk => (⟨hk, hk.2.2.2.2.2.2⟩ : _ ∧ k_ ≠ gb243))) (fun _ hk => hk.2) (.int .i64 (wrap64 (a0_0 + a1_0)))) (fun _ hk => hk.2) (.slice Ao33 y240.length co33)) (fun _ hk => by first | exact ⟨hk.1.1, ⟨hk.1.2.2.1, ⟨hk.1.2.2.2.1, ⟨hk.1.2.2.2.2.1, ⟨hk.1.2.2.2.2.2.1, hk.1.2.2.2.2.2.2⟩⟩⟩⟩⟩ | simp only [hk, and_self, ne_eq, not_false_eq_true, true_and, and_true])⟩, ⟨rm_ (Kd.R_far (p := ⟨gb243, 1, none⟩) (Kd.R_far (p := ⟨gb243, 0, none⟩) (Kd.R_types HO242.out BK243.out (by decide)) (fun _ hk => hk.2) (.int .i64 (wrap64 (a0_0 + a1_0)))) (fun _ hk => hk.2) (.slice Ao33 y240.length co33)) (fun _ hk => hk.1)⟩, ⟨bk_ BK229.out⟩, ⟨bk_ BK230.out⟩, ⟨bk_ BK231.out⟩, ⟨by (with_reducible repeat (first | refine blk_drewN ?_ _ | refine blk_drew ?_ | refine blk_alloc ?_ _)); refine blk_put (cs := #[.int .i64 (wrap64 (a0_0 + a1_0)), .slice none 0 0]) ?_ 1 _ rfl; (with_reducible repeat (first | refine blk_drewN ?_ _ | refine blk_drew ?_ | refine blk_alloc ?_ _)); refine blk_put (cs := #[.int .i64 0, .slice none 0 0]) ?_ 0 _ rfl; (with_reducible repeat (first | refine blk_drewN ?_ _ | refine blk_drew ?_ | refine blk_alloc ?_ _)); exact BK243.out⟩, ⟨bb_ HB.out⟩⟩
     case round =>
      clear H'
      try clear c1
      try clear c2
      try clear p2
      try clear c3
      try clear p6
      try clear c11
      try clear c11b0
      try clear c11b1
      try clear c13
      try clear c15
      try clear c16
      try clear c18
      try clear c19
      try clear c28
      try clear c29
      try clear c36
      try clear hcz17_0
      try clear hcz17_1
      try clear hcz19_0
      try clear hcz19_1
      try clear hcz37_0
      try clear hcz37_1
      try clear hfz17_0
      try clear hfz17_1
      try clear hfz19_0
      try clear hfz19_1
      try clear hfz37_0
      try clear hfz37_1
      (try clear HK1)
      (try clear HO_45)
      (try clear HO_230001)
      (try clear HO_231001)
      (try clear HO_244001)
      (try clear BK229)
      (try clear BK230)
      (try clear BK231)
      (try clear BK243)
      (try clear HB)
      obtain ⟨x45_1, x47_1, x230001_1, x231001_1, x244001_1, u230001, u231001, u244001, rfl, HA, HK1, HO_45, HO_230001, HO_231001, HO_244001, BK229, BK230, BK231, BK243, HB⟩ := hrel
      have hl45_1 := (Kd.V_reads' HO_45.out).1
      rw [hl45_1] at HO_45
      (try simp only [hl45_1])
      (try simp only [hl45_1] at BK229)
      (try simp only [hl45_1] at BK230)
      (try simp only [hl45_1] at BK231)
      (try simp only [hl45_1] at BK243)
      (try simp only [hl45_1] at HO_230001)
      (try simp only [hl45_1] at HO_231001)
      (try simp only [hl45_1] at HO_244001)
      cases gk with
      | zero => exact absurd HA.out (by simp [impl_MultiplyLaurent.l0])
      | succ k1 =>
       have H := HA.out
       clear HA
       simp only [impl_MultiplyLaurent.l0] at H
       by_cases c38 : x47_1 < (l0_1.length : Int)
       ·rw [if_pos c38] at H
        have c38b0 : decide (x47_1 < (l0_1.length : Int)) = true := decide_eq_true c38
        (try (have c38b945_1 := c38b0; rw [hl45_1] at c38b945_1))
        (try (have c38b953_2 := c38b0; rw [hl53_2] at c38b953_2))
        clear c38
        by_cases c39 : 0 ≤ x47_1
        ·rw [if_pos c39] at H
         have c39b0 : decide (0 ≤ x47_1) = true := decide_eq_true c39
         clear c39
         by_cases c40 : x47_1 < (x45_1.length : Int)
         ·rw [if_pos c40] at H
          have c40b0 : decide (x47_1 < (x45_1.length : Int)) = true := decide_eq_true c40
          (try (have c40b945_1 := c40b0; rw [hl45_1] at c40b945_1))
          (try (have c40b953_2 := c40b0; rw [hl53_2] at c40b953_2))
          clear c40
          have H' := am_ H
          clear H
          have p249 : 0 ≤ (x47_1 : Int) := of_decide_eq_true (by first | (with_reducible assumption) | assumption)
          have q249 : x47_1 < (x45_1.length : Int) := of_decide_eq_true (by first | (with_reducible assumption) | assumption)
          obtain ⟨ad249, e249, hx249_0⟩ := Kd.at_int (Kd.V_reads' HO_45.out).2.2 x47_1 p249 q249
          cases e249
          replace p249 := eq_true p249
          replace q249 := eq_true q249
          have hnb41 := NB230_229.out
          have hnc41 := NB229_230.out
          have hnb42 := NB230_231.out
          have hnc42 := NB231_230.out
          have hnb43 := NB230_243.out
          have hnc43 := NB243_230.out
          have hcz44_0 : wr.cell? ⟨gb230, 0, none⟩ = some (.int .i64 a1_0) := bc_ BK230 0
          have hcz44_1 : wr.cell? ⟨gb230, 1, none⟩ = some (u231001) := bc_ BK230 1
          have hfz44_0 := blk_frozen BK230.out 0
          have hfz44_1 := blk_frozen BK230.out 1
          obtain ⟨Ao45, co45, eo45⟩ := Kd.V_slice HO_231001.out
          subst eo45
          go_wp2
          go_loopg [55] k1 (fun kq v55 w' => ∃ (x45_2 : List Int) (x53_2 : List Int) (x55_2 : Int) (x230001_2 : List Int) (x231001_2 : List Int) (x244001_2 : List Int) (u230001 : Value) (u231001 : Value) (u244001 : Value), v55 = .int .i64 x55_2 ∧ Aside0 (impl_MultiplyLaurent.l1 kq x47_1 (rd x45_1 x47_1) x45_2 (l0_1.length : Int) x47_1 x53_2 (x231001_1.length : Int) x55_2 a1_0 x231001_2 (wrap64 (a0_0 + a1_0)) x244001_2 = some (r1, r2, r3)) ∧ Aside0 (kq ≤ k1) ∧ Aside0 (Kd.V (Kd.int .i64) 2 w' w.heap.size (fun k_ => ((P0_1_ k_ ∨ P1_1_ k_) ∨ w.heap.size ≤ k_) ∧ some k_ ≠ (u244001 : Value).ownBlock ∧ k_ ≠ gb229 ∧ k_ ≠ gb230 ∧ k_ ≠ gb231 ∧ k_ ≠ gb243) (.slice (some ad249) x45_1.length c0_1) x45_2) ∧ Aside0 (Kd.V (Kd.int .i64) 2 w' w.heap.size (fun k_ => ((P0_1_ k_ ∨ P1_1_ k_) ∨ w.heap.size ≤ k_) ∧ some k_ ≠ (u244001 : Value).ownBlock ∧ k_ ≠ gb229 ∧ k_ ≠ gb230 ∧ k_ ≠ gb231 ∧ k_ ≠ gb243) (.slice Ao45 x231001_1.length co45) x53_2) ∧ Aside0 (Kd.V (Kd.int .i64) 2 w' w.heap.size (fun k_ => ((P0_1_ k_ ∨ P1_1_ k_) ∨ w.heap.size ≤ k_) ∧ some k_ ≠ (u244001 : Value).ownBlock ∧ k_ ≠ gb229 ∧ k_ ≠ gb230 ∧ k_ ≠ gb231 ∧ k_ ≠ gb243) u230001 x230001_2) ∧ Aside0 (Kd.V (Kd.int .i64) 2 w' w.heap.size (fun k_ => ((P0_1_ k_ ∨ P1_1_ k_) ∨ w.heap.size ≤ k_) ∧ some k_ ≠ (u244001 : Value).ownBlock ∧ k_ ≠ gb229 ∧ k_ ≠ gb230 ∧ k_ ≠ gb231 ∧ k_ ≠ gb243) u231001 x231001_2) ∧ Aside0 (Kd.R (Kd.int .i64) 2 w' w.heap.size (fun k_ => (w.heap.size ≤ k_)) u244001 x244001_2) ∧ Aside0 (w'.heap[gb229]? = some (.cells #[.int .i64 a0_0, u230001] 26 (0, 0))) ∧ Aside0 (w'.heap[gb230]? = some (.cells #[.int .i64 a1_0, u231001] 26 (0, 0))) ∧ Aside0 (w'.heap[gb231]? = some (.cells #[.int .i64 0, (.slice none 0 0)] 26 (0, 0))) ∧ Aside0 (w'.heap[gb243]? = some (.cells #[.int .i64 (wrap64 (a0_0 + a1_0)), u244001] 26 (0, 0))) ∧ Aside0 (Below w.heap.size w w'))
          case atStart => exact ⟨(x45_1), (x231001_1), (0), (x230001_1), (x231001_1), (x244001_1), (u230001), (.slice Ao45 x231001_1.length co45), (u244001), (by first | rfl | (simp; done) | (simp [*]; done)), H', ⟨Nat.le_refl _⟩, ⟨by (try simp only [hl45_1]); (with_reducible repeat (first | apply Kd.V_alloc | apply Kd.V_drewN | apply Kd.V_drew)); exact HO_45.out⟩, ⟨by (try simp only [hl45_1]); (with_reducible repeat (first | apply Kd.V_alloc | apply Kd.V_drewN | apply Kd.V_drew)); exact HO_231001.out⟩, ⟨by (try simp only [hl45_1]); (with_reducible repeat (first | apply Kd.V_alloc | apply Kd.V_drewN | apply Kd.V_drew)); exact HO_230001.out⟩, ⟨by (try simp only [hl45_1]); (with_reducible repeat (first | apply Kd.V_alloc | apply Kd.V_drewN | apply Kd.V_drew)); exact HO_231001.out⟩, ⟨by (try simp only [hl45_1]); (with_reducible repeat (first | apply Kd.R_alloc | apply Kd.R_drewN | apply Kd.R_drew)); exact HO_244001.out⟩, ⟨by (try simp only [hl45_1]); (with_reducible repeat (first | refine blk_drewN ?_ _ | refine blk_drew ?_ | refine blk_alloc ?_ _)); exact BK229.out⟩, ⟨by (try simp only [hl45_1]); (with_reducible repeat (first | refine blk_drewN ?_ _ | refine blk_drew ?_ | refine blk_alloc ?_ _)); exact BK230.out⟩, ⟨by (try simp only [hl45_1]); (with_reducible repeat (first | refine blk_drewN ?_ _ | refine blk_drew ?_ | refine blk_alloc ?_ _)); exact BK231.out⟩, ⟨by (try simp only [hl45_1]); (with_reducible repeat (first | refine blk_drewN ?_ _ | refine blk_drew ?_ | refine blk_alloc ?_ _)); exact BK243.out⟩, ⟨bb_ HB.out⟩⟩
          case round =>
           clear H'
           try clear c1
           try clear c2
           try clear p2
           try clear q2
           try clear hx2
           try clear c3
           try clear c4
           try clear p6
           try clear c11
           try clear c11b0
           try clear c11b1
           try clear c13
           try clear c15
           try clear c16
           try clear c18
           try clear c19
           try clear p24
           try clear q24
           try clear hx24
           try clear c28
           try clear c29
           try clear c36
           try clear c38
           try clear c38b0
           try clear c39
           try clear c39b0
           try clear c40
           try clear c40b0
           try clear c41
           try clear c42
           try clear c43
           try clear hcz17_0
           try clear hcz17_1
           try clear hcz19_0
           try clear hcz19_1
           try clear hcz37_0
           try clear hcz37_1
           try clear hcz44_0
           try clear hcz44_1
           try clear hfz17_0
           try clear hfz17_1
           try clear hfz19_0
           try clear hfz19_1
           try clear hfz37_0
           try clear hfz37_1
           try clear hfz44_0
           try clear hfz44_1
           try clear hx249_0
           try clear p2
           try clear p249
           try clear p6
           try clear q249
           (try clear HO_45)
           (try clear HO_53)
           (try clear HO_230001)
           (try clear HO_231001)
           (try clear HO_244001)
           (try clear BK229)
           (try clear BK230)
           (try clear BK231)
           (try clear BK243)
           (try clear HB)
           obtain ⟨x45_2, x53_2, x55_2, x230001_2, x231001_2, x244001_2, u230001, u231001, u244001, rfl, HA, HK2, HO_45, HO_53, HO_230001, HO_231001, HO_244001, BK229, BK230, BK231, BK243, HB⟩ := hrel
           have hl45_2 := (Kd.V_reads' HO_45.out).1
           rw [hl45_2] at HO_45
           (try simp only [hl45_2])
           (try simp only [hl45_2] at BK229)
           (try simp only [hl45_2] at BK230)
           (try simp only [hl45_2] at BK231)
           (try simp only [hl45_2] at BK243)
           (try simp only [hl45_2] at HO_53)
           (try simp only [hl45_2] at HO_230001)
           (try simp only [hl45_2] at HO_231001)
           (try simp only [hl45_2] at HO_244001)
           have hl53_2 := (Kd.V_reads' HO_53.out).1
           rw [hl53_2] at HO_53
           (try simp only [hl53_2])
           (try simp only [hl53_2] at BK229)
           (try simp only [hl53_2] at BK230)
           (try simp only [hl53_2] at BK231)
           (try simp only [hl53_2] at BK243)
           (try simp only [hl53_2] at HO_45)
           (try simp only [hl53_2] at HO_230001)
           (try simp only [hl53_2] at HO_231001)
           (try simp only [hl53_2] at HO_244001)
           cases gk with
           | zero => exact absurd HA.out (by simp [impl_MultiplyLaurent.l1])
           | succ k2 =>
            have H := HA.out
            clear HA
            simp only [impl_MultiplyLaurent.l1] at H
            by_cases c46 : x55_2 < (x231001_1.length : Int)
            ·rw [if_pos c46] at H
             have c46b0 : decide (x55_2 < (x231001_1.length : Int)) = true := decide_eq_true c46
             (try (have c46b945_1 := c46b0; rw [hl45_1] at c46b945_1))
             (try (have c46b953_2 := c46b0; rw [hl53_2] at c46b953_2))
             clear c46
             by_cases c47 : 0 ≤ x55_2
             ·rw [if_pos c47] at H
              have c47b0 : decide (0 ≤ x55_2) = true := decide_eq_true c47
              clear c47
              by_cases c48 : x55_2 < (x53_2.length : Int)
              ·rw [if_pos c48] at H
               have c48b0 : decide (x55_2 < (x53_2.length : Int)) = true := decide_eq_true c48
               (try (have c48b945_1 := c48b0; rw [hl45_1] at c48b945_1))
               (try (have c48b953_2 := c48b0; rw [hl53_2] at c48b953_2))
               clear c48
               obtain ⟨ji49, hji49⟩ : ∃ j_ : Int, (wrap64 (x47_1 + x55_2)) = j_ := ⟨_, rfl⟩
               replace H : (if 0 ≤ (ji49) then (if (ji49) < (x244001_2.length : Int) then (impl_MultiplyLaurent.l1 k2 x47_1 (rd x45_1 x47_1) x45_2 (l0_1.length : Int) x47_1 x53_2 (x231001_1.length : Int) (wrap64 (x55_2 + 1)) a1_0 x231001_2 (wrap64 (a0_0 + a1_0)) (x244001_2.set ((ji49) : Int).toNat (wrap64 ((rd x244001_2 (ji49)) + (wrap64 ((rd x45_1 x47_1) * (rd x53_2 x55_2))))))) else (none)) else (none)) = some (r1, r2, r3) := by first | (rw [hji49] at H; exact H) | (simp only [hji49] at H ⊢; exact H)
               have hji49w : (IntKind.i64.wrap (x47_1 + x55_2)) = ji49 := (i64_w _).trans hji49
               by_cases c50 : 0 ≤ (ji49)
               ·rw [if_pos c50] at H
                have c50b0 : decide (0 ≤ (ji49)) = true := decide_eq_true c50
                clear c50
                by_cases c51 : (ji49) < (x244001_2.length : Int)
                ·rw [if_pos c51] at H
                 have c51b0 : decide ((ji49) < (x244001_2.length : Int)) = true := decide_eq_true c51
                 clear c51
                 obtain ⟨y252, hy252⟩ : ∃ y_ : List Int, y_ = (x244001_2.set ((ji49) : Int).toNat (wrap64 ((rd x244001_2 (ji49)) + (wrap64 ((rd x45_1 x47_1) * (rd x53_2 x55_2)))))) := ⟨_, rfl⟩
                 replace H : (impl_MultiplyLaurent.l1 k2 x47_1 (rd x45_1 x47_1) x45_2 (l0_1.length : Int) x47_1 x53_2 (x231001_1.length : Int) (wrap64 (x55_2 + 1)) a1_0 x231001_2 (wrap64 (a0_0 + a1_0)) y252) = some (r1, r2, r3) := by first | (rw [hy252]; with_reducible exact H) | (have H2_ := (Option.bind_some _ _).symm.trans H; rw [hy252]; with_reducible exact H2_) | (have H2_ := (Option.bind_some _ _).symm.trans H; with_reducible exact H2_) | with_reducible exact H | (rw [hy252]; exact H) | exact H
                 have Ny252 := am_ hy252
                 clear hy252
                 have H' := am_ H
                 clear H
                 have p250 : 0 ≤ (x55_2 : Int) := of_decide_eq_true (by first | (with_reducible assumption) | assumption)
                 have q250 : x55_2 < (x53_2.length : Int) := of_decide_eq_true (by first | (with_reducible assumption) | assumption)
                 obtain ⟨ad250, e250, hx250_0⟩ := Kd.at_int (Kd.V_reads' HO_53.out).2.2 x55_2 p250 q250
                 cases e250
                 replace p250 := eq_true p250
                 replace q250 := eq_true q250
                 have hnb53 := NB243_229.out
                 have hnc53 := NB229_243.out
                 have hnb54 := NB243_230.out
                 have hnc54 := NB230_243.out
                 have hnb55 := NB243_231.out
                 have hnc55 := NB231_243.out
                 have hcz56_0 : wr.cell? ⟨gb243, 0, none⟩ = some (.int .i64 (wrap64 (a0_0 + a1_0))) := bc_ BK243 0
                 have hcz56_1 : wr.cell? ⟨gb243, 1, none⟩ = some (u244001) := bc_ BK243 1
                 have hfz56_0 := blk_frozen BK243.out 0
                 have hfz56_1 := blk_frozen BK243.out 1
                 obtain ⟨Ao57, co57, eo57⟩ := Kd.R_slice HO_244001.out
                 subst eo57
                 have p251 : 0 ≤ ((ji49) : Int) := of_decide_eq_true (by first | (with_reducible assumption) | assumption)
                 have q251 : (ji49) < (x244001_2.length : Int) := of_decide_eq_true (by first | (with_reducible assumption) | assumption)
                 obtain ⟨ad251, e251, hx251_0⟩ := Kd.at_int (Kd.R_reads' HO_244001.out).2.2 (ji49) p251 q251
                 cases e251
                 replace p251 := eq_true p251
                 replace q251 := eq_true q251
                 have p52 : 0 ≤ ((ji49) : Int) := of_decide_eq_true (by first | (with_reducible assumption) | assumption)
                 have q52 : ((ji49) : Int) < ((x244001_2.length : Int) : Int) := of_decide_eq_true (by first | (with_reducible assumption) | assumption)
                 obtain ⟨go52, co52, eo52, gb52, gl52, cl52, HG52⟩ := Kd.R_form HO_244001.out (by omega)
                 (first | cases eo52 | (injection eo52 with ea_ en_ ec_; (first | subst ea_ | (injection ea_ with ea_; subst ea_)); subst ec_; clear en_))
                 have GB52 := am_ gb52
                 have GG52 := am_ HG52
                 clear gb52 gl52 HG52
                 (first | simp only [add_plain] at hx251_0 | skip)
                 obtain ⟨hx52_0, hf52_0⟩ := Kd.R_celln 0 HO_244001.out ((ji49) : Int) p52 q52
                 replace p52 := eq_true p52
                 replace q52 := eq_true q52
                 have HP58 := Kd.R_putg HO_244001.out ((ji49) : Int) (wrap64 ((rd x244001_2 (ji49)) + (wrap64 ((rd x45_1 x47_1) * (rd x53_2 x55_2)))))
                 go_wp2_with (first | ((with_reducible refine gate_store (t := 2) (p := 71) rfl ?_); refine store_event (t := 2) (p := 71) (v := ?vo_w59) (w1 := (wr.setCell ⟨go52, ((ji49) : Int).toNat, none⟩ (.int .i64 (wrap64 ((rd x244001_2 (ji49)) + (wrap64 ((rd x45_1 x47_1) * (rd x53_2 x55_2)))))))) ?hg ?ho ?hn ?hr ?_; (case ho => rfl); (case hg => rfl); (case hn => rfl); (case hr => first | (go_simp; done) | (go_simp; rfl)); intro w59 hw; have hg : wr.grownBy w59 (some go52) := (by rw [hw]; exact HP58.2); have hp_ : Kd.R (Kd.int .i64) 2 w59 w.heap.size (fun k_ => (w.heap.size ≤ k_)) (.slice (some ⟨go52, 0, none⟩) x244001_2.length co57) y252 := (by rw [hw, Ny252.out]; exact HP58.1); clear HP58; have n0_ := am_ (Kd.V_afterv (v := (.slice (some ⟨go52, 0, none⟩) x244001_2.length co57)) (v1 := (.slice (some ⟨go52, 0, none⟩) x244001_2.length co57)) (ok := (fun k_ => ((P0_1_ k_ ∨ P1_1_ k_) ∨ w.heap.size ≤ k_) ∧ k_ ≠ gb229 ∧ k_ ≠ gb230 ∧ k_ ≠ gb231 ∧ k_ ≠ gb243)) (by (with_reducible repeat (first | apply Kd.V_alloc | apply Kd.V_drewN | apply Kd.V_drew)); exact Kd.V_mono HO_45.out (fun _ hk => ⟨⟨hk.1, ⟨hk.2.2.1, ⟨hk.2.2.2.1, ⟨hk.2.2.2.2.1, hk.2.2.2.2.2⟩⟩⟩⟩, hk.2.1⟩)) hg (.inl rfl)); have n1_ := am_ (Kd.V_afterv (v := (.slice (some ⟨go52, 0, none⟩) x244001_2.length co57)) (v1 := (.slice (some ⟨go52, 0, none⟩) x244001_2.length co57)) (ok := (fun k_ => ((P0_1_ k_ ∨ P1_1_ k_) ∨ w.heap.size ≤ k_) ∧ k_ ≠ gb229 ∧ k_ ≠ gb230 ∧ k_ ≠ gb231 ∧ k_ ≠ gb243)) (by (with_reducible repeat (first | apply Kd.V_alloc | apply Kd.V_drewN | apply Kd.V_drew)); exact Kd.V_mono HO_53.out (fun _ hk => ⟨⟨hk.1, ⟨hk.2.2.1, ⟨hk.2.2.2.1, ⟨hk.2.2.2.2.1, hk.2.2.2.2.2⟩⟩⟩⟩, hk.2.1⟩)) hg (.inl rfl)); have n2_ := am_ (Kd.V_afterv (v := (.slice (some ⟨go52, 0, none⟩) x244001_2.length co57)) (v1 := (.slice (some ⟨go52, 0, none⟩) x244001_2.length co57)) (ok := (fun k_ => ((P0_1_ k_ ∨ P1_1_ k_) ∨ w.heap.size ≤ k_) ∧ k_ ≠ gb229 ∧ k_ ≠ gb230 ∧ k_ ≠ gb231 ∧ k_ ≠ gb243)) (by (with_reducible repeat (first | apply Kd.V_alloc | apply Kd.V_drewN | apply Kd.V_drew)); exact Kd.V_mono HO_230001.out (fun _ hk => ⟨⟨hk.1, ⟨hk.2.2.1, ⟨hk.2.2.2.1, ⟨hk.2.2.2.2.1, hk.2.2.2.2.2⟩⟩⟩⟩, hk.2.1⟩)) hg (.inl rfl)); have n3_ := am_ (Kd.V_afterv (v := (.slice (some ⟨go52, 0, none⟩) x244001_2.length co57)) (v1 := (.slice (some ⟨go52, 0, none⟩) x244001_2.length co57)) (ok := (fun k_ => ((P0_1_ k_ ∨ P1_1_ k_) ∨ w.heap.size ≤ k_) ∧ k_ ≠ gb229 ∧ k_ ≠ gb230 ∧ k_ ≠ gb231 ∧ k_ ≠ gb243)) (by (with_reducible repeat (first | apply Kd.V_alloc | apply Kd.V_drewN | apply Kd.V_drew)); exact Kd.V_mono HO_231001.out (fun _ hk => ⟨⟨hk.1, ⟨hk.2.2.1, ⟨hk.2.2.2.1, ⟨hk.2.2.2.2.1, hk.2.2.2.2.2⟩⟩⟩⟩, hk.2.1⟩)) hg (.inl rfl)); have n4_ := am_ (hp_); have n5_ := am_ (blk_grown (g := gb229) (o := .cells #[.int .i64 a0_0, u230001] 26 (0, 0)) (bk_ BK229.out) hg (Kd.R_ne HO_244001.out BK229.out (by decide))); have n6_ := am_ (blk_grown (g := gb230) (o := .cells #[.int .i64 a1_0, u231001] 26 (0, 0)) (bk_ BK230.out) hg (Kd.R_ne HO_244001.out BK230.out (by decide))); have n7_ := am_ (blk_grown (g := gb231) (o := .cells #[.int .i64 0, .slice none 0 0] 26 (0, 0)) (bk_ BK231.out) hg (Kd.R_ne HO_244001.out BK231.out (by decide))); have n8_ := am_ (blk_grown (g := gb243) (o := .cells #[.int .i64 (wrap64 (a0_0 + a1_0)), .slice (some ⟨go52, 0, none⟩) x244001_2.length co57] 26 (0, 0)) (bk_ BK243.out) hg (Kd.R_ne HO_244001.out BK243.out (by decide))); have n9_ := am_ ((by rw [hw]; exact below_set (HB.out) GB52.out : Below w.heap.size w w59)); clear HO_45 HO_53 HO_230001 HO_231001 HO_244001 BK229 BK230 BK231 BK243 HB; revert n0_ n1_ n2_ n3_ n4_ n5_ n6_ n7_ n8_ n9_; intro HO_45 HO_53 HO_230001 HO_231001 HO_244001 BK229 BK230 BK231 BK243 HB; clear hg hw hp_))
                 (try simp only [← hl45_2, ← hl53_2])
                 go_roundg k2
                 case measure => have := HK1.out; have := HK2.out; omega
                 case rel => exact ⟨(x45_2), (x53_2), (wrap64 (x55_2 + 1)), (x230001_2), (x231001_2), (y252), (u230001), (u231001), (.slice (some ⟨go52, 0, none⟩) x244001_2.length co57), (by first | rfl | (simp; done) | (simp [*]; done)), H', ⟨by have := HK1.out; have := HK2.out; omega⟩, ⟨by (try simp only [hl45_1]); (try simp only [hl45_2]); (try simp only [hl53_2]); (with_reducible repeat (first | apply Kd.V_alloc | apply Kd.V_drewN | apply Kd.V_drew)); exact Kd.V_mono HO_45.out (fun _ hk => by first | exact ⟨hk.1.1, ⟨hk.2, ⟨hk.1.2.1, ⟨hk.1.2.2.1, ⟨hk.1.2.2.2.1, hk.1.2.2.2.2⟩⟩⟩⟩⟩ | simp only [hk, and_self, ne_eq, not_false_eq_true, true_and, and_true])⟩, ⟨by (try simp only [hl45_1]); (try simp only [hl45_2]); (try simp only [hl53_2]); (with_reducible repeat (first | apply Kd.V_alloc | apply Kd.V_drewN | apply Kd.V_drew)); exact Kd.V_mono HO_53.out (fun _ hk => by first | exact ⟨hk.1.1, ⟨hk.2, ⟨hk.1.2.1, ⟨hk.1.2.2.1, ⟨hk.1.2.2.2.1, hk.1.2.2.2.2⟩⟩⟩⟩⟩ | simp only [hk, and_self, ne_eq, not_false_eq_true, true_and, and_true])⟩, ⟨by (try simp only [hl45_1]); (try simp only [hl45_2]); (try simp only [hl53_2]); (with_reducible repeat (first | apply Kd.V_alloc | apply Kd.V_drewN | apply Kd.V_drew)); exact Kd.V_mono HO_230001.out (fun _ hk => by first | exact ⟨hk.1.1, ⟨hk.2, ⟨hk.1.2.1, ⟨hk.1.2.2.1, ⟨hk.1.2.2.2.1, hk.1.2.2.2.2⟩⟩⟩⟩⟩ | simp only [hk, and_self, ne_eq, not_false_eq_true, true_and, and_true])⟩, ⟨by (try simp only [hl45_1]); (try simp only [hl45_2]); (try simp only [hl53_2]); (with_reducible repeat (first | apply Kd.V_alloc | apply Kd.V_drewN | apply Kd.V_drew)); exact Kd.V_mono HO_231001.out (fun _ hk => by first | exact ⟨hk.1.1, ⟨hk.2, ⟨hk.1.2.1, ⟨hk.1.2.2.1, ⟨hk.1.2.2.2.1, hk.1.2.2.2.2⟩⟩⟩⟩⟩ | simp only [hk, and_self, ne_eq, not_false_eq_true, true_and, and_true])⟩, ⟨by (try simp only [hl45_1]); (try simp only [hl45_2]); (try simp only [hl53_2]); (with_reducible repeat (first | apply Kd.R_alloc | apply Kd.R_drewN | apply Kd.R_drew)); exact HO_244001.out⟩, ⟨by (try simp only [hl45_1]); (try simp only [hl45_2]); (try simp only [hl53_2]); (with_reducible repeat (first | refine blk_drewN ?_ _ | refine blk_drew ?_ | refine blk_alloc ?_ _)); exact BK229.out⟩, ⟨by (try simp only [hl45_1]); (try simp only [hl45_2]); (try simp only [hl53_2]); (with_reducible repeat (first | refine blk_drewN ?_ _ | refine blk_drew ?_ | refine blk_alloc ?_ _)); exact BK230.out⟩, ⟨by (try simp only [hl45_1]); (try simp only [hl45_2]); (try simp only [hl53_2]); (with_reducible repeat (first | refine blk_drewN ?_ _ | refine blk_drew ?_ | refine blk_alloc ?_ _)); exact BK231.out⟩, ⟨by (try simp only [hl45_1]); (try simp only [hl45_2]); (try simp only [hl53_2]); (with_reducible repeat (first | refine blk_drewN ?_ _ | refine blk_drew ?_ | refine blk_alloc ?_ _)); exact BK243.out⟩, ⟨bb_ HB.out⟩⟩
                ·rw [if_neg c51] at H
                 exact absurd H (by simp)
               ·rw [if_neg c50] at H
                exact absurd H (by simp)
              ·rw [if_neg c48] at H
               exact absurd H (by simp)
             ·rw [if_neg c47] at H
              exact absurd H (by simp)
            ·rw [if_neg c46] at H
             have c46b0 : decide (x55_2 < (x231001_1.length : Int)) = false := decide_eq_false c46
             (try (have c46b945_1 := c46b0; rw [hl45_1] at c46b945_1))
             (try (have c46b953_2 := c46b0; rw [hl53_2] at c46b953_2))
             clear c46
             have H' := am_ H
             clear H
             go_wp2
             (try simp only [← hl45_1, ← hl45_2, ← hl53_2])
             go_roundg k2
             case measure => have := HK1.out; have := HK2.out; omega
             case rel => exact ⟨(x45_2), (wrap64 (x47_1 + 1)), (x230001_2), (x231001_2), (x244001_2), (u230001), (u231001), (u244001), (by first | rfl | (simp; done) | (simp [*]; done)), H', ⟨by have := HK1.out; have := HK2.out; omega⟩, ⟨by (try simp only [hl45_1]); (try simp only [hl45_2]); (try simp only [hl53_2]); (with_reducible repeat (first | apply Kd.V_alloc | apply Kd.V_drewN | apply Kd.V_drew)); exact HO_45.out⟩, ⟨by (try simp only [hl45_1]); (try simp only [hl45_2]); (try simp only [hl53_2]); (with_reducible repeat (first | apply Kd.V_alloc | apply Kd.V_drewN | apply Kd.V_drew)); exact HO_230001.out⟩, ⟨by (try simp only [hl45_1]); (try simp only [hl45_2]); (try simp only [hl53_2]); (with_reducible repeat (first | apply Kd.V_alloc | apply Kd.V_drewN | apply Kd.V_drew)); exact HO_231001.out⟩, ⟨by (try simp only [hl45_1]); (try simp only [hl45_2]); (try simp only [hl53_2]); (with_reducible repeat (first | apply Kd.R_alloc | apply Kd.R_drewN | apply Kd.R_drew)); exact HO_244001.out⟩, ⟨by (try simp only [hl45_1]); (try simp only [hl45_2]); (try simp only [hl53_2]); (with_reducible repeat (first | refine blk_drewN ?_ _ | refine blk_drew ?_ | refine blk_alloc ?_ _)); exact BK229.out⟩, ⟨by (try simp only [hl45_1]); (try simp only [hl45_2]); (try simp only [hl53_2]); (with_reducible repeat (first | refine blk_drewN ?_ _ | refine blk_drew ?_ | refine blk_alloc ?_ _)); exact BK230.out⟩, ⟨by (try simp only [hl45_1]); (try simp only [hl45_2]); (try simp only [hl53_2]); (with_reducible repeat (first | refine blk_drewN ?_ _ | refine blk_drew ?_ | refine blk_alloc ?_ _)); exact BK231.out⟩, ⟨by (try simp only [hl45_1]); (try simp only [hl45_2]); (try simp only [hl53_2]); (with_reducible repeat (first | refine blk_drewN ?_ _ | refine blk_drew ?_ | refine blk_alloc ?_ _)); exact BK243.out⟩, ⟨bb_ HB.out⟩⟩
         ·rw [if_neg c40] at H
          exact absurd H (by simp)
        ·rw [if_neg c39] at H
         exact absurd H (by simp)
       ·rw [if_neg c38] at H
        have c38b0 : decide (x47_1 < (l0_1.length : Int)) = false := decide_eq_false c38
        (try (have c38b945_1 := c38b0; rw [hl45_1] at c38b945_1))
        (try (have c38b953_2 := c38b0; rw [hl53_2] at c38b953_2))
        clear c38
        replace H := Option.bind_eq_some_iff.mp H
        obtain ⟨⟨t244, t245, t248⟩, A600, H⟩ := H
        replace H : (some (t244, t245, t248)) = some (r1, r2, r3) := H
        have A60 := am_ A600
        clear A600
        simp only [Option.some.injEq, Prod.mk.injEq] at H
        obtain ⟨rfl, rfl, rfl⟩ := H
        have hnb61 := NB243_229.out
        have hnc61 := NB229_243.out
        have hnb62 := NB243_230.out
        have hnc62 := NB230_243.out
        have hnb63 := NB243_231.out
        have hnc63 := NB231_243.out
        have hcz64_0 : wr.cell? ⟨gb243, 0, none⟩ = some (.int .i64 (wrap64 (a0_0 + a1_0))) := bc_ BK243 0
        have hcz64_1 : wr.cell? ⟨gb243, 1, none⟩ = some (u244001) := bc_ BK243 1
        have hfz64_0 := blk_frozen BK243.out 0
        have hfz64_1 := blk_frozen BK243.out 1
        obtain ⟨Ao65, co65, eo65⟩ := Kd.R_slice HO_244001.out
        subst eo65
        go_wp2_with (first | ((with_reducible refine gate_callee (f := 21) rfl ?_); refine goesL_ (some 75) rfl rfl Try.func21 (by kernel_rfl) rfl #[.agg #[.int .i64 (wrap64 (a0_0 + a1_0)), .slice Ao65 x244001_1.length co65]] rfl lm_ ?_; (with_reducible refine (impl_valid.calls k1 (wrap64 (a0_0 + a1_0)) _ _ x244001_1 t244 t245 t248 _ ?side1 ?side2 A60.out).mono ?_); (case side1 => repeat (first | exact (Kd.R_reads' HO_244001.out).2.2 | (with_reducible refine Kd.C_alloc ?_ _) | (with_reducible refine Kd.C_drewN ?_ _) | (with_reducible refine Kd.C_drew ?_))); (case side2 => exact (Kd.R_reads' HO_244001.out).2.1); rintro e w66 ⟨v246, rfl, ho0, hb⟩; refine ⟨_, rfl, ?_⟩; have n0_ := am_ (Kd.V_elder' (by (with_reducible repeat (first | apply Kd.V_alloc | apply Kd.V_drewN | apply Kd.V_drew)); exact HO_45.out) (Kd.R_base ho0) hb); have n1_ := am_ (Kd.V_elder' (by (with_reducible repeat (first | apply Kd.V_alloc | apply Kd.V_drewN | apply Kd.V_drew)); exact HO_230001.out) (Kd.R_base ho0) hb); have n2_ := am_ (Kd.V_elder' (by (with_reducible repeat (first | apply Kd.V_alloc | apply Kd.V_drewN | apply Kd.V_drew)); exact HO_231001.out) (Kd.R_base ho0) hb); have n3_ := am_ (Kd.R_elder' (rk_ HO_244001.out) (Kd.R_base ho0) hb); have n4_ := am_ (Kd.R_lower (Kd.R_new' (Kd.R_newM (M := fun k_ => (w.heap.size ≤ k_)) ho0 (below_size (bb_ HB.out)) (fun k_ h_ => h_)) (Kd.R_lt (rk_ HO_244001.out))) (below_size (bb_ HB.out))); have n5_ := am_ (bw_ BK229 hb); have n6_ := am_ (bw_ BK230 hb); have n7_ := am_ (bw_ BK231 hb); have n8_ := am_ (bw_ BK243 hb); have n9_ := am_ (below_step (bb_ HB.out) hb); clear HO_45 HO_230001 HO_231001 HO_244001 BK229 BK230 BK231 BK243 HB; revert n0_ n1_ n2_ n3_ n4_ n5_ n6_ n7_ n8_ n9_; intro HO_45 HO_230001 HO_231001 HO_244001 HO247 BK229 BK230 BK231 BK243 HB; (try clear hb); (try clear hb2); (try clear hk); (try clear hi); (try clear ho0); have hnb67 := NB231_229.out; have hnc67 := NB229_231.out; have hnb68 := NB231_230.out; have hnc68 := NB230_231.out; have hcz69_0 : w66.cell? ⟨gb231, 0, none⟩ = some (.int .i64 0) := bc_ BK231 0; have hcz69_1 : w66.cell? ⟨gb231, 1, none⟩ = some (.slice none 0 0) := bc_ BK231 1; have hfz69_0 := blk_frozen BK231.out 0; have hfz69_1 := blk_frozen BK231.out 1; obtain ⟨Ao70, co70, eo70⟩ := Kd.R_slice HO247.out; subst eo70))
        refine bodyPost_ret (results_ct rfl _ _ gb231 26 #[.int .i64 t244, .slice Ao70 t245.length co70] (0, 0) _ rfl (by (with_reducible repeat (first | refine blk_drewN ?_ _ | refine blk_drew ?_ | refine blk_alloc ?_ _)); refine blk_put (cs := #[.int .i64 t244, .slice none 0 0]) ?_ 1 _ rfl; (with_reducible repeat (first | refine blk_drewN ?_ _ | refine blk_drew ?_ | refine blk_alloc ?_ _)); refine blk_put (cs := #[.int .i64 0, .slice none 0 0]) ?_ 0 _ rfl; (with_reducible repeat (first | refine blk_drewN ?_ _ | refine blk_drew ?_ | refine blk_alloc ?_ _)); exact BK231.out) Try.underlying26 rfl (by kernel_rfl)) rfl ?_
        exact ⟨_, by first | rfl | (simp [errW_none, errW_some] <;> rfl) | (simp only [← hji9]; first | rfl | (simp [errW_none, errW_some] <;> rfl)) | (simp [*, errW_none, errW_some] <;> rfl), rm_ (Kd.R_far (p := ⟨gb231, 1, none⟩) (Kd.R_far (p := ⟨gb231, 0, none⟩) (Kd.R_types HO247.out BK231.out (by decide)) (fun _ hk => hk.2) (.int .i64 t244)) (fun _ hk => hk.2) (.slice Ao70 t245.length co70)) (fun _ hk => hk.1.1.1), by repeat (first | (with_reducible first | exact HB.out | apply below_alloc | apply pw_below_drewN | apply below_drew1 | refine below_set ?_ GE229.out | refine below_set ?_ GE230.out | refine below_set ?_ GE231.out | refine below_set ?_ GE243.out) | exact HB.out)⟩
    ·rw [if_neg c11] at H
     exact absurd H (by simp)
   ·rw [if_neg c10] at H
    exact absurd H (by simp)
  ·replace c8 := Bool.eq_false_iff.mpr c8
   subst c8
   have H1 : (some (0, ([] : List Int), 3)) = some (r1, r2, r3) := by rw [if_neg (show ¬ (false = true) by decide)] at H; exact H
   clear H
   have H := H1
   clear H1
   simp only [Option.some.injEq, Prod.mk.injEq] at H
   obtain ⟨rfl, rfl, rfl⟩ := H
   go_enter Try.func13, Try.ntmps13
   try go_wp2_with (first | ((with_reducible refine gate_dst (N := 2) rfl ?_); refine box_event ?hg (N := 2) ?hd (cs := #[.int .i64 a0_0, .slice A0_1 l0_1.length c0_1]) (t := 26) ?hr ?_; (case hd => rfl); (case hg => rfl); (case hr => first | (go_simp; done) | (go_simp; rfl)); intro gb229 hg w71 hbox hb; have n0_ := am_ (Kd.V_below (Kd.V_elderB (by (with_reducible repeat (first | apply Kd.V_alloc | apply Kd.V_drewN | apply Kd.V_drew)); exact HO0_1.out) gb229 (Nat.le_of_eq hg.symm)) hb); have n1_ := am_ (Kd.V_below (Kd.V_elderB (by (with_reducible repeat (first | apply Kd.V_alloc | apply Kd.V_drewN | apply Kd.V_drew)); exact HO1_1.out) gb229 (Nat.le_of_eq hg.symm)) hb); have n2_ := am_ (below_step (bb_ HB.out) hb); have n3_ := am_ (hbox); have n4_ := am_ ((by rw [hg]; exact (below_size (bb_ HB.out)) : w.heap.size ≤ gb229)); have n5_ := am_ ((by rw [hg]; exact (below_size (bb_ HB.out)) : w.heap.size ≤ gb229)); clear HO0_1 HO1_1 HB; revert n0_ n1_ n2_ n3_ n4_ n5_; intro HO0_1 HO1_1 HB BK229 GW229 GE229; clear hb hbox hg) | ((with_reducible refine gate_dst (N := 3) rfl ?_); refine box_event ?hg (N := 3) ?hd (cs := #[.int .i64 a1_0, .slice A1_1 l1_1.length c1_1]) (t := 26) ?hr ?_; (case hd => rfl); (case hg => rfl); (case hr => first | (go_simp; done) | (go_simp; rfl)); intro gb230 hg w72 hbox hb; have n0_ := am_ (Kd.V_below (Kd.V_elderB (by (with_reducible repeat (first | apply Kd.V_alloc | apply Kd.V_drewN | apply Kd.V_drew)); exact HO0_1.out) gb230 (Nat.le_of_eq hg.symm)) hb); have n1_ := am_ (Kd.V_below (Kd.V_elderB (by (with_reducible repeat (first | apply Kd.V_alloc | apply Kd.V_drewN | apply Kd.V_drew)); exact HO1_1.out) gb230 (Nat.le_of_eq hg.symm)) hb); have n2_ := am_ (bw_ BK229 hb); have n3_ := am_ (below_step (bb_ HB.out) hb); have n4_ := am_ (hbox); have n5_ := am_ ((by rw [hg]; exact (below_size (bb_ HB.out)) : w.heap.size ≤ gb230)); have n6_ := am_ ((by rw [hg]; exact (below_size (bb_ HB.out)) : w.heap.size ≤ gb230)); have n7_ := am_ ((by rw [hg]; exact Nat.ne_of_lt (bl_ BK229) : gb229 ≠ gb230)); have n8_ := am_ ((by rw [hg]; exact Nat.ne_of_gt (bl_ BK229) : gb230 ≠ gb229)); clear HO0_1 HO1_1 BK229 HB; revert n0_ n1_ n2_ n3_ n4_ n5_ n6_ n7_ n8_; intro HO0_1 HO1_1 BK229 HB BK230 GW230 GE230 NB229_230 NB230_229; clear hb hbox hg) | ((with_reducible refine gate_dst (N := 4) rfl ?_); refine box_event ?hg (N := 4) ?hd (cs := #[.int .i64 0, .slice none 0 0]) (t := 26) ?hr ?_; (case hd => rfl); (case hg => rfl); (case hr => first | (go_simp; done) | (go_simp; rfl)); intro gb231 hg w73 hbox hb; have n0_ := am_ (Kd.V_below (Kd.V_elderB (by (with_reducible repeat (first | apply Kd.V_alloc | apply Kd.V_drewN | apply Kd.V_drew)); exact HO0_1.out) gb231 (Nat.le_of_eq hg.symm)) hb); have n1_ := am_ (Kd.V_below (Kd.V_elderB (by (with_reducible repeat (first | apply Kd.V_alloc | apply Kd.V_drewN | apply Kd.V_drew)); exact HO1_1.out) gb231 (Nat.le_of_eq hg.symm)) hb); have n2_ := am_ (bw_ BK229 hb); have n3_ := am_ (bw_ BK230 hb); have n4_ := am_ (below_step (bb_ HB.out) hb); have n5_ := am_ (hbox); have n6_ := am_ ((by rw [hg]; exact (below_size (bb_ HB.out)) : w.heap.size ≤ gb231)); have n7_ := am_ ((by rw [hg]; exact (below_size (bb_ HB.out)) : w.heap.size ≤ gb231)); have n8_ := am_ ((by rw [hg]; exact Nat.ne_of_lt (bl_ BK229) : gb229 ≠ gb231)); have n9_ := am_ ((by rw [hg]; exact Nat.ne_of_gt (bl_ BK229) : gb231 ≠ gb229)); have n10_ := am_ ((by rw [hg]; exact Nat.ne_of_lt (bl_ BK230) : gb230 ≠ gb231)); have n11_ := am_ ((by rw [hg]; exact Nat.ne_of_gt (bl_ BK230) : gb231 ≠ gb230)); clear HO0_1 HO1_1 BK229 BK230 HB; revert n0_ n1_ n2_ n3_ n4_ n5_ n6_ n7_ n8_ n9_ n10_ n11_; intro HO0_1 HO1_1 BK229 BK230 HB BK231 GW231 GE231 NB229_231 NB231_229 NB230_231 NB231_230; clear hb hbox hg; have hnb74 := NB229_230.out; have hnc74 := NB230_229.out; have hnb75 := NB229_231.out; have hnc75 := NB231_229.out; have hcz76_0 : w73.cell? ⟨gb229, 0, none⟩ = some (.int .i64 a0_0) := bc_ BK229 0; have hcz76_1 : w73.cell? ⟨gb229, 1, none⟩ = some (.slice A0_1 l0_1.length c0_1) := bc_ BK229 1; have hfz76_0 := blk_frozen BK229.out 0; have hfz76_1 := blk_frozen BK229.out 1; have hnb77 := NB230_231.out; have hnc77 := NB231_230.out; have hcz78_0 : w73.cell? ⟨gb230, 0, none⟩ = some (.int .i64 a1_0) := bc_ BK230 0; have hcz78_1 : w73.cell? ⟨gb230, 1, none⟩ = some (.slice A1_1 l1_1.length c1_1) := bc_ BK230 1; have hfz78_0 := blk_frozen BK230.out 0; have hfz78_1 := blk_frozen BK230.out 1) | ((with_reducible refine gate_dst (N := 15) rfl ?_); refine Kd.N_lit k26 _ 26 ?hg (N' := 15) ?hd (xs := ([(⟨a0_0, l0_1⟩ : S26), (⟨a1_0, l1_1⟩ : S26)] : List (S26))) (inner := [.int .i64 a0_0, .slice A0_1 l0_1.length c0_1, .int .i64 a1_0, .slice A1_1 l1_1.length c1_1]) (ok := (fun k_ => ((P0_1_ k_ ∨ P1_1_ k_) ∨ w.heap.size ≤ k_) ∧ k_ ≠ gb229 ∧ k_ ≠ gb230 ∧ k_ ≠ gb231)) (okp := (fun k_ => ((P0_1_ k_ ∨ P1_1_ k_) ∨ w.heap.size ≤ k_) ∧ k_ ≠ gb229 ∧ k_ ≠ gb230 ∧ k_ ≠ gb231)) ?hr ?hp (fun _ hk => hk) ((show ∀ k_, w73.heap.size ≤ k_ → (fun k_ => ((P0_1_ k_ ∨ P1_1_ k_) ∨ w.heap.size ≤ k_) ∧ k_ ≠ gb229 ∧ k_ ≠ gb230 ∧ k_ ≠ gb231) k_ from fun k_ hk => ⟨(.inr (Nat.le_trans (below_size (bb_ HB.out)) hk)), Kd.freshB (g := gb229) (o := .cells #[.int .i64 a0_0, .slice A0_1 l0_1.length c0_1] 26 (0, 0)) (bk_ BK229.out) k_ hk, Kd.freshB (g := gb230) (o := .cells #[.int .i64 a1_0, .slice A1_1 l1_1.length c1_1] 26 (0, 0)) (bk_ BK230.out) k_ hk, Kd.freshB (g := gb231) (o := .cells #[.int .i64 0, .slice none 0 0] 26 (0, 0)) (bk_ BK231.out) k_ hk⟩) _ (Nat.le_refl _)) (Below.refl _ _) (Nat.le_refl _) (by simp) ?_; (case hd => rfl); (case hg => rfl); (case hr => first | (go_simp; done) | (go_simp; rfl)); (case hp => exact (Reps.c2 (show Kd.FK k26 _ _ (⟨a0_0, l0_1⟩ : S26) [.int .i64 a0_0, .slice A0_1 l0_1.length c0_1] from (k26_mkF _ _ (⟨a0_0, l0_1⟩ : S26) (Kd.V_reads' (Kd.V_mono (ok' := (fun k_ => ((P0_1_ k_ ∨ P1_1_ k_) ∨ w.heap.size ≤ k_) ∧ k_ ≠ gb229 ∧ k_ ≠ gb230 ∧ k_ ≠ gb231)) (HO0_1.out) (fun k_ hk => ⟨hk.1.1.1, ⟨hk.1.1.2, ⟨hk.1.2, hk.2⟩⟩⟩))).2.1 (Kd.V_F (Kd.V_mono (ok' := (fun k_ => ((P0_1_ k_ ∨ P1_1_ k_) ∨ w.heap.size ≤ k_) ∧ k_ ≠ gb229 ∧ k_ ≠ gb230 ∧ k_ ≠ gb231)) (HO0_1.out) (fun k_ hk => ⟨hk.1.1.1, ⟨hk.1.1.2, ⟨hk.1.2, hk.2⟩⟩⟩))))) (Reps.c2 (show Kd.FK k26 _ _ (⟨a1_0, l1_1⟩ : S26) [.int .i64 a1_0, .slice A1_1 l1_1.length c1_1] from (k26_mkF _ _ (⟨a1_0, l1_1⟩ : S26) (Kd.V_reads' (Kd.V_mono (ok' := (fun k_ => ((P0_1_ k_ ∨ P1_1_ k_) ∨ w.heap.size ≤ k_) ∧ k_ ≠ gb229 ∧ k_ ≠ gb230 ∧ k_ ≠ gb231)) (HO1_1.out) (fun k_ hk => ⟨hk.1.1.1, ⟨hk.1.1.2, ⟨hk.1.2, hk.2⟩⟩⟩))).2.1 (Kd.V_F (Kd.V_mono (ok' := (fun k_ => ((P0_1_ k_ ∨ P1_1_ k_) ∨ w.heap.size ≤ k_) ∧ k_ ≠ gb229 ∧ k_ ≠ gb230 ∧ k_ ≠ gb231)) (HO1_1.out) (fun k_ hk => ⟨hk.1.1.1, ⟨hk.1.1.2, ⟨hk.1.2, hk.2⟩⟩⟩))))) (Reps.none _ _)))); intro v233 w79 ho80 hb hg_ hnew_; clear hg_ hnew_; (first | rw [← Ny232.out] at ho80 | (simp only [Int.reduceToNat] at ho80; rw [← Ny232.out] at ho80)); have n0_ := am_ (Kd.V_elder' (by (with_reducible repeat (first | apply Kd.V_alloc | apply Kd.V_drewN | apply Kd.V_drew)); exact HO0_1.out) (Kd.N_base ho80) hb); have n1_ := am_ (Kd.V_elder' (by (with_reducible repeat (first | apply Kd.V_alloc | apply Kd.V_drewN | apply Kd.V_drew)); exact HO1_1.out) (Kd.N_base ho80) hb); have n2_ := am_ (Kd.N_lower ho80 (below_size (bb_ HB.out))); have n3_ := am_ (bw_ BK229 hb); have n4_ := am_ (bw_ BK230 hb); have n5_ := am_ (bw_ BK231 hb); have n6_ := am_ (below_step (bb_ HB.out) hb); clear HO0_1 HO1_1 BK229 BK230 BK231 HB; revert n0_ n1_ n2_ n3_ n4_ n5_ n6_; intro HO0_1 HO1_1 HO234 BK229 BK230 BK231 HB; clear hb ho80; obtain ⟨Ao81, co81, eo81⟩ := Kd.N_slice HO234.out; subst eo81) | ((with_reducible refine gate_callee (f := 19) rfl ?_); refine goesL_ (some 16) rfl rfl Try.func19 (by kernel_rfl) rfl #[.slice Ao81 y232.length co81] rfl lm_ ?_; (with_reducible refine (impl_areLaurents.calls _ _ y232 true _ ?side1 ?side2 A3.out).mono ?_); (case side1 => repeat (first | exact (Kd.N_reads' HO234.out).2.2 | (with_reducible refine Kd.C_alloc ?_ _) | (with_reducible refine Kd.C_drewN ?_ _) | (with_reducible refine Kd.C_drew ?_))); (case side2 => exact (Kd.N_reads' HO234.out).2.1); rintro e w82 ⟨rfl, hb⟩; refine ⟨_, rfl, ?_⟩; have n0_ := am_ (Kd.V_below (by (with_reducible repeat (first | apply Kd.V_alloc | apply Kd.V_drewN | apply Kd.V_drew)); exact HO0_1.out) hb); have n1_ := am_ (Kd.V_below (by (with_reducible repeat (first | apply Kd.V_alloc | apply Kd.V_drewN | apply Kd.V_drew)); exact HO1_1.out) hb); have n2_ := am_ (Kd.N_below (by (with_reducible repeat (first | apply Kd.N_alloc | apply Kd.N_drewN | apply Kd.N_drew)); exact HO234.out) hb); have n3_ := am_ (bw_ BK229 hb); have n4_ := am_ (bw_ BK230 hb); have n5_ := am_ (bw_ BK231 hb); have n6_ := am_ (below_step (bb_ HB.out) hb); clear HO0_1 HO1_1 HO234 BK229 BK230 BK231 HB; revert n0_ n1_ n2_ n3_ n4_ n5_ n6_; intro HO0_1 HO1_1 HO234 BK229 BK230 BK231 HB; (try clear hb); (try clear hb2); (try clear hk); (try clear hi)))
   have n0_ := am_ (Kd.V_drew HO0_1.out)
   have n1_ := am_ (Kd.V_drew HO1_1.out)
   have n2_ := am_ (Kd.N_drew HO234.out)
   have n3_ := am_ (blk_drew BK229.out)
   have n4_ := am_ (blk_drew BK230.out)
   have n5_ := am_ (blk_drew BK231.out)
   have n6_ := am_ (below_drew1 HB.out)
   clear HO0_1 HO1_1 HO234 BK229 BK230 BK231 HB; revert n0_ n1_ n2_ n3_ n4_ n5_ n6_; intro HO0_1 HO1_1 HO234 BK229 BK230 BK231 HB
   refine start_ (n := 10) (S := fun w' => w'.cell? ⟨gb229, 0, none⟩ = some (.int .i64 a0_0) ∧ w'.cell? ⟨gb229, 1, none⟩ = some (.slice A0_1 l0_1.length c0_1) ∧ w'.cell? ⟨gb230, 0, none⟩ = some (.int .i64 a1_0) ∧ w'.cell? ⟨gb230, 1, none⟩ = some (.slice A1_1 l1_1.length c1_1)) (ds := []) #[false, false, false, false, false, false, false, false, false, false] (by kernel_rfl) rfl rfl ⟨bc_ BK229 0, bc_ BK229 1, bc_ BK230 0, bc_ BK230 1⟩ (fun hHeld => ?_); refine with_tabW impl_MultiplyLaurent.tab3 impl_MultiplyLaurent.bits3 (fun HT_ HW_ => ?_)
   generalize w82.drew = w83 at HO0_1 HO1_1 HO234 BK229 BK230 BK231 HB hHeld ⊢
   refine take_ (i := 0) (N := some 20) (v := ?_) (a' := ?_) #[true, false, false, false, false, false, false, false, false, false] rfl rfl (take_ofW HT_.out HW_.out (by kernel_rfl)) (fun _ _ _ h => h) (Or.inl ⟨by rfl, ?_⟩) hHeld ?_ ?_
   rotate_left
   ·rintro w' ⟨s0, s1, s2, s3⟩
    go_simp
    with_reducible rfl
   rotate_left
   ·simp only [Act.put, List.setIfInBounds_toArray, List.set_cons_zero, List.set_cons_succ, i64_w, i32_w]
    rfl
   refine take_ (i := 2) (N := some 22) (v := ?_) (a' := ?_) #[true, false, true, false, false, false, false, false, false, false] rfl rfl (take_ofW HT_.out HW_.out (by kernel_rfl)) (fun _ _ _ h => h) (Or.inl ⟨by rfl, ?_⟩) hHeld ?_ ?_
   rotate_left
   ·rintro w' ⟨s0, s1, s2, s3⟩
    go_simp
    with_reducible rfl
   rotate_left
   ·simp only [Act.put, List.setIfInBounds_toArray, List.set_cons_zero, List.set_cons_succ, i64_w, i32_w]
    rfl
   refine one_ (i := 1) (N := some 21) #[true, true, true, false, false, false, false, false, false, false] rfl rfl (one_of HT_.out (by kernel_rfl)) (by decide) (fun K hK => ?_)
   refine goes_ Try.func29 (by kernel_rfl) rfl #[.agg #[.int .i64 a0_0, .slice A0_1 l0_1.length c0_1]] (by rfl) rfl rfl lm_ ?_
   with_reducible refine (impl_Laurent_weight.calls k a0_0 _ _ l0_1 t236 _ ?side1 ?side2 A5.out).mono ?_
   (case side1 => repeat (first | exact (Kd.V_reads' HO0_1.out).2.2 | (with_reducible refine Kd.C_alloc ?_ _) | (with_reducible refine Kd.C_drewN ?_ _) | (with_reducible refine Kd.C_drew ?_)))
   (case side2 => exact (Kd.V_reads' HO0_1.out).2.1)
   rintro e w84 ⟨rfl, hb⟩
   refine ⟨_, rfl, ?_⟩
   have n0_ := am_ (Kd.V_below (by (with_reducible repeat (first | apply Kd.V_alloc | apply Kd.V_drewN | apply Kd.V_drew)); exact HO0_1.out) hb)
   have n1_ := am_ (Kd.V_below (by (with_reducible repeat (first | apply Kd.V_alloc | apply Kd.V_drewN | apply Kd.V_drew)); exact HO1_1.out) hb)
   have n2_ := am_ (Kd.N_below (by (with_reducible repeat (first | apply Kd.N_alloc | apply Kd.N_drewN | apply Kd.N_drew)); exact HO234.out) hb)
   have n3_ := am_ (bw_ BK229 hb)
   have n4_ := am_ (bw_ BK230 hb)
   have n5_ := am_ (bw_ BK231 hb)
   have n6_ := am_ (below_step (bb_ HB.out) hb)
   clear HO0_1 HO1_1 HO234 BK229 BK230 BK231 HB; revert n0_ n1_ n2_ n3_ n4_ n5_ n6_; intro HO0_1 HO1_1 HO234 BK229 BK230 BK231 HB
   (try clear hb)
   (try clear hb2)
   (try clear hk)
   (try clear hi)
   refine hK.out _ _ ⟨bc_ BK229 0, bc_ BK229 1, bc_ BK230 0, bc_ BK230 1⟩ (fun hHeld => ?_)
   clear hK K
   refine norm_ (a' := ?_) ?_ ?_
   rotate_left
   ·show Act.put _ (some 21) _ = _
    simp only [Act.put, List.setIfInBounds_toArray, List.set_cons_zero, List.set_cons_succ, i64_w, i32_w]
    rfl
   refine one_ (i := 3) (N := some 23) #[true, true, true, true, false, false, false, false, false, false] rfl rfl (one_of HT_.out (by kernel_rfl)) (by decide) (fun K hK => ?_)
   refine goes_ Try.func29 (by kernel_rfl) rfl #[.agg #[.int .i64 a1_0, .slice A1_1 l1_1.length c1_1]] (by rfl) rfl rfl lm_ ?_
   with_reducible refine (impl_Laurent_weight.calls k a1_0 _ _ l1_1 t237 _ ?side1 ?side2 A6.out).mono ?_
   (case side1 => repeat (first | exact (Kd.V_reads' HO1_1.out).2.2 | (with_reducible refine Kd.C_alloc ?_ _) | (with_reducible refine Kd.C_drewN ?_ _) | (with_reducible refine Kd.C_drew ?_)))
   (case side2 => exact (Kd.V_reads' HO1_1.out).2.1)
   rintro e w85 ⟨rfl, hb⟩
   refine ⟨_, rfl, ?_⟩
   have n0_ := am_ (Kd.V_below (by (with_reducible repeat (first | apply Kd.V_alloc | apply Kd.V_drewN | apply Kd.V_drew)); exact HO0_1.out) hb)
   have n1_ := am_ (Kd.V_below (by (with_reducible repeat (first | apply Kd.V_alloc | apply Kd.V_drewN | apply Kd.V_drew)); exact HO1_1.out) hb)
   have n2_ := am_ (Kd.N_below (by (with_reducible repeat (first | apply Kd.N_alloc | apply Kd.N_drewN | apply Kd.N_drew)); exact HO234.out) hb)
   have n3_ := am_ (bw_ BK229 hb)
   have n4_ := am_ (bw_ BK230 hb)
   have n5_ := am_ (bw_ BK231 hb)
   have n6_ := am_ (below_step (bb_ HB.out) hb)
   clear HO0_1 HO1_1 HO234 BK229 BK230 BK231 HB; revert n0_ n1_ n2_ n3_ n4_ n5_ n6_; intro HO0_1 HO1_1 HO234 BK229 BK230 BK231 HB
   (try clear hb)
   (try clear hb2)
   (try clear hk)
   (try clear hi)
   refine hK.out _ _ ⟨bc_ BK229 0, bc_ BK229 1, bc_ BK230 0, bc_ BK230 1⟩ (fun hHeld => ?_)
   clear hK K
   refine norm_ (a' := ?_) ?_ ?_
   rotate_left
   ·show Act.put _ (some 23) _ = _
    simp only [Act.put, List.setIfInBounds_toArray, List.set_cons_zero, List.set_cons_succ, i64_w, i32_w]
    rfl
   refine one_ (i := 4) (N := some 24) #[true, true, true, true, true, false, false, false, false, false] rfl rfl (one_of HT_.out (by kernel_rfl)) (by decide) (fun K hK => ?_)
   refine goes_ Try.func28 (by kernel_rfl) rfl #[.int .i64 t236, .int .i64 t237, .int .i64 1000000000000] (by rfl) rfl rfl lm_ ?_
   with_reducible refine (impl_product.calls t236 t237 1000000000000 t238 false _ A7.out).mono ?_
   rintro e w' ⟨rfl, ⟨nd, rfl⟩⟩
   refine ⟨_, rfl, ?_⟩
   refine hK.out _ _ ⟨bc_ BK229 0, bc_ BK229 1, bc_ BK230 0, bc_ BK230 1⟩ (fun hHeld => ?_)
   clear hK K
   refine norm_ (a' := ?_) ?_ ?_
   rotate_left
   ·show Act.put _ (some 24) _ = _
    simp only [Act.put, List.setIfInBounds_toArray, List.set_cons_zero, List.set_cons_succ, i64_w, i32_w]
    rfl
   refine pure_ (i := 5) (N := some 19) (v := ?_) (a' := ?_) #[true, true, true, true, true, true, false, false, false, false] rfl rfl (any_of HT_.out (by kernel_rfl)) (fun _ _ _ h => h) (Or.inl ⟨by rfl, ?_⟩) ?_ ?_
   rotate_left
   ·intro w'
    go_simp
    with_reducible rfl
   rotate_left
   ·simp only [Act.put, List.setIfInBounds_toArray, List.set_cons_zero, List.set_cons_succ, i64_w, i32_w]
    rfl
   refine pure_ (i := 6) (N := some 25) (v := ?_) (a' := ?_) #[true, true, true, true, true, true, true, false, false, false] rfl rfl (any_of HT_.out (by kernel_rfl)) (fun _ _ _ h => h) (Or.inl ⟨by rfl, ?_⟩) ?_ ?_
   rotate_left
   ·intro w'
    go_simp
    with_reducible rfl
   rotate_left
   ·simp only [Act.put, List.setIfInBounds_toArray, List.set_cons_zero, List.set_cons_succ, i64_w, i32_w]
    rfl
   refine pure_ (i := 7) (N := some 26) (v := ?_) (a' := ?_) #[true, true, true, true, true, true, true, true, false, false] rfl rfl (any_of HT_.out (by kernel_rfl)) (fun _ _ _ h => h) (Or.inl ⟨by rfl, ?_⟩) ?_ ?_
   rotate_left
   ·intro w'
    go_simp
    with_reducible rfl
   rotate_left
   ·simp only [Act.put, List.setIfInBounds_toArray, List.set_cons_zero, List.set_cons_succ, i64_w, i32_w]
    rfl
   refine pure_ (i := 8) (N := some 6) (v := ?_) (a' := ?_) #[true, true, true, true, true, true, true, true, true, false] rfl rfl (any_of HT_.out (by kernel_rfl)) (fun _ _ _ h => h) (Or.inl ⟨by rfl, ?_⟩) ?_ ?_
   rotate_left
   ·intro w'
    go_simp
    with_reducible rfl
   rotate_left
   ·simp only [Act.put, List.setIfInBounds_toArray, List.set_cons_zero, List.set_cons_succ, i64_w, i32_w]
    rfl
   refine pure_ (i := 9) (N := some 7) (v := ?_) (a' := ?_) #[true, true, true, true, true, true, true, true, true, true] rfl rfl (any_of HT_.out (by kernel_rfl)) (fun _ _ _ h => h) (Or.inl ⟨by rfl, ?_⟩) ?_ ?_
   rotate_left
   ·intro w'
    go_simp
    with_reducible rfl
   rotate_left
   ·simp only [Act.put, List.setIfInBounds_toArray, List.set_cons_zero, List.set_cons_succ, i64_w, i32_w]
    rfl
   refine done_ (done_of HT_.out (by kernel_rfl)) ?_
   have hcz86_0 : w85.cell? ⟨gb231, 0, none⟩ = some (.int .i64 0) := bc_ BK231 0
   have hcz86_1 : w85.cell? ⟨gb231, 1, none⟩ = some (.slice none 0 0) := bc_ BK231 1
   have hfz86_0 := blk_frozen BK231.out 0
   have hfz86_1 := blk_frozen BK231.out 1
   try go_wp2
   refine bodyPost_ret (results_ct rfl _ _ gb231 26 #[.int .i64 0, .slice none 0 0] (0, 0) _ rfl (by (with_reducible repeat (first | refine blk_drewN ?_ _ | refine blk_drew ?_ | refine blk_alloc ?_ _)); refine blk_put (cs := #[.int .i64 0, .slice none 0 0]) ?_ 1 _ rfl; (with_reducible repeat (first | refine blk_drewN ?_ _ | refine blk_drew ?_ | refine blk_alloc ?_ _)); refine blk_put (cs := #[.int .i64 0, .slice none 0 0]) ?_ 0 _ rfl; (with_reducible repeat (first | refine blk_drewN ?_ _ | refine blk_drew ?_ | refine blk_alloc ?_ _)); exact BK231.out) Try.underlying26 rfl (by kernel_rfl)) rfl ?_
   exact ⟨_, by first | rfl | (simp [errW_none, errW_some] <;> rfl) | (simp [*, errW_none, errW_some] <;> rfl), by first | exact Kd.R_nil _ _ _ _ _ | exact Kd.N_nil _ _ _ _ _ | exact Kd.V_nil _ _ _ _ _ | exact Kd.Q_nil _ _ _ _ _ | exact Kd.S_nil _ _ _ _ _, by repeat (first | (with_reducible first | exact HB.out | apply below_alloc | apply pw_below_drewN | apply below_drew1 | refine below_set ?_ GE229.out | refine below_set ?_ GE230.out | refine below_set ?_ GE231.out) | exact HB.out)⟩
 ·replace c4 := Bool.eq_false_iff.mpr c4
  subst c4
  have H1 : (some (0, ([] : List Int), 1)) = some (r1, r2, r3) := by rw [if_neg (show ¬ (false = true) by decide)] at H; exact H
  clear H
  have H := H1
  clear H1
  simp only [Option.some.injEq, Prod.mk.injEq] at H
  obtain ⟨rfl, rfl, rfl⟩ := H
  go_enter Try.func13, Try.ntmps13
  go_wp2_with (first | ((with_reducible refine gate_dst (N := 2) rfl ?_); refine box_event ?hg (N := 2) ?hd (cs := #[.int .i64 a0_0, .slice A0_1 l0_1.length c0_1]) (t := 26) ?hr ?_; (case hd => rfl); (case hg => rfl); (case hr => first | (go_simp; done) | (go_simp; rfl)); intro gb229 hg w87 hbox hb; have n0_ := am_ (Kd.V_below (Kd.V_elderB (by (with_reducible repeat (first | apply Kd.V_alloc | apply Kd.V_drewN | apply Kd.V_drew)); exact HO0_1.out) gb229 (Nat.le_of_eq hg.symm)) hb); have n1_ := am_ (Kd.V_below (Kd.V_elderB (by (with_reducible repeat (first | apply Kd.V_alloc | apply Kd.V_drewN | apply Kd.V_drew)); exact HO1_1.out) gb229 (Nat.le_of_eq hg.symm)) hb); have n2_ := am_ (below_step (bb_ HB.out) hb); have n3_ := am_ (hbox); have n4_ := am_ ((by rw [hg]; exact (below_size (bb_ HB.out)) : w.heap.size ≤ gb229)); have n5_ := am_ ((by rw [hg]; exact (below_size (bb_ HB.out)) : w.heap.size ≤ gb229)); clear HO0_1 HO1_1 HB; revert n0_ n1_ n2_ n3_ n4_ n5_; intro HO0_1 HO1_1 HB BK229 GW229 GE229; clear hb hbox hg) | ((with_reducible refine gate_dst (N := 3) rfl ?_); refine box_event ?hg (N := 3) ?hd (cs := #[.int .i64 a1_0, .slice A1_1 l1_1.length c1_1]) (t := 26) ?hr ?_; (case hd => rfl); (case hg => rfl); (case hr => first | (go_simp; done) | (go_simp; rfl)); intro gb230 hg w88 hbox hb; have n0_ := am_ (Kd.V_below (Kd.V_elderB (by (with_reducible repeat (first | apply Kd.V_alloc | apply Kd.V_drewN | apply Kd.V_drew)); exact HO0_1.out) gb230 (Nat.le_of_eq hg.symm)) hb); have n1_ := am_ (Kd.V_below (Kd.V_elderB (by (with_reducible repeat (first | apply Kd.V_alloc | apply Kd.V_drewN | apply Kd.V_drew)); exact HO1_1.out) gb230 (Nat.le_of_eq hg.symm)) hb); have n2_ := am_ (bw_ BK229 hb); have n3_ := am_ (below_step (bb_ HB.out) hb); have n4_ := am_ (hbox); have n5_ := am_ ((by rw [hg]; exact (below_size (bb_ HB.out)) : w.heap.size ≤ gb230)); have n6_ := am_ ((by rw [hg]; exact (below_size (bb_ HB.out)) : w.heap.size ≤ gb230)); have n7_ := am_ ((by rw [hg]; exact Nat.ne_of_lt (bl_ BK229) : gb229 ≠ gb230)); have n8_ := am_ ((by rw [hg]; exact Nat.ne_of_gt (bl_ BK229) : gb230 ≠ gb229)); clear HO0_1 HO1_1 BK229 HB; revert n0_ n1_ n2_ n3_ n4_ n5_ n6_ n7_ n8_; intro HO0_1 HO1_1 BK229 HB BK230 GW230 GE230 NB229_230 NB230_229; clear hb hbox hg) | ((with_reducible refine gate_dst (N := 4) rfl ?_); refine box_event ?hg (N := 4) ?hd (cs := #[.int .i64 0, .slice none 0 0]) (t := 26) ?hr ?_; (case hd => rfl); (case hg => rfl); (case hr => first | (go_simp; done) | (go_simp; rfl)); intro gb231 hg w89 hbox hb; have n0_ := am_ (Kd.V_below (Kd.V_elderB (by (with_reducible repeat (first | apply Kd.V_alloc | apply Kd.V_drewN | apply Kd.V_drew)); exact HO0_1.out) gb231 (Nat.le_of_eq hg.symm)) hb); have n1_ := am_ (Kd.V_below (Kd.V_elderB (by (with_reducible repeat (first | apply Kd.V_alloc | apply Kd.V_drewN | apply Kd.V_drew)); exact HO1_1.out) gb231 (Nat.le_of_eq hg.symm)) hb); have n2_ := am_ (bw_ BK229 hb); have n3_ := am_ (bw_ BK230 hb); have n4_ := am_ (below_step (bb_ HB.out) hb); have n5_ := am_ (hbox); have n6_ := am_ ((by rw [hg]; exact (below_size (bb_ HB.out)) : w.heap.size ≤ gb231)); have n7_ := am_ ((by rw [hg]; exact (below_size (bb_ HB.out)) : w.heap.size ≤ gb231)); have n8_ := am_ ((by rw [hg]; exact Nat.ne_of_lt (bl_ BK229) : gb229 ≠ gb231)); have n9_ := am_ ((by rw [hg]; exact Nat.ne_of_gt (bl_ BK229) : gb231 ≠ gb229)); have n10_ := am_ ((by rw [hg]; exact Nat.ne_of_lt (bl_ BK230) : gb230 ≠ gb231)); have n11_ := am_ ((by rw [hg]; exact Nat.ne_of_gt (bl_ BK230) : gb231 ≠ gb230)); clear HO0_1 HO1_1 BK229 BK230 HB; revert n0_ n1_ n2_ n3_ n4_ n5_ n6_ n7_ n8_ n9_ n10_ n11_; intro HO0_1 HO1_1 BK229 BK230 HB BK231 GW231 GE231 NB229_231 NB231_229 NB230_231 NB231_230; clear hb hbox hg; have hnb90 := NB229_230.out; have hnc90 := NB230_229.out; have hnb91 := NB229_231.out; have hnc91 := NB231_229.out; have hcz92_0 : w89.cell? ⟨gb229, 0, none⟩ = some (.int .i64 a0_0) := bc_ BK229 0; have hcz92_1 : w89.cell? ⟨gb229, 1, none⟩ = some (.slice A0_1 l0_1.length c0_1) := bc_ BK229 1; have hfz92_0 := blk_frozen BK229.out 0; have hfz92_1 := blk_frozen BK229.out 1; have hnb93 := NB230_231.out; have hnc93 := NB231_230.out; have hcz94_0 : w89.cell? ⟨gb230, 0, none⟩ = some (.int .i64 a1_0) := bc_ BK230 0; have hcz94_1 : w89.cell? ⟨gb230, 1, none⟩ = some (.slice A1_1 l1_1.length c1_1) := bc_ BK230 1; have hfz94_0 := blk_frozen BK230.out 0; have hfz94_1 := blk_frozen BK230.out 1) | ((with_reducible refine gate_dst (N := 15) rfl ?_); refine Kd.N_lit k26 _ 26 ?hg (N' := 15) ?hd (xs := ([(⟨a0_0, l0_1⟩ : S26), (⟨a1_0, l1_1⟩ : S26)] : List (S26))) (inner := [.int .i64 a0_0, .slice A0_1 l0_1.length c0_1, .int .i64 a1_0, .slice A1_1 l1_1.length c1_1]) (ok := (fun k_ => ((P0_1_ k_ ∨ P1_1_ k_) ∨ w.heap.size ≤ k_) ∧ k_ ≠ gb229 ∧ k_ ≠ gb230 ∧ k_ ≠ gb231)) (okp := (fun k_ => ((P0_1_ k_ ∨ P1_1_ k_) ∨ w.heap.size ≤ k_) ∧ k_ ≠ gb229 ∧ k_ ≠ gb230 ∧ k_ ≠ gb231)) ?hr ?hp (fun _ hk => hk) ((show ∀ k_, w89.heap.size ≤ k_ → (fun k_ => ((P0_1_ k_ ∨ P1_1_ k_) ∨ w.heap.size ≤ k_) ∧ k_ ≠ gb229 ∧ k_ ≠ gb230 ∧ k_ ≠ gb231) k_ from fun k_ hk => ⟨(.inr (Nat.le_trans (below_size (bb_ HB.out)) hk)), Kd.freshB (g := gb229) (o := .cells #[.int .i64 a0_0, .slice A0_1 l0_1.length c0_1] 26 (0, 0)) (bk_ BK229.out) k_ hk, Kd.freshB (g := gb230) (o := .cells #[.int .i64 a1_0, .slice A1_1 l1_1.length c1_1] 26 (0, 0)) (bk_ BK230.out) k_ hk, Kd.freshB (g := gb231) (o := .cells #[.int .i64 0, .slice none 0 0] 26 (0, 0)) (bk_ BK231.out) k_ hk⟩) _ (Nat.le_refl _)) (Below.refl _ _) (Nat.le_refl _) (by simp) ?_; (case hd => rfl); (case hg => rfl); (case hr => first | (go_simp; done) | (go_simp; rfl)); (case hp => exact (Reps.c2 (show Kd.FK k26 _ _ (⟨a0_0, l0_1⟩ : S26) [.int .i64 a0_0, .slice A0_1 l0_1.length c0_1] from (k26_mkF _ _ (⟨a0_0, l0_1⟩ : S26) (Kd.V_reads' (Kd.V_mono (ok' := (fun k_ => ((P0_1_ k_ ∨ P1_1_ k_) ∨ w.heap.size ≤ k_) ∧ k_ ≠ gb229 ∧ k_ ≠ gb230 ∧ k_ ≠ gb231)) (HO0_1.out) (fun k_ hk => ⟨hk.1.1.1, ⟨hk.1.1.2, ⟨hk.1.2, hk.2⟩⟩⟩))).2.1 (Kd.V_F (Kd.V_mono (ok' := (fun k_ => ((P0_1_ k_ ∨ P1_1_ k_) ∨ w.heap.size ≤ k_) ∧ k_ ≠ gb229 ∧ k_ ≠ gb230 ∧ k_ ≠ gb231)) (HO0_1.out) (fun k_ hk => ⟨hk.1.1.1, ⟨hk.1.1.2, ⟨hk.1.2, hk.2⟩⟩⟩))))) (Reps.c2 (show Kd.FK k26 _ _ (⟨a1_0, l1_1⟩ : S26) [.int .i64 a1_0, .slice A1_1 l1_1.length c1_1] from (k26_mkF _ _ (⟨a1_0, l1_1⟩ : S26) (Kd.V_reads' (Kd.V_mono (ok' := (fun k_ => ((P0_1_ k_ ∨ P1_1_ k_) ∨ w.heap.size ≤ k_) ∧ k_ ≠ gb229 ∧ k_ ≠ gb230 ∧ k_ ≠ gb231)) (HO1_1.out) (fun k_ hk => ⟨hk.1.1.1, ⟨hk.1.1.2, ⟨hk.1.2, hk.2⟩⟩⟩))).2.1 (Kd.V_F (Kd.V_mono (ok' := (fun k_ => ((P0_1_ k_ ∨ P1_1_ k_) ∨ w.heap.size ≤ k_) ∧ k_ ≠ gb229 ∧ k_ ≠ gb230 ∧ k_ ≠ gb231)) (HO1_1.out) (fun k_ hk => ⟨hk.1.1.1, ⟨hk.1.1.2, ⟨hk.1.2, hk.2⟩⟩⟩))))) (Reps.none _ _)))); intro v233 w95 ho96 hb hg_ hnew_; clear hg_ hnew_; (first | rw [← Ny232.out] at ho96 | (simp only [Int.reduceToNat] at ho96; rw [← Ny232.out] at ho96)); have n0_ := am_ (Kd.V_elder' (by (with_reducible repeat (first | apply Kd.V_alloc | apply Kd.V_drewN | apply Kd.V_drew)); exact HO0_1.out) (Kd.N_base ho96) hb); have n1_ := am_ (Kd.V_elder' (by (with_reducible repeat (first | apply Kd.V_alloc | apply Kd.V_drewN | apply Kd.V_drew)); exact HO1_1.out) (Kd.N_base ho96) hb); have n2_ := am_ (Kd.N_lower ho96 (below_size (bb_ HB.out))); have n3_ := am_ (bw_ BK229 hb); have n4_ := am_ (bw_ BK230 hb); have n5_ := am_ (bw_ BK231 hb); have n6_ := am_ (below_step (bb_ HB.out) hb); clear HO0_1 HO1_1 BK229 BK230 BK231 HB; revert n0_ n1_ n2_ n3_ n4_ n5_ n6_; intro HO0_1 HO1_1 HO234 BK229 BK230 BK231 HB; clear hb ho96; obtain ⟨Ao97, co97, eo97⟩ := Kd.N_slice HO234.out; subst eo97) | ((with_reducible refine gate_callee (f := 19) rfl ?_); refine goesL_ (some 16) rfl rfl Try.func19 (by kernel_rfl) rfl #[.slice Ao97 y232.length co97] rfl lm_ ?_; (with_reducible refine (impl_areLaurents.calls _ _ y232 false _ ?side1 ?side2 A3.out).mono ?_); (case side1 => repeat (first | exact (Kd.N_reads' HO234.out).2.2 | (with_reducible refine Kd.C_alloc ?_ _) | (with_reducible refine Kd.C_drewN ?_ _) | (with_reducible refine Kd.C_drew ?_))); (case side2 => exact (Kd.N_reads' HO234.out).2.1); rintro e w98 ⟨rfl, hb⟩; refine ⟨_, rfl, ?_⟩; have n0_ := am_ (Kd.V_below (by (with_reducible repeat (first | apply Kd.V_alloc | apply Kd.V_drewN | apply Kd.V_drew)); exact HO0_1.out) hb); have n1_ := am_ (Kd.V_below (by (with_reducible repeat (first | apply Kd.V_alloc | apply Kd.V_drewN | apply Kd.V_drew)); exact HO1_1.out) hb); have n2_ := am_ (Kd.N_below (by (with_reducible repeat (first | apply Kd.N_alloc | apply Kd.N_drewN | apply Kd.N_drew)); exact HO234.out) hb); have n3_ := am_ (bw_ BK229 hb); have n4_ := am_ (bw_ BK230 hb); have n5_ := am_ (bw_ BK231 hb); have n6_ := am_ (below_step (bb_ HB.out) hb); clear HO0_1 HO1_1 HO234 BK229 BK230 BK231 HB; revert n0_ n1_ n2_ n3_ n4_ n5_ n6_; intro HO0_1 HO1_1 HO234 BK229 BK230 BK231 HB; (try clear hb); (try clear hb2); (try clear hk); (try clear hi); have hcz99_0 : w98.cell? ⟨gb231, 0, none⟩ = some (.int .i64 0) := bc_ BK231 0; have hcz99_1 : w98.cell? ⟨gb231, 1, none⟩ = some (.slice none 0 0) := bc_ BK231 1; have hfz99_0 := blk_frozen BK231.out 0; have hfz99_1 := blk_frozen BK231.out 1))
  refine bodyPost_ret (results_ct rfl _ _ gb231 26 #[.int .i64 0, .slice none 0 0] (0, 0) _ rfl (by (with_reducible repeat (first | refine blk_drewN ?_ _ | refine blk_drew ?_ | refine blk_alloc ?_ _)); refine blk_put (cs := #[.int .i64 0, .slice none 0 0]) ?_ 1 _ rfl; (with_reducible repeat (first | refine blk_drewN ?_ _ | refine blk_drew ?_ | refine blk_alloc ?_ _)); refine blk_put (cs := #[.int .i64 0, .slice none 0 0]) ?_ 0 _ rfl; (with_reducible repeat (first | refine blk_drewN ?_ _ | refine blk_drew ?_ | refine blk_alloc ?_ _)); exact BK231.out) Try.underlying26 rfl (by kernel_rfl)) rfl ?_
  exact ⟨_, by first | rfl | (simp [errW_none, errW_some] <;> rfl) | (simp [*, errW_none, errW_some] <;> rfl), by first | exact Kd.R_nil _ _ _ _ _ | exact Kd.N_nil _ _ _ _ _ | exact Kd.V_nil _ _ _ _ _ | exact Kd.Q_nil _ _ _ _ _ | exact Kd.S_nil _ _ _ _ _, by repeat (first | (with_reducible first | exact HB.out | apply below_alloc | apply pw_below_drewN | apply below_drew1 | refine below_set ?_ GE229.out | refine below_set ?_ GE230.out | refine below_set ?_ GE231.out) | exact HB.out)⟩

end Go.Proofs.Ytpkocglndlmhkaa.PFnExactMultiplyLaurent
