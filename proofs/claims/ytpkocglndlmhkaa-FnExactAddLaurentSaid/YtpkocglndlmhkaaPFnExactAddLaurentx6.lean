/- Written by this session's program out of the kit's print and this session's contracts. -/
import Derived.Test.YtpkocglndlmhkaaPFnExactAddLaurentx0
import Derived.Test.YtpkocglndlmhkaaPFnExactAddLaurentx4
import Derived.Test.YtpkocglndlmhkaaPFnExactAddLaurentx5
namespace Go.Proofs.Ytpkocglndlmhkaa.PFnExactAddLaurent
open Go.RowKit Go.Proofs.YtpkocglndlmhkaaW.PrintWords Go.Proofs.YtpkocglndlmhkaaW.PrintLast Go.Proofs.YtpkocglndlmhkaaW.PrintMore
attribute [local go_sem] max2_int min2_int max_two min_two max_three min_three max_four min_four   -- for this text's walks alone
set_option linter.unusedVariables false
set_option linter.unusedSimpArgs false

/-! ### impl_AddLaurent: function 8 -/
mutual
def impl_AddLaurent.l0 : Nat → Int → List (S26) → Int → Int → Int → List Int → Option (Int × List Int × Int)
 | 0, _, _, _, _, _, _ => none
 | k + 1, x6, x37, x38, x39, x226000, x226001 => if x39 < x38 then (if 0 ≤ x39 then (if x39 < (x37.length : Int) then (impl_AddLaurent.l1 k x6 x37 x38 x39 ((rd_T26 x37 x39).f1) (((rd_T26 x37 x39).f1).length : Int) 0 x226000 x226001 ((rd_T26 x37 x39).f0) ((rd_T26 x37 x39).f1)) else (none)) else (none)) else ((impl_valid.f k x226000 x226001).bind fun bt229 => (some (bt229.1, bt229.2.1, bt229.2.2)))
def impl_AddLaurent.l1 : Nat → Int → List (S26) → Int → Int → List Int → Int → Int → Int → List Int → Int → List Int → Option (Int × List Int × Int)
 | 0, _, _, _, _, _, _, _, _, _, _, _ => none
 | k + 1, x6, x37, x38, x39, x44, x45, x46, x226000, x226001, x236000, x236001 => if x46 < x45 then (if 0 ≤ x46 then (if x46 < (x44.length : Int) then (if 0 ≤ (wrap64 ((wrap64 (x236000 - x6)) + x46)) then (if (wrap64 ((wrap64 (x236000 - x6)) + x46)) < (x226001.length : Int) then (impl_AddLaurent.l1 k x6 x37 x38 x39 x44 x45 (wrap64 (x46 + 1)) x226000 (x226001.set ((wrap64 ((wrap64 (x236000 - x6)) + x46)) : Int).toNat (wrap64 ((rd x226001 (wrap64 ((wrap64 (x236000 - x6)) + x46))) + (rd x44 x46)))) x236000 x236001) else (none)) else (none)) else (none)) else (none)) else (impl_AddLaurent.l0 k x6 x37 x38 (wrap64 (x39 + 1)) x226000 x226001)
end
def impl_AddLaurent.f (k : Nat) (a0_0 : Int) (l0_1 : List Int) (a1_0 : Int) (l1_1 : List Int) : Option (Int × List Int × Int) := (impl_areLaurents.f (([(⟨a0_0, l0_1⟩ : S26), (⟨a1_0, l1_1⟩ : S26)] : List (S26)))).bind fun t219 => (if t219 = true then ((impl_Laurent_high.f a0_0 l0_1).bind fun t220 => ((impl_Laurent_high.f a1_0 l1_1).bind fun t221 => (if 0 ≤ (wrap64 ((wrap64 ((mx (mx t220 t221) (mn a0_0 a1_0)) - (mn a0_0 a1_0))) + 1)) then (if (wrap64 ((wrap64 ((mx (mx t220 t221) (mn a0_0 a1_0)) - (mn a0_0 a1_0))) + 1) : Int).toNat ≤ 35184372088832 then ((some (([(⟨a0_0, l0_1⟩ : S26), (⟨a1_0, l1_1⟩ : S26)] : List (S26)) : List (S26))).bind fun y226 => (impl_AddLaurent.l0 k (mn a0_0 a1_0) y226 (y226.length : Int) 0 (mn a0_0 a1_0) (List.replicate (wrap64 ((wrap64 ((mx (mx t220 t221) (mn a0_0 a1_0)) - (mn a0_0 a1_0))) + 1) : Int).toNat 0))) else (none)) else (none)))) else (some (0, ([] : List Int), 1)))
theorem impl_AddLaurent.mono_l : ∀ k, (∀ y0 y1 y2 y3 y4 y5, LeO (impl_AddLaurent.l0 k y0 y1 y2 y3 y4 y5) (impl_AddLaurent.l0 (k + 1) y0 y1 y2 y3 y4 y5)) ∧ (∀ y0 y1 y2 y3 y4 y5 y6 y7 y8 y9 y10, LeO (impl_AddLaurent.l1 k y0 y1 y2 y3 y4 y5 y6 y7 y8 y9 y10) (impl_AddLaurent.l1 (k + 1) y0 y1 y2 y3 y4 y5 y6 y7 y8 y9 y10))
 | 0 => ⟨fun _ _ _ _ _ _ r h => by simp [impl_AddLaurent.l0] at h, fun _ _ _ _ _ _ _ _ _ _ _ r h => by simp [impl_AddLaurent.l1] at h⟩
 | k + 1 => by
  obtain ⟨ih0, ih1⟩ := impl_AddLaurent.mono_l k
  refine ⟨?_, ?_⟩
  ·intro y0 y1 y2 y3 y4 y5
   unfold impl_AddLaurent.l0
   repeat' first
   | (with_reducible exact ih0 _ _ _ _ _ _)
   | (with_reducible exact ih1 _ _ _ _ _ _ _ _ _ _ _)
   | (with_reducible exact impl_valid.mono _ _ _)
   | (with_reducible exact LeO.refl _)
   | (with_reducible exact LeO.none _)
   | (with_reducible refine LeO.ite ?_ ?_)
   | (with_reducible refine LeO.bind ?_ (fun _ => ?_))
   | exact ih0 _ _ _ _ _ _
   | exact ih1 _ _ _ _ _ _ _ _ _ _ _
   | exact impl_valid.mono _ _ _
   | exact LeO.none _
   | refine LeO.ite ?_ ?_
   | refine LeO.bind ?_ (fun _ => ?_)
  ·intro y0 y1 y2 y3 y4 y5 y6 y7 y8 y9 y10
   unfold impl_AddLaurent.l1
   repeat' first
   | (with_reducible exact ih0 _ _ _ _ _ _)
   | (with_reducible exact ih1 _ _ _ _ _ _ _ _ _ _ _)
   | (with_reducible exact impl_valid.mono _ _ _)
   | (with_reducible exact LeO.refl _)
   | (with_reducible exact LeO.none _)
   | (with_reducible refine LeO.ite ?_ ?_)
   | (with_reducible refine LeO.bind ?_ (fun _ => ?_))
   | exact ih0 _ _ _ _ _ _
   | exact ih1 _ _ _ _ _ _ _ _ _ _ _
   | exact impl_valid.mono _ _ _
   | exact LeO.none _
   | refine LeO.ite ?_ ?_
   | refine LeO.bind ?_ (fun _ => ?_)
theorem impl_AddLaurent.mono : ∀ a0 a1 a2 a3 k, LeO (impl_AddLaurent.f k a0 a1 a2 a3) (impl_AddLaurent.f (k + 1) a0 a1 a2 a3) := by
 intro a0 a1 a2 a3 k
 obtain ⟨ih0, ih1⟩ := impl_AddLaurent.mono_l k
 unfold impl_AddLaurent.f
 repeat' first
   | (with_reducible exact ih0 _ _ _ _ _ _)
   | (with_reducible exact ih1 _ _ _ _ _ _ _ _ _ _ _)
   | (with_reducible exact impl_valid.mono _ _ _)
   | (with_reducible exact LeO.refl _)
   | (with_reducible exact LeO.none _)
   | (with_reducible refine LeO.ite ?_ ?_)
   | (with_reducible refine LeO.bind ?_ (fun _ => ?_))
   | exact ih0 _ _ _ _ _ _
   | exact ih1 _ _ _ _ _ _ _ _ _ _ _
   | exact impl_valid.mono _ _ _
   | exact LeO.none _
   | refine LeO.ite ?_ ?_
   | refine LeO.bind ?_ (fun _ => ?_)
def impl_AddLaurent.T4 : Bool × List (List Nat × List Nat) := (true, [([], []), ([], []), ([1], [1]), ([], []), ([3, 2], [3]), ([], []), ([2, 4, 5], [2, 4, 5]), ([], []), ([6, 7], [6, 7]), ([8], [8]), ([9, 9], [9]), ([0, 10], [0, 10]), ([], []), ([12, 11, 4, 0, 1, 2, 3, 4, 5, 6, 7, 8, 9, 10, 11, 12], [11, 12])])
def impl_AddLaurent.B4 : List Nat := [0, 0, 2, 0, 14, 0, 62, 0, 254, 510, 1022, 2047, 0, 8191]
theorem impl_AddLaurent.tab4 : rtab .any (opsOf Try.f8 4) = impl_AddLaurent.T4 := by kernel_rfl
theorem impl_AddLaurent.bits4 : waitsOk impl_AddLaurent.T4.2 impl_AddLaurent.B4 = true := by kernel_rfl
set_option maxHeartbeats 8000000 in
set_option maxRecDepth 100000 in
theorem impl_AddLaurent.calls (k : Nat) (a0_0 : Int) (P0_1_ : Nat → Prop) (A0_1 : Option Addr) (c0_1 : Nat) (l0_1 : List Int) (a1_0 : Int) (P1_1_ : Nat → Prop) (A1_1 : Option Addr) (c1_1 : Nat) (l1_1 : List Int) (r1 : Int) (r2 : List Int) (r3 : Int) (w : World) (hs0_1 : Kd.V (Kd.int .i64) 2 w w.heap.size (fun k_ => P0_1_ k_) (.slice A0_1 l0_1.length c0_1) l0_1) (hs1_1 : Kd.V (Kd.int .i64) 2 w w.heap.size (fun k_ => P1_1_ k_) (.slice A1_1 l1_1.length c1_1) l1_1) (h : impl_AddLaurent.f k a0_0 l0_1 a1_0 l1_1 = some (r1, r2, r3)) :
  Calls Try.prog 8 #[.agg #[.int .i64 a0_0, .slice A0_1 l0_1.length c0_1], .agg #[.int .i64 a1_0, .slice A1_1 l1_1.length c1_1]] w fun e w' => ∃ v1_ : Value, e = .returned (.tuple #[.agg #[.int .i64 r1, v1_], .int .i64 r3]) ∧ Kd.R (Kd.int .i64) 2 w' w.heap.size (fun k_ => (w.heap.size ≤ k_)) v1_ r2 ∧ Below w.heap.size w w' := by
 have hu26 := Try.underlying26
 have HO0_1 := am_ (show Kd.V (Kd.int .i64) 2 w w.heap.size (fun k_ => ((P0_1_ k_ ∨ P1_1_ k_) ∨ w.heap.size ≤ k_)) (.slice A0_1 l0_1.length c0_1) l0_1 from Kd.V_mono hs0_1 (fun k_ hk => .inl (.inl hk)))
 have HO1_1 := am_ (show Kd.V (Kd.int .i64) 2 w w.heap.size (fun k_ => ((P0_1_ k_ ∨ P1_1_ k_) ∨ w.heap.size ≤ k_)) (.slice A1_1 l1_1.length c1_1) l1_1 from Kd.V_mono hs1_1 (fun k_ hk => .inl (.inr hk)))
 have HB := am_ (Below.refl w.heap.size w)
 have H : ((impl_areLaurents.f (([(⟨a0_0, l0_1⟩ : S26), (⟨a1_0, l1_1⟩ : S26)] : List (S26)))).bind fun t219 => (if t219 = true then ((impl_Laurent_high.f a0_0 l0_1).bind fun t220 => ((impl_Laurent_high.f a1_0 l1_1).bind fun t221 => (if 0 ≤ (wrap64 ((wrap64 ((mx (mx t220 t221) (mn a0_0 a1_0)) - (mn a0_0 a1_0))) + 1)) then (if (wrap64 ((wrap64 ((mx (mx t220 t221) (mn a0_0 a1_0)) - (mn a0_0 a1_0))) + 1) : Int).toNat ≤ 35184372088832 then ((some (([(⟨a0_0, l0_1⟩ : S26), (⟨a1_0, l1_1⟩ : S26)] : List (S26)) : List (S26))).bind fun y226 => (impl_AddLaurent.l0 k (mn a0_0 a1_0) y226 (y226.length : Int) 0 (mn a0_0 a1_0) (List.replicate (wrap64 ((wrap64 ((mx (mx t220 t221) (mn a0_0 a1_0)) - (mn a0_0 a1_0))) + 1) : Int).toNat 0))) else (none)) else (none)))) else (some (0, ([] : List Int), 1)))) = some (r1, r2, r3) := h
 clear h
 obtain ⟨y216, hy216⟩ : ∃ y_ : List (S26), y_ = (([(⟨a0_0, l0_1⟩ : S26), (⟨a1_0, l1_1⟩ : S26)] : List (S26))) := ⟨_, rfl⟩
 replace H : ((impl_areLaurents.f y216).bind fun t219 => (if t219 = true then ((impl_Laurent_high.f a0_0 l0_1).bind fun t220 => ((impl_Laurent_high.f a1_0 l1_1).bind fun t221 => (if 0 ≤ (wrap64 ((wrap64 ((mx (mx t220 t221) (mn a0_0 a1_0)) - (mn a0_0 a1_0))) + 1)) then (if (wrap64 ((wrap64 ((mx (mx t220 t221) (mn a0_0 a1_0)) - (mn a0_0 a1_0))) + 1) : Int).toNat ≤ 35184372088832 then ((some (([(⟨a0_0, l0_1⟩ : S26), (⟨a1_0, l1_1⟩ : S26)] : List (S26)) : List (S26))).bind fun y226 => (impl_AddLaurent.l0 k (mn a0_0 a1_0) y226 (y226.length : Int) 0 (mn a0_0 a1_0) (List.replicate (wrap64 ((wrap64 ((mx (mx t220 t221) (mn a0_0 a1_0)) - (mn a0_0 a1_0))) + 1) : Int).toNat 0))) else (none)) else (none)))) else (some (0, ([] : List Int), 1)))) = some (r1, r2, r3) := by first | (rw [hy216]; with_reducible exact H) | (have H2_ := (Option.bind_some _ _).symm.trans H; rw [hy216]; with_reducible exact H2_) | (have H2_ := (Option.bind_some _ _).symm.trans H; with_reducible exact H2_) | with_reducible exact H | (rw [hy216]; exact H) | exact H
 have Ny216 := am_ hy216
 clear hy216
 replace H := Option.bind_eq_some_iff.mp H
 obtain ⟨t219, A30, H⟩ := H
 replace H : (if t219 = true then ((impl_Laurent_high.f a0_0 l0_1).bind fun t220 => ((impl_Laurent_high.f a1_0 l1_1).bind fun t221 => (if 0 ≤ (wrap64 ((wrap64 ((mx (mx t220 t221) (mn a0_0 a1_0)) - (mn a0_0 a1_0))) + 1)) then (if (wrap64 ((wrap64 ((mx (mx t220 t221) (mn a0_0 a1_0)) - (mn a0_0 a1_0))) + 1) : Int).toNat ≤ 35184372088832 then ((some (([(⟨a0_0, l0_1⟩ : S26), (⟨a1_0, l1_1⟩ : S26)] : List (S26)) : List (S26))).bind fun y226 => (impl_AddLaurent.l0 k (mn a0_0 a1_0) y226 (y226.length : Int) 0 (mn a0_0 a1_0) (List.replicate (wrap64 ((wrap64 ((mx (mx t220 t221) (mn a0_0 a1_0)) - (mn a0_0 a1_0))) + 1) : Int).toNat 0))) else (none)) else (none)))) else (some (0, ([] : List Int), 1))) = some (r1, r2, r3) := H
 have A3 := am_ A30
 clear A30
 by_cases c4 : t219 = true
 ·subst c4
  have H1 : ((impl_Laurent_high.f a0_0 l0_1).bind fun t220 => ((impl_Laurent_high.f a1_0 l1_1).bind fun t221 => (if 0 ≤ (wrap64 ((wrap64 ((mx (mx t220 t221) (mn a0_0 a1_0)) - (mn a0_0 a1_0))) + 1)) then (if (wrap64 ((wrap64 ((mx (mx t220 t221) (mn a0_0 a1_0)) - (mn a0_0 a1_0))) + 1) : Int).toNat ≤ 35184372088832 then ((some (([(⟨a0_0, l0_1⟩ : S26), (⟨a1_0, l1_1⟩ : S26)] : List (S26)) : List (S26))).bind fun y226 => (impl_AddLaurent.l0 k (mn a0_0 a1_0) y226 (y226.length : Int) 0 (mn a0_0 a1_0) (List.replicate (wrap64 ((wrap64 ((mx (mx t220 t221) (mn a0_0 a1_0)) - (mn a0_0 a1_0))) + 1) : Int).toNat 0))) else (none)) else (none)))) = some (r1, r2, r3) := by rw [if_pos rfl] at H; exact H
  clear H
  have H := H1
  clear H1
  obtain ⟨ji5, hji5⟩ : ∃ j_ : Int, (mn a0_0 a1_0) = j_ := ⟨_, rfl⟩
  replace H : ((impl_Laurent_high.f a0_0 l0_1).bind fun t220 => ((impl_Laurent_high.f a1_0 l1_1).bind fun t221 => (if 0 ≤ (wrap64 ((wrap64 ((mx (mx t220 t221) (ji5)) - (ji5))) + 1)) then (if (wrap64 ((wrap64 ((mx (mx t220 t221) (ji5)) - (ji5))) + 1) : Int).toNat ≤ 35184372088832 then ((some (([(⟨a0_0, l0_1⟩ : S26), (⟨a1_0, l1_1⟩ : S26)] : List (S26)) : List (S26))).bind fun y226 => (impl_AddLaurent.l0 k ji5 y226 (y226.length : Int) 0 ji5 (List.replicate (wrap64 ((wrap64 ((mx (mx t220 t221) (ji5)) - (ji5))) + 1) : Int).toNat 0))) else (none)) else (none)))) = some (r1, r2, r3) := by first | (rw [hji5] at H; exact H) | (simp only [hji5] at H ⊢; exact H)
  (try rw [hji5] at A3)
  have hji5_ : (if a1_0 < a0_0 then a1_0 else a0_0) = ji5 := hji5
  replace H := Option.bind_eq_some_iff.mp H
  obtain ⟨t220, A60, H⟩ := H
  replace H : ((impl_Laurent_high.f a1_0 l1_1).bind fun t221 => (if 0 ≤ (wrap64 ((wrap64 ((mx (mx t220 t221) (ji5)) - (ji5))) + 1)) then (if (wrap64 ((wrap64 ((mx (mx t220 t221) (ji5)) - (ji5))) + 1) : Int).toNat ≤ 35184372088832 then ((some (([(⟨a0_0, l0_1⟩ : S26), (⟨a1_0, l1_1⟩ : S26)] : List (S26)) : List (S26))).bind fun y226 => (impl_AddLaurent.l0 k ji5 y226 (y226.length : Int) 0 ji5 (List.replicate (wrap64 ((wrap64 ((mx (mx t220 t221) (ji5)) - (ji5))) + 1) : Int).toNat 0))) else (none)) else (none))) = some (r1, r2, r3) := H
  have A6 := am_ A60
  clear A60
  replace H := Option.bind_eq_some_iff.mp H
  obtain ⟨t221, A70, H⟩ := H
  replace H : (if 0 ≤ (wrap64 ((wrap64 ((mx (mx t220 t221) (ji5)) - (ji5))) + 1)) then (if (wrap64 ((wrap64 ((mx (mx t220 t221) (ji5)) - (ji5))) + 1) : Int).toNat ≤ 35184372088832 then ((some (([(⟨a0_0, l0_1⟩ : S26), (⟨a1_0, l1_1⟩ : S26)] : List (S26)) : List (S26))).bind fun y226 => (impl_AddLaurent.l0 k ji5 y226 (y226.length : Int) 0 ji5 (List.replicate (wrap64 ((wrap64 ((mx (mx t220 t221) (ji5)) - (ji5))) + 1) : Int).toNat 0))) else (none)) else (none)) = some (r1, r2, r3) := H
  have A7 := am_ A70
  clear A70
  obtain ⟨ji8, hji8⟩ : ∃ j_ : Int, (mx t220 t221) = j_ := ⟨_, rfl⟩
  replace H : (if 0 ≤ (wrap64 ((wrap64 ((mx (ji8) (ji5)) - (ji5))) + 1)) then (if (wrap64 ((wrap64 ((mx (ji8) (ji5)) - (ji5))) + 1) : Int).toNat ≤ 35184372088832 then ((some (([(⟨a0_0, l0_1⟩ : S26), (⟨a1_0, l1_1⟩ : S26)] : List (S26)) : List (S26))).bind fun y226 => (impl_AddLaurent.l0 k ji5 y226 (y226.length : Int) 0 ji5 (List.replicate (wrap64 ((wrap64 ((mx (ji8) (ji5)) - (ji5))) + 1) : Int).toNat 0))) else (none)) else (none)) = some (r1, r2, r3) := by first | (rw [hji8] at H; exact H) | (simp only [hji8] at H ⊢; exact H)
  (try rw [hji8] at A3)
  (try rw [hji8] at A6)
  (try rw [hji8] at A7)
  have hji8_ : (if t220 < t221 then t221 else t220) = ji8 := hji8
  obtain ⟨ji9, hji9⟩ : ∃ j_ : Int, (mx (ji8) (ji5)) = j_ := ⟨_, rfl⟩
  replace H : (if 0 ≤ (wrap64 ((wrap64 ((ji9) - (ji5))) + 1)) then (if (wrap64 ((wrap64 ((ji9) - (ji5))) + 1) : Int).toNat ≤ 35184372088832 then ((some (([(⟨a0_0, l0_1⟩ : S26), (⟨a1_0, l1_1⟩ : S26)] : List (S26)) : List (S26))).bind fun y226 => (impl_AddLaurent.l0 k ji5 y226 (y226.length : Int) 0 ji5 (List.replicate (wrap64 ((wrap64 ((ji9) - (ji5))) + 1) : Int).toNat 0))) else (none)) else (none)) = some (r1, r2, r3) := by first | (rw [hji9] at H; exact H) | (simp only [hji9] at H ⊢; exact H)
  (try rw [hji9] at A3)
  (try rw [hji9] at A6)
  (try rw [hji9] at A7)
  have hji9_ : (if (ji8) < (ji5) then (ji5) else (ji8)) = ji9 := hji9
  obtain ⟨ji10, hji10⟩ : ∃ j_ : Int, (wrap64 ((wrap64 ((ji9) - (ji5))) + 1)) = j_ := ⟨_, rfl⟩
  replace H : (if 0 ≤ (ji10) then (if (ji10 : Int).toNat ≤ 35184372088832 then ((some (([(⟨a0_0, l0_1⟩ : S26), (⟨a1_0, l1_1⟩ : S26)] : List (S26)) : List (S26))).bind fun y226 => (impl_AddLaurent.l0 k ji5 y226 (y226.length : Int) 0 ji5 (List.replicate (ji10 : Int).toNat 0))) else (none)) else (none)) = some (r1, r2, r3) := by first | (rw [hji10] at H; exact H) | (simp only [hji10] at H ⊢; exact H)
  (try rw [hji10] at A3)
  (try rw [hji10] at A6)
  (try rw [hji10] at A7)
  have hji10w : (IntKind.i64.wrap ((wrap64 ((ji9) - (ji5))) + 1)) = ji10 := (i64_w _).trans hji10
  by_cases c11 : 0 ≤ (ji10)
  ·rw [if_pos c11] at H
   have c11b0 := eq_true c11
   have c11b1 : decide (0 ≤ (ji10)) = true := decide_eq_true c11
   clear c11
   by_cases c12 : (ji10 : Int).toNat ≤ 35184372088832
   ·rw [if_pos c12] at H
    have c12b0 := eq_true c12
    have c12b1 : decide ((ji10 : Int).toNat ≤ 35184372088832) = true := decide_eq_true c12
    clear c12
    obtain ⟨y222, hy222⟩ : ∃ y_ : List Int, y_ = (List.replicate (ji10 : Int).toNat 0) := ⟨_, rfl⟩
    replace H : ((some (([(⟨a0_0, l0_1⟩ : S26), (⟨a1_0, l1_1⟩ : S26)] : List (S26)) : List (S26))).bind fun y226 => (impl_AddLaurent.l0 k ji5 y226 (y226.length : Int) 0 ji5 y222)) = some (r1, r2, r3) := by first | (rw [hy222]; with_reducible exact H) | (have H2_ := (Option.bind_some _ _).symm.trans H; rw [hy222]; with_reducible exact H2_) | (have H2_ := (Option.bind_some _ _).symm.trans H; with_reducible exact H2_) | with_reducible exact H | (rw [hy222]; exact H) | exact H
    have Ny222 := am_ hy222
    clear hy222
    obtain ⟨y226, hy226⟩ : ∃ y_ : List (S26), y_ = (([(⟨a0_0, l0_1⟩ : S26), (⟨a1_0, l1_1⟩ : S26)] : List (S26))) := ⟨_, rfl⟩
    replace H : (impl_AddLaurent.l0 k ji5 y226 (y226.length : Int) 0 ji5 y222) = some (r1, r2, r3) := by first | (rw [hy226]; with_reducible exact H) | (have H2_ := (Option.bind_some _ _).symm.trans H; rw [hy226]; with_reducible exact H2_) | (have H2_ := (Option.bind_some _ _).symm.trans H; with_reducible exact H2_) | with_reducible exact H | (rw [hy226]; exact H) | exact H
    have Ny226 := am_ hy226
    clear hy226
    have H' := am_ H
    clear H
    go_enter Try.func8, Try.ntmps8
    try go_wp2_with (first | ((with_reducible refine gate_dst (N := 2) rfl ?_); refine box_event ?hg (N := 2) ?hd (cs := #[.int .i64 a0_0, .slice A0_1 l0_1.length c0_1]) (t := 26) ?hr ?_; (case hd => rfl); (case hg => rfl); (case hr => first | (go_simp; done) | (go_simp; rfl)); intro gb213 hg w13 hbox hb; have n0_ := am_ (Kd.V_below (Kd.V_elderB (by (with_reducible repeat (first | apply Kd.V_alloc | apply Kd.V_drewN | apply Kd.V_drew)); exact HO0_1.out) gb213 (Nat.le_of_eq hg.symm)) hb); have n1_ := am_ (Kd.V_below (Kd.V_elderB (by (with_reducible repeat (first | apply Kd.V_alloc | apply Kd.V_drewN | apply Kd.V_drew)); exact HO1_1.out) gb213 (Nat.le_of_eq hg.symm)) hb); have n2_ := am_ (below_step (bb_ HB.out) hb); have n3_ := am_ (hbox); have n4_ := am_ ((by rw [hg]; exact (below_size (bb_ HB.out)) : w.heap.size ≤ gb213)); have n5_ := am_ ((by rw [hg]; exact (below_size (bb_ HB.out)) : w.heap.size ≤ gb213)); clear HO0_1 HO1_1 HB; revert n0_ n1_ n2_ n3_ n4_ n5_; intro HO0_1 HO1_1 HB BK213 GW213 GE213; clear hb hbox hg) | ((with_reducible refine gate_dst (N := 3) rfl ?_); refine box_event ?hg (N := 3) ?hd (cs := #[.int .i64 a1_0, .slice A1_1 l1_1.length c1_1]) (t := 26) ?hr ?_; (case hd => rfl); (case hg => rfl); (case hr => first | (go_simp; done) | (go_simp; rfl)); intro gb214 hg w14 hbox hb; have n0_ := am_ (Kd.V_below (Kd.V_elderB (by (with_reducible repeat (first | apply Kd.V_alloc | apply Kd.V_drewN | apply Kd.V_drew)); exact HO0_1.out) gb214 (Nat.le_of_eq hg.symm)) hb); have n1_ := am_ (Kd.V_below (Kd.V_elderB (by (with_reducible repeat (first | apply Kd.V_alloc | apply Kd.V_drewN | apply Kd.V_drew)); exact HO1_1.out) gb214 (Nat.le_of_eq hg.symm)) hb); have n2_ := am_ (bw_ BK213 hb); have n3_ := am_ (below_step (bb_ HB.out) hb); have n4_ := am_ (hbox); have n5_ := am_ ((by rw [hg]; exact (below_size (bb_ HB.out)) : w.heap.size ≤ gb214)); have n6_ := am_ ((by rw [hg]; exact (below_size (bb_ HB.out)) : w.heap.size ≤ gb214)); have n7_ := am_ (nl_ BK213 hg); have n8_ := am_ (ng_ BK213 hg); clear HO0_1 HO1_1 BK213 HB; revert n0_ n1_ n2_ n3_ n4_ n5_ n6_ n7_ n8_; intro HO0_1 HO1_1 BK213 HB BK214 GW214 GE214 NB213_214 NB214_213; clear hb hbox hg) | ((with_reducible refine gate_dst (N := 4) rfl ?_); refine box_event ?hg (N := 4) ?hd (cs := #[.int .i64 0, .slice none 0 0]) (t := 26) ?hr ?_; (case hd => rfl); (case hg => rfl); (case hr => first | (go_simp; done) | (go_simp; rfl)); intro gb215 hg w15 hbox hb; have n0_ := am_ (Kd.V_below (Kd.V_elderB (by (with_reducible repeat (first | apply Kd.V_alloc | apply Kd.V_drewN | apply Kd.V_drew)); exact HO0_1.out) gb215 (Nat.le_of_eq hg.symm)) hb); have n1_ := am_ (Kd.V_below (Kd.V_elderB (by (with_reducible repeat (first | apply Kd.V_alloc | apply Kd.V_drewN | apply Kd.V_drew)); exact HO1_1.out) gb215 (Nat.le_of_eq hg.symm)) hb); have n2_ := am_ (bw_ BK213 hb); have n3_ := am_ (bw_ BK214 hb); have n4_ := am_ (below_step (bb_ HB.out) hb); have n5_ := am_ (hbox); have n6_ := am_ ((by rw [hg]; exact (below_size (bb_ HB.out)) : w.heap.size ≤ gb215)); have n7_ := am_ ((by rw [hg]; exact (below_size (bb_ HB.out)) : w.heap.size ≤ gb215)); have n8_ := am_ (nl_ BK213 hg); have n9_ := am_ (ng_ BK213 hg); have n10_ := am_ (nl_ BK214 hg); have n11_ := am_ (ng_ BK214 hg); clear HO0_1 HO1_1 BK213 BK214 HB; revert n0_ n1_ n2_ n3_ n4_ n5_ n6_ n7_ n8_ n9_ n10_ n11_; intro HO0_1 HO1_1 BK213 BK214 HB BK215 GW215 GE215 NB213_215 NB215_213 NB214_215 NB215_214; clear hb hbox hg; have hnb16 := NB213_214.out; have hnc16 := NB214_213.out; have hnb17 := NB213_215.out; have hnc17 := NB215_213.out; obtain ⟨hcz18_0, hcz18_1, hfz18_0, hfz18_1⟩ := bx2_ BK213; have hnb19 := NB214_215.out; have hnc19 := NB215_214.out; obtain ⟨hcz20_0, hcz20_1, hfz20_0, hfz20_1⟩ := bx2_ BK214) | ((with_reducible refine gate_dst (N := 14) rfl ?_); refine Kd.N_lit k26 _ 26 ?hg (N' := 14) ?hd (xs := ([(⟨a0_0, l0_1⟩ : S26), (⟨a1_0, l1_1⟩ : S26)] : List (S26))) (inner := [.int .i64 a0_0, .slice A0_1 l0_1.length c0_1, .int .i64 a1_0, .slice A1_1 l1_1.length c1_1]) (ok := (fun k_ => ((P0_1_ k_ ∨ P1_1_ k_) ∨ w.heap.size ≤ k_) ∧ k_ ≠ gb213 ∧ k_ ≠ gb214 ∧ k_ ≠ gb215)) (okp := (fun k_ => ((P0_1_ k_ ∨ P1_1_ k_) ∨ w.heap.size ≤ k_) ∧ k_ ≠ gb213 ∧ k_ ≠ gb214 ∧ k_ ≠ gb215)) ?hr ?hp (fun _ hk => hk) ((show ∀ k_, w15.heap.size ≤ k_ → (fun k_ => ((P0_1_ k_ ∨ P1_1_ k_) ∨ w.heap.size ≤ k_) ∧ k_ ≠ gb213 ∧ k_ ≠ gb214 ∧ k_ ≠ gb215) k_ from fun k_ hk => ⟨(.inr (Nat.le_trans (below_size (bb_ HB.out)) hk)), Kd.freshB (g := gb213) (o := .cells #[.int .i64 a0_0, .slice A0_1 l0_1.length c0_1] 26 (0, 0)) (bk_ BK213.out) k_ hk, Kd.freshB (g := gb214) (o := .cells #[.int .i64 a1_0, .slice A1_1 l1_1.length c1_1] 26 (0, 0)) (bk_ BK214.out) k_ hk, Kd.freshB (g := gb215) (o := .cells #[.int .i64 0, .slice none 0 0] 26 (0, 0)) (bk_ BK215.out) k_ hk⟩) _ (Nat.le_refl _)) (Below.refl _ _) (Nat.le_refl _) (by simp) ?_; (case hd => rfl); (case hg => rfl); (case hr => first | (go_simp; done) | (go_simp; rfl)); (case hp => exact (Reps.c2 (show Kd.FK k26 _ _ (⟨a0_0, l0_1⟩ : S26) [.int .i64 a0_0, .slice A0_1 l0_1.length c0_1] from (k26_mkF _ _ (⟨a0_0, l0_1⟩ : S26) (Kd.V_reads' (Kd.V_mono (ok' := (fun k_ => ((P0_1_ k_ ∨ P1_1_ k_) ∨ w.heap.size ≤ k_) ∧ k_ ≠ gb213 ∧ k_ ≠ gb214 ∧ k_ ≠ gb215)) (HO0_1.out) (fun k_ hk => ⟨hk.1.1.1, ⟨hk.1.1.2, ⟨hk.1.2, hk.2⟩⟩⟩))).2.1 (Kd.V_F (Kd.V_mono (ok' := (fun k_ => ((P0_1_ k_ ∨ P1_1_ k_) ∨ w.heap.size ≤ k_) ∧ k_ ≠ gb213 ∧ k_ ≠ gb214 ∧ k_ ≠ gb215)) (HO0_1.out) (fun k_ hk => ⟨hk.1.1.1, ⟨hk.1.1.2, ⟨hk.1.2, hk.2⟩⟩⟩))))) (Reps.c2 (show Kd.FK k26 _ _ (⟨a1_0, l1_1⟩ : S26) [.int .i64 a1_0, .slice A1_1 l1_1.length c1_1] from (k26_mkF _ _ (⟨a1_0, l1_1⟩ : S26) (Kd.V_reads' (Kd.V_mono (ok' := (fun k_ => ((P0_1_ k_ ∨ P1_1_ k_) ∨ w.heap.size ≤ k_) ∧ k_ ≠ gb213 ∧ k_ ≠ gb214 ∧ k_ ≠ gb215)) (HO1_1.out) (fun k_ hk => ⟨hk.1.1.1, ⟨hk.1.1.2, ⟨hk.1.2, hk.2⟩⟩⟩))).2.1 (Kd.V_F (Kd.V_mono (ok' := (fun k_ => ((P0_1_ k_ ∨ P1_1_ k_) ∨ w.heap.size ≤ k_) ∧ k_ ≠ gb213 ∧ k_ ≠ gb214 ∧ k_ ≠ gb215)) (HO1_1.out) (fun k_ hk => ⟨hk.1.1.1, ⟨hk.1.1.2, ⟨hk.1.2, hk.2⟩⟩⟩))))) (Reps.none _ _)))); intro v217 w21 ho22 hb hg_ hnew_; clear hg_ hnew_; (first | rw [← Ny216.out] at ho22 | (simp only [Int.reduceToNat] at ho22; rw [← Ny216.out] at ho22)); have n0_ := am_ (Kd.V_elder' (by (with_reducible repeat (first | apply Kd.V_alloc | apply Kd.V_drewN | apply Kd.V_drew)); exact HO0_1.out) (Kd.N_base ho22) hb); have n1_ := am_ (Kd.V_elder' (by (with_reducible repeat (first | apply Kd.V_alloc | apply Kd.V_drewN | apply Kd.V_drew)); exact HO1_1.out) (Kd.N_base ho22) hb); have n2_ := am_ (Kd.N_lower ho22 (below_size (bb_ HB.out))); have n3_ := am_ (bw_ BK213 hb); have n4_ := am_ (bw_ BK214 hb); have n5_ := am_ (bw_ BK215 hb); have n6_ := am_ (below_step (bb_ HB.out) hb); clear HO0_1 HO1_1 BK213 BK214 BK215 HB; revert n0_ n1_ n2_ n3_ n4_ n5_ n6_; intro HO0_1 HO1_1 HO218 BK213 BK214 BK215 HB; clear hb ho22; obtain ⟨Ao23, co23, eo23⟩ := Kd.N_slice HO218.out; subst eo23) | ((with_reducible refine gate_callee (f := 19) rfl ?_); refine goesL_ (some 15) rfl rfl Try.func19 (by kernel_rfl) rfl #[.slice Ao23 y216.length co23] rfl lm_ ?_; (with_reducible refine (impl_areLaurents.calls _ _ y216 true _ ?side1 ?side2 A3.out).mono ?_); (case side1 => repeat (first | exact (Kd.N_reads' HO218.out).2.2 | (with_reducible refine Kd.C_alloc ?_ _) | (with_reducible refine Kd.C_drewN ?_ _) | (with_reducible refine Kd.C_drew ?_))); (case side2 => exact (Kd.N_reads' HO218.out).2.1); rintro e w24 ⟨rfl, hb⟩; refine ⟨_, rfl, ?_⟩; have n0_ := am_ (Kd.V_below (by (with_reducible repeat (first | apply Kd.V_alloc | apply Kd.V_drewN | apply Kd.V_drew)); exact HO0_1.out) hb); have n1_ := am_ (Kd.V_below (by (with_reducible repeat (first | apply Kd.V_alloc | apply Kd.V_drewN | apply Kd.V_drew)); exact HO1_1.out) hb); have n2_ := am_ (Kd.N_below (by (with_reducible repeat (first | apply Kd.N_alloc | apply Kd.N_drewN | apply Kd.N_drew)); exact HO218.out) hb); have n3_ := am_ (bw_ BK213 hb); have n4_ := am_ (bw_ BK214 hb); have n5_ := am_ (bw_ BK215 hb); have n6_ := am_ (below_step (bb_ HB.out) hb); clear HO0_1 HO1_1 HO218 BK213 BK214 BK215 HB; revert n0_ n1_ n2_ n3_ n4_ n5_ n6_; intro HO0_1 HO1_1 HO218 BK213 BK214 BK215 HB; (try clear hb); (try clear hb2); (try clear hk); (try clear hi); obtain ⟨hcz25_0, hcz25_1, hfz25_0, hfz25_1⟩ := bx2_ BK213; obtain ⟨hcz26_0, hcz26_1, hfz26_0, hfz26_1⟩ := bx2_ BK214))
    have n0_ := am_ (Kd.V_drew HO0_1.out)
    have n1_ := am_ (Kd.V_drew HO1_1.out)
    have n2_ := am_ (Kd.N_drew HO218.out)
    have n3_ := am_ (blk_drew BK213.out)
    have n4_ := am_ (blk_drew BK214.out)
    have n5_ := am_ (blk_drew BK215.out)
    have n6_ := am_ (below_drew1 HB.out)
    clear HO0_1 HO1_1 HO218 BK213 BK214 BK215 HB; revert n0_ n1_ n2_ n3_ n4_ n5_ n6_; intro HO0_1 HO1_1 HO218 BK213 BK214 BK215 HB
    refine start_ (n := 14) (S := fun w' => w'.cell? ⟨gb213, 0, none⟩ = some (.int .i64 a0_0) ∧ w'.cell? ⟨gb213, 1, none⟩ = some (.slice A0_1 l0_1.length c0_1) ∧ w'.cell? ⟨gb214, 0, none⟩ = some (.int .i64 a1_0) ∧ w'.cell? ⟨gb214, 1, none⟩ = some (.slice A1_1 l1_1.length c1_1)) (ds := []) #[false, false, false, false, false, false, false, false, false, false, false, false, false, false] (by kernel_rfl) rfl rfl ⟨bc_ BK213 0, bc_ BK213 1, bc_ BK214 0, bc_ BK214 1⟩ (fun hHeld => ?_); refine with_tabW impl_AddLaurent.tab4 impl_AddLaurent.bits4 (fun HT_ HW_ => ?_)
    generalize w24.drew = w27 at HO0_1 HO1_1 HO218 BK213 BK214 BK215 HB hHeld ⊢
    refine pure_ (i := 0) (N := some 23) (v := ?_) (a' := ?_) #[true, false, false, false, false, false, false, false, false, false, false, false, false, false] rfl rfl (any_of HT_.out (by kernel_rfl)) (fun _ _ _ h => h) (Or.inl ⟨by rfl, ?_⟩) ?_ ?_
    rotate_left
    ·intro w'
     go_simp
     with_reducible rfl
    rotate_left
    ·simp only [Act.put, List.setIfInBounds_toArray, List.set_cons_zero, List.set_cons_succ, i64_w, i32_w]
     rfl
    refine pure_ (i := 5) (N := some 28) (v := ?_) (a' := ?_) #[true, false, false, false, false, true, false, false, false, false, false, false, false, false] rfl rfl (any_of HT_.out (by kernel_rfl)) (fun _ _ _ h => h) (Or.inl ⟨by rfl, ?_⟩) ?_ ?_
    rotate_left
    ·intro w'
     go_simp
     with_reducible rfl
    rotate_left
    ·simp only [Act.put, List.setIfInBounds_toArray, List.set_cons_zero, List.set_cons_succ, i64_w, i32_w]
     rfl
    refine pure_ (i := 7) (N := some 30) (v := ?_) (a' := ?_) #[true, false, false, false, false, true, false, true, false, false, false, false, false, false] rfl rfl (any_of HT_.out (by kernel_rfl)) (fun _ _ _ h => h) (Or.inl ⟨by rfl, ?_⟩) ?_ ?_
    rotate_left
    ·intro w'
     go_simp
     with_reducible rfl
    rotate_left
    ·simp only [Act.put, List.setIfInBounds_toArray, List.set_cons_zero, List.set_cons_succ, i64_w, i32_w]
     rfl
    refine take_ (i := 1) (N := some 24) (v := ?_) (a' := ?_) #[true, true, false, false, false, true, false, true, false, false, false, false, false, false] rfl rfl (take_ofW HT_.out HW_.out (by kernel_rfl)) (fun _ _ _ h => h) (Or.inl ⟨by rfl, ?_⟩) hHeld ?_ ?_
    rotate_left
    ·rintro w' ⟨s0, s1, s2, s3⟩
     go_simp
     with_reducible rfl
    rotate_left
    ·simp only [Act.put, List.setIfInBounds_toArray, List.set_cons_zero, List.set_cons_succ, i64_w, i32_w]
     rfl
    refine take_ (i := 3) (N := some 26) (v := ?_) (a' := ?_) #[true, true, false, true, false, true, false, true, false, false, false, false, false, false] rfl rfl (take_ofW HT_.out HW_.out (by kernel_rfl)) (fun _ _ _ h => h) (Or.inl ⟨by rfl, ?_⟩) hHeld ?_ ?_
    rotate_left
    ·rintro w' ⟨s0, s1, s2, s3⟩
     go_simp
     with_reducible rfl
    rotate_left
    ·simp only [Act.put, List.setIfInBounds_toArray, List.set_cons_zero, List.set_cons_succ, i64_w, i32_w]
     rfl
    refine join_ (σ := Value × Nat) 1 #[true, true, true, true, true, true, true, true, true, true, true, true, true, false] (fun s_ => [(25, .int .i64 t220), (27, .int .i64 t221), (33, s_.1), (7, .pointer (some ⟨s_.2, 0, none⟩)), (29, .int .i64 ji9), (31, .int .i64 (wrap64 ((ji9) - (ji5)))), (32, .int .i64 ji10), (34, .agg #[.int .i64 ji5, s_.1])]) (fun s_ w' => (w'.cell? ⟨gb213, 0, none⟩ = some (.int .i64 a0_0) ∧ w'.cell? ⟨gb213, 1, none⟩ = some (.slice A0_1 l0_1.length c0_1) ∧ w'.cell? ⟨gb214, 0, none⟩ = some (.int .i64 a1_0) ∧ w'.cell? ⟨gb214, 1, none⟩ = some (.slice A1_1 l1_1.length c1_1)) ∧ (Kd.V (Kd.int .i64) 2 w' w.heap.size (fun k_ => ((P0_1_ k_ ∨ P1_1_ k_) ∨ w.heap.size ≤ k_) ∧ some k_ ≠ (.slice Ao23 y216.length co23 : Value).ownBlock ∧ some k_ ≠ (s_.1 : Value).ownBlock ∧ k_ ≠ gb213 ∧ k_ ≠ gb214 ∧ k_ ≠ gb215 ∧ k_ ≠ s_.2) (.slice A0_1 l0_1.length c0_1) l0_1) ∧ (Kd.V (Kd.int .i64) 2 w' w.heap.size (fun k_ => ((P0_1_ k_ ∨ P1_1_ k_) ∨ w.heap.size ≤ k_) ∧ some k_ ≠ (.slice Ao23 y216.length co23 : Value).ownBlock ∧ some k_ ≠ (s_.1 : Value).ownBlock ∧ k_ ≠ gb213 ∧ k_ ≠ gb214 ∧ k_ ≠ gb215 ∧ k_ ≠ s_.2) (.slice A1_1 l1_1.length c1_1) l1_1) ∧ (Kd.N k26 26 w' w.heap.size (fun k_ => ((P0_1_ k_ ∨ P1_1_ k_) ∨ w.heap.size ≤ k_) ∧ some k_ ≠ (s_.1 : Value).ownBlock ∧ k_ ≠ gb213 ∧ k_ ≠ gb214 ∧ k_ ≠ gb215 ∧ k_ ≠ s_.2) (.slice Ao23 y216.length co23) y216) ∧ (Kd.R (Kd.int .i64) 2 w' w.heap.size (fun k_ => (w.heap.size ≤ k_)) s_.1 y222) ∧ (w'.heap[gb213]? = some (.cells #[.int .i64 a0_0, .slice A0_1 l0_1.length c0_1] 26 (0, 0))) ∧ (w'.heap[gb214]? = some (.cells #[.int .i64 a1_0, .slice A1_1 l1_1.length c1_1] 26 (0, 0))) ∧ (w'.heap[gb215]? = some (.cells #[.int .i64 0, .slice none 0 0] 26 (0, 0))) ∧ (w'.heap[s_.2]? = some (.cells #[.int .i64 0, .slice none 0 0] 26 (0, 0))) ∧ (w.heap.size ≤ s_.2) ∧ (w.heap.size ≤ s_.2) ∧ (gb213 ≠ s_.2) ∧ (s_.2 ≠ gb213) ∧ (gb214 ≠ s_.2) ∧ (s_.2 ≠ gb214) ∧ (gb215 ≠ s_.2) ∧ (s_.2 ≠ gb215) ∧ (Below w.heap.size w w')) ?_ ?_
    rotate_left
    ·intro hCont
     refine two_ (i := 2) (j := 12) (Ni := some 25) (Nj := some 7) #[true, true, true, true, false, true, false, true, false, false, false, false, false, false] #[true, true, false, true, false, true, false, true, false, false, false, false, true, false] rfl rfl rfl rfl (two_of HT_.out (by kernel_rfl)) (by decide) (by decide) (fun K hK => ?_) (fun K hK => ?_)
     ·skip
      refine goes_ Try.func20 (by kernel_rfl) rfl #[.agg #[.int .i64 a0_0, .slice A0_1 l0_1.length c0_1]] (by rfl) rfl rfl lm_ ?_
      with_reducible refine (impl_Laurent_high.calls a0_0 _ _ l0_1 t220 _ ?side1 ?side2 A6.out).mono ?_
      (case side1 => repeat (first | exact (Kd.V_reads' HO0_1.out).2.2 | (with_reducible refine Kd.C_alloc ?_ _) | (with_reducible refine Kd.C_drewN ?_ _) | (with_reducible refine Kd.C_drew ?_)))
      (case side2 => exact (Kd.V_reads' HO0_1.out).2.1)
      rintro e w28 ⟨rfl, hb⟩
      refine ⟨_, rfl, ?_⟩
      have n0_ := am_ (Kd.V_below (by (with_reducible repeat (first | apply Kd.V_alloc | apply Kd.V_drewN | apply Kd.V_drew)); exact HO0_1.out) hb)
      have n1_ := am_ (Kd.V_below (by (with_reducible repeat (first | apply Kd.V_alloc | apply Kd.V_drewN | apply Kd.V_drew)); exact HO1_1.out) hb)
      have n2_ := am_ (Kd.N_below (by (with_reducible repeat (first | apply Kd.N_alloc | apply Kd.N_drewN | apply Kd.N_drew)); exact HO218.out) hb)
      have n3_ := am_ (bw_ BK213 hb)
      have n4_ := am_ (bw_ BK214 hb)
      have n5_ := am_ (bw_ BK215 hb)
      have n6_ := am_ (below_step (bb_ HB.out) hb)
      clear HO0_1 HO1_1 HO218 BK213 BK214 BK215 HB; revert n0_ n1_ n2_ n3_ n4_ n5_ n6_; intro HO0_1 HO1_1 HO218 BK213 BK214 BK215 HB
      (try clear hb)
      (try clear hb2)
      (try clear hk)
      (try clear hi)
      refine hK.out _ _ ⟨bc_ BK213 0, bc_ BK213 1, bc_ BK214 0, bc_ BK214 1⟩ (fun hHeld => ?_)
      clear hK K
      refine norm_ (a' := ?_) ?_ ?_
      rotate_left
      ·show Act.put _ (some 25) _ = _
       simp only [Act.put, List.setIfInBounds_toArray, List.set_cons_zero, List.set_cons_succ, i64_w, i32_w]
       rfl
      refine two_ (i := 4) (j := 12) (Ni := some 27) (Nj := some 7) #[true, true, true, true, true, true, false, true, false, false, false, false, false, false] #[true, true, true, true, false, true, false, true, false, false, false, false, true, false] rfl rfl rfl rfl (two_of HT_.out (by kernel_rfl)) (by decide) (by decide) (fun K hK => ?_) (fun K hK => ?_)
      ·skip
       refine goes_ Try.func20 (by kernel_rfl) rfl #[.agg #[.int .i64 a1_0, .slice A1_1 l1_1.length c1_1]] (by rfl) rfl rfl lm_ ?_
       with_reducible refine (impl_Laurent_high.calls a1_0 _ _ l1_1 t221 _ ?side1 ?side2 A7.out).mono ?_
       (case side1 => repeat (first | exact (Kd.V_reads' HO1_1.out).2.2 | (with_reducible refine Kd.C_alloc ?_ _) | (with_reducible refine Kd.C_drewN ?_ _) | (with_reducible refine Kd.C_drew ?_)))
       (case side2 => exact (Kd.V_reads' HO1_1.out).2.1)
       rintro e w29 ⟨rfl, hb⟩
       refine ⟨_, rfl, ?_⟩
       have n0_ := am_ (Kd.V_below (by (with_reducible repeat (first | apply Kd.V_alloc | apply Kd.V_drewN | apply Kd.V_drew)); exact HO0_1.out) hb)
       have n1_ := am_ (Kd.V_below (by (with_reducible repeat (first | apply Kd.V_alloc | apply Kd.V_drewN | apply Kd.V_drew)); exact HO1_1.out) hb)
       have n2_ := am_ (Kd.N_below (by (with_reducible repeat (first | apply Kd.N_alloc | apply Kd.N_drewN | apply Kd.N_drew)); exact HO218.out) hb)
       have n3_ := am_ (bw_ BK213 hb)
       have n4_ := am_ (bw_ BK214 hb)
       have n5_ := am_ (bw_ BK215 hb)
       have n6_ := am_ (below_step (bb_ HB.out) hb)
       clear HO0_1 HO1_1 HO218 BK213 BK214 BK215 HB; revert n0_ n1_ n2_ n3_ n4_ n5_ n6_; intro HO0_1 HO1_1 HO218 BK213 BK214 BK215 HB
       (try clear hb)
       (try clear hb2)
       (try clear hk)
       (try clear hi)
       refine hK.out _ _ ⟨bc_ BK213 0, bc_ BK213 1, bc_ BK214 0, bc_ BK214 1⟩ (fun hHeld => ?_)
       clear hK K
       refine norm_ (a' := ?_) ?_ ?_
       rotate_left
       ·show Act.put _ (some 27) _ = _
        simp only [Act.put, List.setIfInBounds_toArray, List.set_cons_zero, List.set_cons_succ, i64_w, i32_w]
        rfl
       refine pure_ (i := 6) (N := some 29) (v := ?_) (a' := ?_) #[true, true, true, true, true, true, true, true, false, false, false, false, false, false] rfl rfl (any_of HT_.out (by kernel_rfl)) (fun _ _ _ h => h) (Or.inl ⟨by rfl, ?_⟩) ?_ ?_
       rotate_left
       ·intro w'
        go_simp
        with_reducible rfl
       rotate_left
       ·simp only [Act.put, List.setIfInBounds_toArray, List.set_cons_zero, List.set_cons_succ, i64_w, i32_w]
        rfl
       refine pure_ (i := 8) (N := some 31) (v := ?_) (a' := ?_) #[true, true, true, true, true, true, true, true, true, false, false, false, false, false] rfl rfl (any_of HT_.out (by kernel_rfl)) (fun _ _ _ h => h) (Or.inl ⟨by rfl, ?_⟩) ?_ ?_
       rotate_left
       ·intro w'
        go_simp
        with_reducible rfl
       rotate_left
       ·simp only [Act.put, List.setIfInBounds_toArray, List.set_cons_zero, List.set_cons_succ, i64_w, i32_w]
        rfl
       refine pure_ (i := 9) (N := some 32) (v := ?_) (a' := ?_) #[true, true, true, true, true, true, true, true, true, true, false, false, false, false] rfl rfl (any_of HT_.out (by kernel_rfl)) (fun _ _ _ h => h) (Or.inl ⟨by rfl, ?_⟩) ?_ ?_
       rotate_left
       ·intro w'
        go_simp
        with_reducible rfl
       rotate_left
       ·simp only [Act.put, List.setIfInBounds_toArray, List.set_cons_zero, List.set_cons_succ, i64_w, i32_w]
        rfl
       refine two_ (i := 10) (j := 12) (Ni := some 33) (Nj := some 7) #[true, true, true, true, true, true, true, true, true, true, true, false, false, false] #[true, true, true, true, true, true, true, true, true, true, false, false, true, false] rfl rfl rfl rfl (two_of HT_.out (by kernel_rfl)) (by decide) (by decide) (fun K hK => ?_) (fun K hK => ?_)
       ·skip
        refine Kd.R_make_step (Kd.int .i64) _ 2 (by rfl) (N := 33) rfl 22 _ _ rfl ji10 rfl rfl Try.underlying22 (.int .i64 0) 8 info2 rfl (by decide) (by omega) 0 (ok := fun _ => True) (okp := fun _ => True) rfl (fun _ hk => hk) trivial (of_decide_eq_true (by first | (with_reducible assumption) | assumption)) (Nat.le_trans (Nat.mul_le_mul_right _ (of_decide_eq_true (by first | (with_reducible assumption) | assumption) : ji10.toNat ≤ 35184372088832)) (by omega)) (Below.refl _ _) (Nat.le_refl _) ?_
        intro v223 w30 ho31 hb hg_ hnew_
        clear hg_ hnew_
        (first | rw [← Ny222.out] at ho31 | (simp only [Int.reduceToNat] at ho31; rw [← Ny222.out] at ho31))
        have n0_ := am_ (Kd.V_elder' (by (with_reducible repeat (first | apply Kd.V_alloc | apply Kd.V_drewN | apply Kd.V_drew)); exact HO0_1.out) (Kd.R_base ho31) hb)
        have n1_ := am_ (Kd.V_elder' (by (with_reducible repeat (first | apply Kd.V_alloc | apply Kd.V_drewN | apply Kd.V_drew)); exact HO1_1.out) (Kd.R_base ho31) hb)
        have n2_ := am_ (Kd.N_elder' (by (with_reducible repeat (first | apply Kd.N_alloc | apply Kd.N_drewN | apply Kd.N_drew)); exact HO218.out) (Kd.R_base ho31) hb)
        have n3_ := am_ (Kd.R_lower (Kd.R_newM (M := fun k_ => (w.heap.size ≤ k_)) ho31 (below_size (bb_ HB.out)) (fun k_ h_ => h_)) (below_size (bb_ HB.out)))
        have n4_ := am_ (bw_ BK213 hb)
        have n5_ := am_ (bw_ BK214 hb)
        have n6_ := am_ (bw_ BK215 hb)
        have n7_ := am_ (below_step (bb_ HB.out) hb)
        clear HO0_1 HO1_1 HO218 BK213 BK214 BK215 HB; revert n0_ n1_ n2_ n3_ n4_ n5_ n6_ n7_; intro HO0_1 HO1_1 HO218 HO224 BK213 BK214 BK215 HB
        clear hb ho31
        obtain ⟨Ao32, co32, eo32⟩ := Kd.R_slice HO224.out
        (first | subst eo32 | (injection eo32 with f1_ f2_ f3_; have f4_ := f1_.symm; have f5_ := f3_.symm; clear f1_ f2_ f3_; subst f4_; subst f5_))
        refine hK.out _ _ ⟨bc_ BK213 0, bc_ BK213 1, bc_ BK214 0, bc_ BK214 1⟩ (fun hHeld => ?_)
        clear hK K
        refine norm_ (a' := ?_) ?_ ?_
        rotate_left
        ·show Act.put _ (some 33) _ = _
         simp only [Act.put, List.setIfInBounds_toArray, List.set_cons_zero, List.set_cons_succ, i64_w, i32_w]
         rfl
        refine pure_ (i := 11) (N := some 34) (v := ?_) (a' := ?_) #[true, true, true, true, true, true, true, true, true, true, true, true, false, false] rfl rfl (any_of HT_.out (by kernel_rfl)) (fun _ _ _ h => h) (Or.inl ⟨by rfl, ?_⟩) ?_ ?_
        rotate_left
        ·intro w'
         go_simp
         with_reducible rfl
        rotate_left
        ·simp only [Act.put, List.setIfInBounds_toArray, List.set_cons_zero, List.set_cons_succ, i64_w, i32_w]
         rfl
        refine one_ (i := 12) (N := some 7) #[true, true, true, true, true, true, true, true, true, true, true, true, true, false] rfl rfl (one_of HT_.out (by kernel_rfl)) (by decide) (fun K hK => ?_)
        refine box_step ?hg (N := 7) ?hd (cs := #[.int .i64 0, .slice none 0 0]) (t := 26) ?hr ?_; (case hd => rfl); (case hg => rfl); (case hr => first | (go_simp; done) | (go_simp; rfl))
        intro gb225 hg w33 hbox hb
        have n0_ := am_ (Kd.V_below (Kd.V_elderB (by (with_reducible repeat (first | apply Kd.V_alloc | apply Kd.V_drewN | apply Kd.V_drew)); exact HO0_1.out) gb225 (Nat.le_of_eq hg.symm)) hb)
        have n1_ := am_ (Kd.V_below (Kd.V_elderB (by (with_reducible repeat (first | apply Kd.V_alloc | apply Kd.V_drewN | apply Kd.V_drew)); exact HO1_1.out) gb225 (Nat.le_of_eq hg.symm)) hb)
        have n2_ := am_ (Kd.N_below (Kd.N_elderB (by (with_reducible repeat (first | apply Kd.N_alloc | apply Kd.N_drewN | apply Kd.N_drew)); exact HO218.out) gb225 (Nat.le_of_eq hg.symm)) hb)
        have n3_ := am_ (Kd.R_below (rk_ HO224.out) hb)
        have n4_ := am_ (bw_ BK213 hb)
        have n5_ := am_ (bw_ BK214 hb)
        have n6_ := am_ (bw_ BK215 hb)
        have n7_ := am_ (below_step (bb_ HB.out) hb)
        have n8_ := am_ (hbox)
        have n9_ := am_ ((by rw [hg]; exact (below_size (bb_ HB.out)) : w.heap.size ≤ gb225))
        have n10_ := am_ ((by rw [hg]; exact (below_size (bb_ HB.out)) : w.heap.size ≤ gb225))
        have n11_ := am_ (nl_ BK213 hg)
        have n12_ := am_ (ng_ BK213 hg)
        have n13_ := am_ (nl_ BK214 hg)
        have n14_ := am_ (ng_ BK214 hg)
        have n15_ := am_ (nl_ BK215 hg)
        have n16_ := am_ (ng_ BK215 hg)
        clear HO0_1 HO1_1 HO218 HO224 BK213 BK214 BK215 HB; revert n0_ n1_ n2_ n3_ n4_ n5_ n6_ n7_ n8_ n9_ n10_ n11_ n12_ n13_ n14_ n15_ n16_; intro HO0_1 HO1_1 HO218 HO224 BK213 BK214 BK215 HB BK225 GW225 GE225 NB213_225 NB225_213 NB214_225 NB225_214 NB215_225 NB225_215
        clear hb hbox hg
        refine hK.out _ _ ⟨bc_ BK213 0, bc_ BK213 1, bc_ BK214 0, bc_ BK214 1⟩ (fun hHeld => ?_)
        clear hK K
        refine norm_ (a' := ?_) ?_ ?_
        rotate_left
        ·show Act.put _ (some 7) _ = _
         simp only [Act.put, List.setIfInBounds_toArray, List.set_cons_zero, List.set_cons_succ, i64_w, i32_w]
         rfl
        exact norm_ (by simp only [putAll, Act.put, List.setIfInBounds_toArray, List.set_cons_zero, List.set_cons_succ]) (hCont (.slice Ao32 y222.length co32, gb225) _ ⟨hHeld, (by (with_reducible repeat (first | apply Kd.V_alloc | apply Kd.V_drewN | apply Kd.V_drew)); exact Kd.V_mono HO0_1.out (fun _ hk => ⟨hk.1.1.1.1.1.1, ⟨hk.1.1.2, ⟨hk.1.2, ⟨hk.1.1.1.1.1.2, ⟨hk.1.1.1.1.2, ⟨hk.1.1.1.2, hk.2⟩⟩⟩⟩⟩⟩)), (by (with_reducible repeat (first | apply Kd.V_alloc | apply Kd.V_drewN | apply Kd.V_drew)); exact Kd.V_mono HO1_1.out (fun _ hk => ⟨hk.1.1.1.1.1.1, ⟨hk.1.1.2, ⟨hk.1.2, ⟨hk.1.1.1.1.1.2, ⟨hk.1.1.1.1.2, ⟨hk.1.1.1.2, hk.2⟩⟩⟩⟩⟩⟩)), (by (with_reducible repeat (first | apply Kd.N_alloc | apply Kd.N_drewN | apply Kd.N_drew)); exact Kd.N_mono HO218.out (fun _ hk => ⟨hk.1.1.1, ⟨hk.1.2, ⟨hk.1.1.2.1, ⟨hk.1.1.2.2.1, ⟨hk.1.1.2.2.2, hk.2⟩⟩⟩⟩⟩)), (rm_ HO224.out (fun _ hk => hk.1)), (bk_ BK213.out), (bk_ BK214.out), (bk_ BK215.out), (bk_ BK225.out), GW225.out, GE225.out, NB213_225.out, NB225_213.out, NB214_225.out, NB225_214.out, NB215_225.out, NB225_215.out, (bb_ HB.out)⟩)
       ·skip
        refine box_step ?hg (N := 7) ?hd (cs := #[.int .i64 0, .slice none 0 0]) (t := 26) ?hr ?_; (case hd => rfl); (case hg => rfl); (case hr => first | (go_simp; done) | (go_simp; rfl))
        intro gb225 hg w30 hbox hb
        have n0_ := am_ (Kd.V_below (Kd.V_elderB (by (with_reducible repeat (first | apply Kd.V_alloc | apply Kd.V_drewN | apply Kd.V_drew)); exact HO0_1.out) gb225 (Nat.le_of_eq hg.symm)) hb)
        have n1_ := am_ (Kd.V_below (Kd.V_elderB (by (with_reducible repeat (first | apply Kd.V_alloc | apply Kd.V_drewN | apply Kd.V_drew)); exact HO1_1.out) gb225 (Nat.le_of_eq hg.symm)) hb)
        have n2_ := am_ (Kd.N_below (Kd.N_elderB (by (with_reducible repeat (first | apply Kd.N_alloc | apply Kd.N_drewN | apply Kd.N_drew)); exact HO218.out) gb225 (Nat.le_of_eq hg.symm)) hb)
        have n3_ := am_ (bw_ BK213 hb)
        have n4_ := am_ (bw_ BK214 hb)
        have n5_ := am_ (bw_ BK215 hb)
        have n6_ := am_ (below_step (bb_ HB.out) hb)
        have n7_ := am_ (hbox)
        have n8_ := am_ ((by rw [hg]; exact (below_size (bb_ HB.out)) : w.heap.size ≤ gb225))
        have n9_ := am_ ((by rw [hg]; exact (below_size (bb_ HB.out)) : w.heap.size ≤ gb225))
        have n10_ := am_ (nl_ BK213 hg)
        have n11_ := am_ (ng_ BK213 hg)
        have n12_ := am_ (nl_ BK214 hg)
        have n13_ := am_ (ng_ BK214 hg)
        have n14_ := am_ (nl_ BK215 hg)
        have n15_ := am_ (ng_ BK215 hg)
        clear HO0_1 HO1_1 HO218 BK213 BK214 BK215 HB; revert n0_ n1_ n2_ n3_ n4_ n5_ n6_ n7_ n8_ n9_ n10_ n11_ n12_ n13_ n14_ n15_; intro HO0_1 HO1_1 HO218 BK213 BK214 BK215 HB BK225 GW225 GE225 NB213_225 NB225_213 NB214_225 NB225_214 NB215_225 NB225_215
        clear hb hbox hg
        refine hK.out _ _ ⟨bc_ BK213 0, bc_ BK213 1, bc_ BK214 0, bc_ BK214 1⟩ (fun hHeld => ?_)
        clear hK K
        refine norm_ (a' := ?_) ?_ ?_
        rotate_left
        ·show Act.put _ (some 7) _ = _
         simp only [Act.put, List.setIfInBounds_toArray, List.set_cons_zero, List.set_cons_succ, i64_w, i32_w]
         rfl
        refine one_ (i := 10) (N := some 33) #[true, true, true, true, true, true, true, true, true, true, true, false, true, false] rfl rfl (one_of HT_.out (by kernel_rfl)) (by decide) (fun K hK => ?_)
        refine Kd.R_make_step (Kd.int .i64) _ 2 (by rfl) (N := 33) rfl 22 _ _ rfl ji10 rfl rfl Try.underlying22 (.int .i64 0) 8 info2 rfl (by decide) (by omega) 0 (ok := fun _ => True) (okp := fun _ => True) rfl (fun _ hk => hk) trivial (of_decide_eq_true (by first | (with_reducible assumption) | assumption)) (Nat.le_trans (Nat.mul_le_mul_right _ (of_decide_eq_true (by first | (with_reducible assumption) | assumption) : ji10.toNat ≤ 35184372088832)) (by omega)) (Below.refl _ _) (Nat.le_refl _) ?_
        intro v223 w31 ho32 hb hg_ hnew_
        clear hg_ hnew_
        (first | rw [← Ny222.out] at ho32 | (simp only [Int.reduceToNat] at ho32; rw [← Ny222.out] at ho32))
        have n0_ := am_ (Kd.V_elder' (by (with_reducible repeat (first | apply Kd.V_alloc | apply Kd.V_drewN | apply Kd.V_drew)); exact HO0_1.out) (Kd.R_base ho32) hb)
        have n1_ := am_ (Kd.V_elder' (by (with_reducible repeat (first | apply Kd.V_alloc | apply Kd.V_drewN | apply Kd.V_drew)); exact HO1_1.out) (Kd.R_base ho32) hb)
        have n2_ := am_ (Kd.N_elder' (by (with_reducible repeat (first | apply Kd.N_alloc | apply Kd.N_drewN | apply Kd.N_drew)); exact HO218.out) (Kd.R_base ho32) hb)
        have n3_ := am_ (Kd.R_lower (Kd.R_newM (M := fun k_ => (w.heap.size ≤ k_)) ho32 (below_size (bb_ HB.out)) (fun k_ h_ => h_)) (below_size (bb_ HB.out)))
        have n4_ := am_ (bw_ BK213 hb)
        have n5_ := am_ (bw_ BK214 hb)
        have n6_ := am_ (bw_ BK215 hb)
        have n7_ := am_ (bw_ BK225 hb)
        have n8_ := am_ (below_step (bb_ HB.out) hb)
        clear HO0_1 HO1_1 HO218 BK213 BK214 BK215 BK225 HB; revert n0_ n1_ n2_ n3_ n4_ n5_ n6_ n7_ n8_; intro HO0_1 HO1_1 HO218 HO224 BK213 BK214 BK215 BK225 HB
        clear hb ho32
        obtain ⟨Ao33, co33, eo33⟩ := Kd.R_slice HO224.out
        (first | subst eo33 | (injection eo33 with f1_ f2_ f3_; have f4_ := f1_.symm; have f5_ := f3_.symm; clear f1_ f2_ f3_; subst f4_; subst f5_))
        refine hK.out _ _ ⟨bc_ BK213 0, bc_ BK213 1, bc_ BK214 0, bc_ BK214 1⟩ (fun hHeld => ?_)
        clear hK K
        refine norm_ (a' := ?_) ?_ ?_
        rotate_left
        ·show Act.put _ (some 33) _ = _
         simp only [Act.put, List.setIfInBounds_toArray, List.set_cons_zero, List.set_cons_succ, i64_w, i32_w]
         rfl
        refine pure_ (i := 11) (N := some 34) (v := ?_) (a' := ?_) #[true, true, true, true, true, true, true, true, true, true, true, true, true, false] rfl rfl (any_of HT_.out (by kernel_rfl)) (fun _ _ _ h => h) (Or.inl ⟨by rfl, ?_⟩) ?_ ?_
        rotate_left
        ·intro w'
         go_simp
         with_reducible rfl
        rotate_left
        ·simp only [Act.put, List.setIfInBounds_toArray, List.set_cons_zero, List.set_cons_succ, i64_w, i32_w]
         rfl
        exact norm_ (by simp only [putAll, Act.put, List.setIfInBounds_toArray, List.set_cons_zero, List.set_cons_succ]) (hCont (.slice Ao33 y222.length co33, gb225) _ ⟨hHeld, (by (with_reducible repeat (first | apply Kd.V_alloc | apply Kd.V_drewN | apply Kd.V_drew)); exact Kd.V_mono HO0_1.out (fun _ hk => ⟨hk.1.1.1.1.1.1, ⟨hk.1.1.2, ⟨hk.2, ⟨hk.1.1.1.1.1.2, ⟨hk.1.1.1.1.2, ⟨hk.1.1.1.2, hk.1.2⟩⟩⟩⟩⟩⟩)), (by (with_reducible repeat (first | apply Kd.V_alloc | apply Kd.V_drewN | apply Kd.V_drew)); exact Kd.V_mono HO1_1.out (fun _ hk => ⟨hk.1.1.1.1.1.1, ⟨hk.1.1.2, ⟨hk.2, ⟨hk.1.1.1.1.1.2, ⟨hk.1.1.1.1.2, ⟨hk.1.1.1.2, hk.1.2⟩⟩⟩⟩⟩⟩)), (by (with_reducible repeat (first | apply Kd.N_alloc | apply Kd.N_drewN | apply Kd.N_drew)); exact Kd.N_mono HO218.out (fun _ hk => ⟨hk.1.1.1, ⟨hk.2, ⟨hk.1.1.2.1, ⟨hk.1.1.2.2.1, ⟨hk.1.1.2.2.2, hk.1.2⟩⟩⟩⟩⟩)), (rm_ HO224.out (fun _ hk => hk.1)), (bk_ BK213.out), (bk_ BK214.out), (bk_ BK215.out), (bk_ BK225.out), GW225.out, GE225.out, NB213_225.out, NB225_213.out, NB214_225.out, NB225_214.out, NB215_225.out, NB225_215.out, (bb_ HB.out)⟩)
      ·skip
       refine box_step ?hg (N := 7) ?hd (cs := #[.int .i64 0, .slice none 0 0]) (t := 26) ?hr ?_; (case hd => rfl); (case hg => rfl); (case hr => first | (go_simp; done) | (go_simp; rfl))
       intro gb225 hg w29 hbox hb
       have n0_ := am_ (Kd.V_below (Kd.V_elderB (by (with_reducible repeat (first | apply Kd.V_alloc | apply Kd.V_drewN | apply Kd.V_drew)); exact HO0_1.out) gb225 (Nat.le_of_eq hg.symm)) hb)
       have n1_ := am_ (Kd.V_below (Kd.V_elderB (by (with_reducible repeat (first | apply Kd.V_alloc | apply Kd.V_drewN | apply Kd.V_drew)); exact HO1_1.out) gb225 (Nat.le_of_eq hg.symm)) hb)
       have n2_ := am_ (Kd.N_below (Kd.N_elderB (by (with_reducible repeat (first | apply Kd.N_alloc | apply Kd.N_drewN | apply Kd.N_drew)); exact HO218.out) gb225 (Nat.le_of_eq hg.symm)) hb)
       have n3_ := am_ (bw_ BK213 hb)
       have n4_ := am_ (bw_ BK214 hb)
       have n5_ := am_ (bw_ BK215 hb)
       have n6_ := am_ (below_step (bb_ HB.out) hb)
       have n7_ := am_ (hbox)
       have n8_ := am_ ((by rw [hg]; exact (below_size (bb_ HB.out)) : w.heap.size ≤ gb225))
       have n9_ := am_ ((by rw [hg]; exact (below_size (bb_ HB.out)) : w.heap.size ≤ gb225))
       have n10_ := am_ (nl_ BK213 hg)
       have n11_ := am_ (ng_ BK213 hg)
       have n12_ := am_ (nl_ BK214 hg)
       have n13_ := am_ (ng_ BK214 hg)
       have n14_ := am_ (nl_ BK215 hg)
       have n15_ := am_ (ng_ BK215 hg)
       clear HO0_1 HO1_1 HO218 BK213 BK214 BK215 HB; revert n0_ n1_ n2_ n3_ n4_ n5_ n6_ n7_ n8_ n9_ n10_ n11_ n12_ n13_ n14_ n15_; intro HO0_1 HO1_1 HO218 BK213 BK214 BK215 HB BK225 GW225 GE225 NB213_225 NB225_213 NB214_225 NB225_214 NB215_225 NB225_215
       clear hb hbox hg
       refine hK.out _ _ ⟨bc_ BK213 0, bc_ BK213 1, bc_ BK214 0, bc_ BK214 1⟩ (fun hHeld => ?_)
       clear hK K
       refine norm_ (a' := ?_) ?_ ?_
       rotate_left
       ·show Act.put _ (some 7) _ = _
        simp only [Act.put, List.setIfInBounds_toArray, List.set_cons_zero, List.set_cons_succ, i64_w, i32_w]
        rfl
       refine one_ (i := 4) (N := some 27) #[true, true, true, true, true, true, false, true, false, false, false, false, true, false] rfl rfl (one_of HT_.out (by kernel_rfl)) (by decide) (fun K hK => ?_)
       refine goes_ Try.func20 (by kernel_rfl) rfl #[.agg #[.int .i64 a1_0, .slice A1_1 l1_1.length c1_1]] (by rfl) rfl rfl lm_ ?_
       with_reducible refine (impl_Laurent_high.calls a1_0 _ _ l1_1 t221 _ ?side1 ?side2 A7.out).mono ?_
       (case side1 => repeat (first | exact (Kd.V_reads' HO1_1.out).2.2 | (with_reducible refine Kd.C_alloc ?_ _) | (with_reducible refine Kd.C_drewN ?_ _) | (with_reducible refine Kd.C_drew ?_)))
       (case side2 => exact (Kd.V_reads' HO1_1.out).2.1)
       rintro e w30 ⟨rfl, hb⟩
       refine ⟨_, rfl, ?_⟩
       have n0_ := am_ (Kd.V_below (by (with_reducible repeat (first | apply Kd.V_alloc | apply Kd.V_drewN | apply Kd.V_drew)); exact HO0_1.out) hb)
       have n1_ := am_ (Kd.V_below (by (with_reducible repeat (first | apply Kd.V_alloc | apply Kd.V_drewN | apply Kd.V_drew)); exact HO1_1.out) hb)
       have n2_ := am_ (Kd.N_below (by (with_reducible repeat (first | apply Kd.N_alloc | apply Kd.N_drewN | apply Kd.N_drew)); exact HO218.out) hb)
       have n3_ := am_ (bw_ BK213 hb)
       have n4_ := am_ (bw_ BK214 hb)
       have n5_ := am_ (bw_ BK215 hb)
       have n6_ := am_ (bw_ BK225 hb)
       have n7_ := am_ (below_step (bb_ HB.out) hb)
       clear HO0_1 HO1_1 HO218 BK213 BK214 BK215 BK225 HB; revert n0_ n1_ n2_ n3_ n4_ n5_ n6_ n7_; intro HO0_1 HO1_1 HO218 BK213 BK214 BK215 BK225 HB
       (try clear hb)
       (try clear hb2)
       (try clear hk)
       (try clear hi)
       refine hK.out _ _ ⟨bc_ BK213 0, bc_ BK213 1, bc_ BK214 0, bc_ BK214 1⟩ (fun hHeld => ?_)
       clear hK K
       refine norm_ (a' := ?_) ?_ ?_
       rotate_left
       ·show Act.put _ (some 27) _ = _
        simp only [Act.put, List.setIfInBounds_toArray, List.set_cons_zero, List.set_cons_succ, i64_w, i32_w]
        rfl
       refine pure_ (i := 6) (N := some 29) (v := ?_) (a' := ?_) #[true, true, true, true, true, true, true, true, false, false, false, false, true, false] rfl rfl (any_of HT_.out (by kernel_rfl)) (fun _ _ _ h => h) (Or.inl ⟨by rfl, ?_⟩) ?_ ?_
       rotate_left
       ·intro w'
        go_simp
        with_reducible rfl
       rotate_left
       ·simp only [Act.put, List.setIfInBounds_toArray, List.set_cons_zero, List.set_cons_succ, i64_w, i32_w]
        rfl
       refine pure_ (i := 8) (N := some 31) (v := ?_) (a' := ?_) #[true, true, true, true, true, true, true, true, true, false, false, false, true, false] rfl rfl (any_of HT_.out (by kernel_rfl)) (fun _ _ _ h => h) (Or.inl ⟨by rfl, ?_⟩) ?_ ?_
       rotate_left
       ·intro w'
        go_simp
        with_reducible rfl
       rotate_left
       ·simp only [Act.put, List.setIfInBounds_toArray, List.set_cons_zero, List.set_cons_succ, i64_w, i32_w]
        rfl
       refine pure_ (i := 9) (N := some 32) (v := ?_) (a' := ?_) #[true, true, true, true, true, true, true, true, true, true, false, false, true, false] rfl rfl (any_of HT_.out (by kernel_rfl)) (fun _ _ _ h => h) (Or.inl ⟨by rfl, ?_⟩) ?_ ?_
       rotate_left
       ·intro w'
        go_simp
        with_reducible rfl
       rotate_left
       ·simp only [Act.put, List.setIfInBounds_toArray, List.set_cons_zero, List.set_cons_succ, i64_w, i32_w]
        rfl
       refine one_ (i := 10) (N := some 33) #[true, true, true, true, true, true, true, true, true, true, true, false, true, false] rfl rfl (one_of HT_.out (by kernel_rfl)) (by decide) (fun K hK => ?_)
       refine Kd.R_make_step (Kd.int .i64) _ 2 (by rfl) (N := 33) rfl 22 _ _ rfl ji10 rfl rfl Try.underlying22 (.int .i64 0) 8 info2 rfl (by decide) (by omega) 0 (ok := fun _ => True) (okp := fun _ => True) rfl (fun _ hk => hk) trivial (of_decide_eq_true (by first | (with_reducible assumption) | assumption)) (Nat.le_trans (Nat.mul_le_mul_right _ (of_decide_eq_true (by first | (with_reducible assumption) | assumption) : ji10.toNat ≤ 35184372088832)) (by omega)) (Below.refl _ _) (Nat.le_refl _) ?_
       intro v223 w31 ho32 hb hg_ hnew_
       clear hg_ hnew_
       (first | rw [← Ny222.out] at ho32 | (simp only [Int.reduceToNat] at ho32; rw [← Ny222.out] at ho32))
       have n0_ := am_ (Kd.V_elder' (by (with_reducible repeat (first | apply Kd.V_alloc | apply Kd.V_drewN | apply Kd.V_drew)); exact HO0_1.out) (Kd.R_base ho32) hb)
       have n1_ := am_ (Kd.V_elder' (by (with_reducible repeat (first | apply Kd.V_alloc | apply Kd.V_drewN | apply Kd.V_drew)); exact HO1_1.out) (Kd.R_base ho32) hb)
       have n2_ := am_ (Kd.N_elder' (by (with_reducible repeat (first | apply Kd.N_alloc | apply Kd.N_drewN | apply Kd.N_drew)); exact HO218.out) (Kd.R_base ho32) hb)
       have n3_ := am_ (Kd.R_lower (Kd.R_newM (M := fun k_ => (w.heap.size ≤ k_)) ho32 (below_size (bb_ HB.out)) (fun k_ h_ => h_)) (below_size (bb_ HB.out)))
       have n4_ := am_ (bw_ BK213 hb)
       have n5_ := am_ (bw_ BK214 hb)
       have n6_ := am_ (bw_ BK215 hb)
       have n7_ := am_ (bw_ BK225 hb)
       have n8_ := am_ (below_step (bb_ HB.out) hb)
       clear HO0_1 HO1_1 HO218 BK213 BK214 BK215 BK225 HB; revert n0_ n1_ n2_ n3_ n4_ n5_ n6_ n7_ n8_; intro HO0_1 HO1_1 HO218 HO224 BK213 BK214 BK215 BK225 HB
       clear hb ho32
       obtain ⟨Ao33, co33, eo33⟩ := Kd.R_slice HO224.out
       (first | subst eo33 | (injection eo33 with f1_ f2_ f3_; have f4_ := f1_.symm; have f5_ := f3_.symm; clear f1_ f2_ f3_; subst f4_; subst f5_))
       refine hK.out _ _ ⟨bc_ BK213 0, bc_ BK213 1, bc_ BK214 0, bc_ BK214 1⟩ (fun hHeld => ?_)
       clear hK K
       refine norm_ (a' := ?_) ?_ ?_
       rotate_left
       ·show Act.put _ (some 33) _ = _
        simp only [Act.put, List.setIfInBounds_toArray, List.set_cons_zero, List.set_cons_succ, i64_w, i32_w]
        rfl
       refine pure_ (i := 11) (N := some 34) (v := ?_) (a' := ?_) #[true, true, true, true, true, true, true, true, true, true, true, true, true, false] rfl rfl (any_of HT_.out (by kernel_rfl)) (fun _ _ _ h => h) (Or.inl ⟨by rfl, ?_⟩) ?_ ?_
       rotate_left
       ·intro w'
        go_simp
        with_reducible rfl
       rotate_left
       ·simp only [Act.put, List.setIfInBounds_toArray, List.set_cons_zero, List.set_cons_succ, i64_w, i32_w]
        rfl
       exact norm_ (by simp only [putAll, Act.put, List.setIfInBounds_toArray, List.set_cons_zero, List.set_cons_succ]) (hCont (.slice Ao33 y222.length co33, gb225) _ ⟨hHeld, (by (with_reducible repeat (first | apply Kd.V_alloc | apply Kd.V_drewN | apply Kd.V_drew)); exact Kd.V_mono HO0_1.out (fun _ hk => ⟨hk.1.1.1.1.1.1, ⟨hk.1.1.2, ⟨hk.2, ⟨hk.1.1.1.1.1.2, ⟨hk.1.1.1.1.2, ⟨hk.1.1.1.2, hk.1.2⟩⟩⟩⟩⟩⟩)), (by (with_reducible repeat (first | apply Kd.V_alloc | apply Kd.V_drewN | apply Kd.V_drew)); exact Kd.V_mono HO1_1.out (fun _ hk => ⟨hk.1.1.1.1.1.1, ⟨hk.1.1.2, ⟨hk.2, ⟨hk.1.1.1.1.1.2, ⟨hk.1.1.1.1.2, ⟨hk.1.1.1.2, hk.1.2⟩⟩⟩⟩⟩⟩)), (by (with_reducible repeat (first | apply Kd.N_alloc | apply Kd.N_drewN | apply Kd.N_drew)); exact Kd.N_mono HO218.out (fun _ hk => ⟨hk.1.1.1, ⟨hk.2, ⟨hk.1.1.2.1, ⟨hk.1.1.2.2.1, ⟨hk.1.1.2.2.2, hk.1.2⟩⟩⟩⟩⟩)), (rm_ HO224.out (fun _ hk => hk.1)), (bk_ BK213.out), (bk_ BK214.out), (bk_ BK215.out), (bk_ BK225.out), GW225.out, GE225.out, NB213_225.out, NB225_213.out, NB214_225.out, NB225_214.out, NB215_225.out, NB225_215.out, (bb_ HB.out)⟩)
     ·skip
      refine box_step ?hg (N := 7) ?hd (cs := #[.int .i64 0, .slice none 0 0]) (t := 26) ?hr ?_; (case hd => rfl); (case hg => rfl); (case hr => first | (go_simp; done) | (go_simp; rfl))
      intro gb225 hg w28 hbox hb
      have n0_ := am_ (Kd.V_below (Kd.V_elderB (by (with_reducible repeat (first | apply Kd.V_alloc | apply Kd.V_drewN | apply Kd.V_drew)); exact HO0_1.out) gb225 (Nat.le_of_eq hg.symm)) hb)
      have n1_ := am_ (Kd.V_below (Kd.V_elderB (by (with_reducible repeat (first | apply Kd.V_alloc | apply Kd.V_drewN | apply Kd.V_drew)); exact HO1_1.out) gb225 (Nat.le_of_eq hg.symm)) hb)
      have n2_ := am_ (Kd.N_below (Kd.N_elderB (by (with_reducible repeat (first | apply Kd.N_alloc | apply Kd.N_drewN | apply Kd.N_drew)); exact HO218.out) gb225 (Nat.le_of_eq hg.symm)) hb)
      have n3_ := am_ (bw_ BK213 hb)
      have n4_ := am_ (bw_ BK214 hb)
      have n5_ := am_ (bw_ BK215 hb)
      have n6_ := am_ (below_step (bb_ HB.out) hb)
      have n7_ := am_ (hbox)
      have n8_ := am_ ((by rw [hg]; exact (below_size (bb_ HB.out)) : w.heap.size ≤ gb225))
      have n9_ := am_ ((by rw [hg]; exact (below_size (bb_ HB.out)) : w.heap.size ≤ gb225))
      have n10_ := am_ (nl_ BK213 hg)
      have n11_ := am_ (ng_ BK213 hg)
      have n12_ := am_ (nl_ BK214 hg)
      have n13_ := am_ (ng_ BK214 hg)
      have n14_ := am_ (nl_ BK215 hg)
      have n15_ := am_ (ng_ BK215 hg)
      clear HO0_1 HO1_1 HO218 BK213 BK214 BK215 HB; revert n0_ n1_ n2_ n3_ n4_ n5_ n6_ n7_ n8_ n9_ n10_ n11_ n12_ n13_ n14_ n15_; intro HO0_1 HO1_1 HO218 BK213 BK214 BK215 HB BK225 GW225 GE225 NB213_225 NB225_213 NB214_225 NB225_214 NB215_225 NB225_215
      clear hb hbox hg
      refine hK.out _ _ ⟨bc_ BK213 0, bc_ BK213 1, bc_ BK214 0, bc_ BK214 1⟩ (fun hHeld => ?_)
      clear hK K
      refine norm_ (a' := ?_) ?_ ?_
      rotate_left
      ·show Act.put _ (some 7) _ = _
       simp only [Act.put, List.setIfInBounds_toArray, List.set_cons_zero, List.set_cons_succ, i64_w, i32_w]
       rfl
      refine one_ (i := 2) (N := some 25) #[true, true, true, true, false, true, false, true, false, false, false, false, true, false] rfl rfl (one_of HT_.out (by kernel_rfl)) (by decide) (fun K hK => ?_)
      refine goes_ Try.func20 (by kernel_rfl) rfl #[.agg #[.int .i64 a0_0, .slice A0_1 l0_1.length c0_1]] (by rfl) rfl rfl lm_ ?_
      with_reducible refine (impl_Laurent_high.calls a0_0 _ _ l0_1 t220 _ ?side1 ?side2 A6.out).mono ?_
      (case side1 => repeat (first | exact (Kd.V_reads' HO0_1.out).2.2 | (with_reducible refine Kd.C_alloc ?_ _) | (with_reducible refine Kd.C_drewN ?_ _) | (with_reducible refine Kd.C_drew ?_)))
      (case side2 => exact (Kd.V_reads' HO0_1.out).2.1)
      rintro e w29 ⟨rfl, hb⟩
      refine ⟨_, rfl, ?_⟩
      have n0_ := am_ (Kd.V_below (by (with_reducible repeat (first | apply Kd.V_alloc | apply Kd.V_drewN | apply Kd.V_drew)); exact HO0_1.out) hb)
      have n1_ := am_ (Kd.V_below (by (with_reducible repeat (first | apply Kd.V_alloc | apply Kd.V_drewN | apply Kd.V_drew)); exact HO1_1.out) hb)
      have n2_ := am_ (Kd.N_below (by (with_reducible repeat (first | apply Kd.N_alloc | apply Kd.N_drewN | apply Kd.N_drew)); exact HO218.out) hb)
      have n3_ := am_ (bw_ BK213 hb)
      have n4_ := am_ (bw_ BK214 hb)
      have n5_ := am_ (bw_ BK215 hb)
      have n6_ := am_ (bw_ BK225 hb)
      have n7_ := am_ (below_step (bb_ HB.out) hb)
      clear HO0_1 HO1_1 HO218 BK213 BK214 BK215 BK225 HB; revert n0_ n1_ n2_ n3_ n4_ n5_ n6_ n7_; intro HO0_1 HO1_1 HO218 BK213 BK214 BK215 BK225 HB
      (try clear hb)
      (try clear hb2)
      (try clear hk)
      (try clear hi)
      refine hK.out _ _ ⟨bc_ BK213 0, bc_ BK213 1, bc_ BK214 0, bc_ BK214 1⟩ (fun hHeld => ?_)
      clear hK K
      refine norm_ (a' := ?_) ?_ ?_
      rotate_left
      ·show Act.put _ (some 25) _ = _
       simp only [Act.put, List.setIfInBounds_toArray, List.set_cons_zero, List.set_cons_succ, i64_w, i32_w]
       rfl
      refine one_ (i := 4) (N := some 27) #[true, true, true, true, true, true, false, true, false, false, false, false, true, false] rfl rfl (one_of HT_.out (by kernel_rfl)) (by decide) (fun K hK => ?_)
      refine goes_ Try.func20 (by kernel_rfl) rfl #[.agg #[.int .i64 a1_0, .slice A1_1 l1_1.length c1_1]] (by rfl) rfl rfl lm_ ?_
      with_reducible refine (impl_Laurent_high.calls a1_0 _ _ l1_1 t221 _ ?side1 ?side2 A7.out).mono ?_
      (case side1 => repeat (first | exact (Kd.V_reads' HO1_1.out).2.2 | (with_reducible refine Kd.C_alloc ?_ _) | (with_reducible refine Kd.C_drewN ?_ _) | (with_reducible refine Kd.C_drew ?_)))
      (case side2 => exact (Kd.V_reads' HO1_1.out).2.1)
      rintro e w30 ⟨rfl, hb⟩
      refine ⟨_, rfl, ?_⟩
      have n0_ := am_ (Kd.V_below (by (with_reducible repeat (first | apply Kd.V_alloc | apply Kd.V_drewN | apply Kd.V_drew)); exact HO0_1.out) hb)
      have n1_ := am_ (Kd.V_below (by (with_reducible repeat (first | apply Kd.V_alloc | apply Kd.V_drewN | apply Kd.V_drew)); exact HO1_1.out) hb)
      have n2_ := am_ (Kd.N_below (by (with_reducible repeat (first | apply Kd.N_alloc | apply Kd.N_drewN | apply Kd.N_drew)); exact HO218.out) hb)
      have n3_ := am_ (bw_ BK213 hb)
      have n4_ := am_ (bw_ BK214 hb)
      have n5_ := am_ (bw_ BK215 hb)
      have n6_ := am_ (bw_ BK225 hb)
      have n7_ := am_ (below_step (bb_ HB.out) hb)
      clear HO0_1 HO1_1 HO218 BK213 BK214 BK215 BK225 HB; revert n0_ n1_ n2_ n3_ n4_ n5_ n6_ n7_; intro HO0_1 HO1_1 HO218 BK213 BK214 BK215 BK225 HB
      (try clear hb)
      (try clear hb2)
      (try clear hk)
      (try clear hi)
      refine hK.out _ _ ⟨bc_ BK213 0, bc_ BK213 1, bc_ BK214 0, bc_ BK214 1⟩ (fun hHeld => ?_)
      clear hK K
      refine norm_ (a' := ?_) ?_ ?_
      rotate_left
      ·show Act.put _ (some 27) _ = _
       simp only [Act.put, List.setIfInBounds_toArray, List.set_cons_zero, List.set_cons_succ, i64_w, i32_w]
       rfl
      refine pure_ (i := 6) (N := some 29) (v := ?_) (a' := ?_) #[true, true, true, true, true, true, true, true, false, false, false, false, true, false] rfl rfl (any_of HT_.out (by kernel_rfl)) (fun _ _ _ h => h) (Or.inl ⟨by rfl, ?_⟩) ?_ ?_
      rotate_left
      ·intro w'
       go_simp
       with_reducible rfl
      rotate_left
      ·simp only [Act.put, List.setIfInBounds_toArray, List.set_cons_zero, List.set_cons_succ, i64_w, i32_w]
       rfl
      refine pure_ (i := 8) (N := some 31) (v := ?_) (a' := ?_) #[true, true, true, true, true, true, true, true, true, false, false, false, true, false] rfl rfl (any_of HT_.out (by kernel_rfl)) (fun _ _ _ h => h) (Or.inl ⟨by rfl, ?_⟩) ?_ ?_
      rotate_left
      ·intro w'
       go_simp
       with_reducible rfl
      rotate_left
      ·simp only [Act.put, List.setIfInBounds_toArray, List.set_cons_zero, List.set_cons_succ, i64_w, i32_w]
       rfl
      refine pure_ (i := 9) (N := some 32) (v := ?_) (a' := ?_) #[true, true, true, true, true, true, true, true, true, true, false, false, true, false] rfl rfl (any_of HT_.out (by kernel_rfl)) (fun _ _ _ h => h) (Or.inl ⟨by rfl, ?_⟩) ?_ ?_
      rotate_left
      ·intro w'
       go_simp
       with_reducible rfl
      rotate_left
      ·simp only [Act.put, List.setIfInBounds_toArray, List.set_cons_zero, List.set_cons_succ, i64_w, i32_w]
       rfl
      refine one_ (i := 10) (N := some 33) #[true, true, true, true, true, true, true, true, true, true, true, false, true, false] rfl rfl (one_of HT_.out (by kernel_rfl)) (by decide) (fun K hK => ?_)
      refine Kd.R_make_step (Kd.int .i64) _ 2 (by rfl) (N := 33) rfl 22 _ _ rfl ji10 rfl rfl Try.underlying22 (.int .i64 0) 8 info2 rfl (by decide) (by omega) 0 (ok := fun _ => True) (okp := fun _ => True) rfl (fun _ hk => hk) trivial (of_decide_eq_true (by first | (with_reducible assumption) | assumption)) (Nat.le_trans (Nat.mul_le_mul_right _ (of_decide_eq_true (by first | (with_reducible assumption) | assumption) : ji10.toNat ≤ 35184372088832)) (by omega)) (Below.refl _ _) (Nat.le_refl _) ?_
      intro v223 w31 ho32 hb hg_ hnew_
      clear hg_ hnew_
      (first | rw [← Ny222.out] at ho32 | (simp only [Int.reduceToNat] at ho32; rw [← Ny222.out] at ho32))
      have n0_ := am_ (Kd.V_elder' (by (with_reducible repeat (first | apply Kd.V_alloc | apply Kd.V_drewN | apply Kd.V_drew)); exact HO0_1.out) (Kd.R_base ho32) hb)
      have n1_ := am_ (Kd.V_elder' (by (with_reducible repeat (first | apply Kd.V_alloc | apply Kd.V_drewN | apply Kd.V_drew)); exact HO1_1.out) (Kd.R_base ho32) hb)
      have n2_ := am_ (Kd.N_elder' (by (with_reducible repeat (first | apply Kd.N_alloc | apply Kd.N_drewN | apply Kd.N_drew)); exact HO218.out) (Kd.R_base ho32) hb)
      have n3_ := am_ (Kd.R_lower (Kd.R_newM (M := fun k_ => (w.heap.size ≤ k_)) ho32 (below_size (bb_ HB.out)) (fun k_ h_ => h_)) (below_size (bb_ HB.out)))
      have n4_ := am_ (bw_ BK213 hb)
      have n5_ := am_ (bw_ BK214 hb)
      have n6_ := am_ (bw_ BK215 hb)
      have n7_ := am_ (bw_ BK225 hb)
      have n8_ := am_ (below_step (bb_ HB.out) hb)
      clear HO0_1 HO1_1 HO218 BK213 BK214 BK215 BK225 HB; revert n0_ n1_ n2_ n3_ n4_ n5_ n6_ n7_ n8_; intro HO0_1 HO1_1 HO218 HO224 BK213 BK214 BK215 BK225 HB
      clear hb ho32
      obtain ⟨Ao33, co33, eo33⟩ := Kd.R_slice HO224.out
      (first | subst eo33 | (injection eo33 with f1_ f2_ f3_; have f4_ := f1_.symm; have f5_ := f3_.symm; clear f1_ f2_ f3_; subst f4_; subst f5_))
      refine hK.out _ _ ⟨bc_ BK213 0, bc_ BK213 1, bc_ BK214 0, bc_ BK214 1⟩ (fun hHeld => ?_)
      clear hK K
      refine norm_ (a' := ?_) ?_ ?_
      rotate_left
      ·show Act.put _ (some 33) _ = _
       simp only [Act.put, List.setIfInBounds_toArray, List.set_cons_zero, List.set_cons_succ, i64_w, i32_w]
       rfl
      refine pure_ (i := 11) (N := some 34) (v := ?_) (a' := ?_) #[true, true, true, true, true, true, true, true, true, true, true, true, true, false] rfl rfl (any_of HT_.out (by kernel_rfl)) (fun _ _ _ h => h) (Or.inl ⟨by rfl, ?_⟩) ?_ ?_
      rotate_left
      ·intro w'
       go_simp
       with_reducible rfl
      rotate_left
      ·simp only [Act.put, List.setIfInBounds_toArray, List.set_cons_zero, List.set_cons_succ, i64_w, i32_w]
       rfl
      exact norm_ (by simp only [putAll, Act.put, List.setIfInBounds_toArray, List.set_cons_zero, List.set_cons_succ]) (hCont (.slice Ao33 y222.length co33, gb225) _ ⟨hHeld, (by (with_reducible repeat (first | apply Kd.V_alloc | apply Kd.V_drewN | apply Kd.V_drew)); exact Kd.V_mono HO0_1.out (fun _ hk => ⟨hk.1.1.1.1.1.1, ⟨hk.1.1.2, ⟨hk.2, ⟨hk.1.1.1.1.1.2, ⟨hk.1.1.1.1.2, ⟨hk.1.1.1.2, hk.1.2⟩⟩⟩⟩⟩⟩)), (by (with_reducible repeat (first | apply Kd.V_alloc | apply Kd.V_drewN | apply Kd.V_drew)); exact Kd.V_mono HO1_1.out (fun _ hk => ⟨hk.1.1.1.1.1.1, ⟨hk.1.1.2, ⟨hk.2, ⟨hk.1.1.1.1.1.2, ⟨hk.1.1.1.1.2, ⟨hk.1.1.1.2, hk.1.2⟩⟩⟩⟩⟩⟩)), (by (with_reducible repeat (first | apply Kd.N_alloc | apply Kd.N_drewN | apply Kd.N_drew)); exact Kd.N_mono HO218.out (fun _ hk => ⟨hk.1.1.1, ⟨hk.2, ⟨hk.1.1.2.1, ⟨hk.1.1.2.2.1, ⟨hk.1.1.2.2.2, hk.1.2⟩⟩⟩⟩⟩)), (rm_ HO224.out (fun _ hk => hk.1)), (bk_ BK213.out), (bk_ BK214.out), (bk_ BK215.out), (bk_ BK225.out), GW225.out, GE225.out, NB213_225.out, NB225_213.out, NB214_225.out, NB225_214.out, NB215_225.out, NB225_215.out, (bb_ HB.out)⟩)
    rintro ⟨v223, gb225⟩ w34 ⟨hS_, h0_, h1_, h2_, h3_, h4_, h5_, h6_, h7_, h8_, h9_, h10_, h11_, h12_, h13_, h14_, h15_, h16_⟩
    have n0_ : Aside0 (Kd.V (Kd.int .i64) 2 w34 w.heap.size (fun k_ => ((P0_1_ k_ ∨ P1_1_ k_) ∨ w.heap.size ≤ k_) ∧ some k_ ≠ (.slice Ao23 y216.length co23 : Value).ownBlock ∧ some k_ ≠ (v223 : Value).ownBlock ∧ k_ ≠ gb213 ∧ k_ ≠ gb214 ∧ k_ ≠ gb215 ∧ k_ ≠ gb225) (.slice A0_1 l0_1.length c0_1) l0_1) := ⟨h0_⟩
    have n1_ : Aside0 (Kd.V (Kd.int .i64) 2 w34 w.heap.size (fun k_ => ((P0_1_ k_ ∨ P1_1_ k_) ∨ w.heap.size ≤ k_) ∧ some k_ ≠ (.slice Ao23 y216.length co23 : Value).ownBlock ∧ some k_ ≠ (v223 : Value).ownBlock ∧ k_ ≠ gb213 ∧ k_ ≠ gb214 ∧ k_ ≠ gb215 ∧ k_ ≠ gb225) (.slice A1_1 l1_1.length c1_1) l1_1) := ⟨h1_⟩
    have n2_ : Aside0 (Kd.N k26 26 w34 w.heap.size (fun k_ => ((P0_1_ k_ ∨ P1_1_ k_) ∨ w.heap.size ≤ k_) ∧ some k_ ≠ (v223 : Value).ownBlock ∧ k_ ≠ gb213 ∧ k_ ≠ gb214 ∧ k_ ≠ gb215 ∧ k_ ≠ gb225) (.slice Ao23 y216.length co23) y216) := ⟨h2_⟩
    have n3_ : Aside0 (Kd.R (Kd.int .i64) 2 w34 w.heap.size (fun k_ => (w.heap.size ≤ k_)) v223 y222) := ⟨h3_⟩
    have n4_ : Aside0 (w34.heap[gb213]? = some (.cells #[.int .i64 a0_0, .slice A0_1 l0_1.length c0_1] 26 (0, 0))) := ⟨h4_⟩
    have n5_ : Aside0 (w34.heap[gb214]? = some (.cells #[.int .i64 a1_0, .slice A1_1 l1_1.length c1_1] 26 (0, 0))) := ⟨h5_⟩
    have n6_ : Aside0 (w34.heap[gb215]? = some (.cells #[.int .i64 0, .slice none 0 0] 26 (0, 0))) := ⟨h6_⟩
    have n7_ : Aside0 (w34.heap[gb225]? = some (.cells #[.int .i64 0, .slice none 0 0] 26 (0, 0))) := ⟨h7_⟩
    have n8_ : Aside0 (w.heap.size ≤ gb225) := ⟨h8_⟩
    have n9_ : Aside0 (w.heap.size ≤ gb225) := ⟨h9_⟩
    have n10_ : Aside0 (gb213 ≠ gb225) := ⟨h10_⟩
    have n11_ : Aside0 (gb225 ≠ gb213) := ⟨h11_⟩
    have n12_ : Aside0 (gb214 ≠ gb225) := ⟨h12_⟩
    have n13_ : Aside0 (gb225 ≠ gb214) := ⟨h13_⟩
    have n14_ : Aside0 (gb215 ≠ gb225) := ⟨h14_⟩
    have n15_ : Aside0 (gb225 ≠ gb215) := ⟨h15_⟩
    have n16_ : Aside0 (Below w.heap.size w w34) := ⟨h16_⟩
    clear HO0_1
    clear HO1_1
    clear HO218
    clear BK213
    clear BK214
    clear BK215
    clear HB
    clear h0_ h1_ h2_ h3_ h4_ h5_ h6_ h7_ h8_ h9_ h10_ h11_ h12_ h13_ h14_ h15_ h16_
    have HO0_1 := n0_
    have HO1_1 := n1_
    have HO218 := n2_
    have HO224 := n3_
    have BK213 := n4_
    have BK214 := n5_
    have BK215 := n6_
    have BK225 := n7_
    have GW225 := n8_
    have GE225 := n9_
    have NB213_225 := n10_
    have NB225_213 := n11_
    have NB214_225 := n12_
    have NB225_214 := n13_
    have NB215_225 := n14_
    have NB225_215 := n15_
    have HB := n16_
    clear n0_ n1_ n2_ n3_ n4_ n5_ n6_ n7_ n8_ n9_ n10_ n11_ n12_ n13_ n14_ n15_ n16_
    have hHeld : w34.cell? ⟨gb213, 0, none⟩ = some (.int .i64 a0_0) ∧ w34.cell? ⟨gb213, 1, none⟩ = some (.slice A0_1 l0_1.length c0_1) ∧ w34.cell? ⟨gb214, 0, none⟩ = some (.int .i64 a1_0) ∧ w34.cell? ⟨gb214, 1, none⟩ = some (.slice A1_1 l1_1.length c1_1) := hS_
    obtain ⟨Ao35, co35, eo35⟩ := Kd.R_slice HO224.out
    (first | subst eo35 | (injection eo35 with f1_ f2_ f3_; have f4_ := f1_.symm; have f5_ := f3_.symm; clear f1_ f2_ f3_; subst f4_; subst f5_))
    refine norm_ (a' := ?_) ?_ ?_
    rotate_left
    ·simp only [putAll, Act.put, List.setIfInBounds_toArray, List.set_cons_zero, List.set_cons_succ]
     rfl
    refine one_ (i := 13) (N := none) #[true, true, true, true, true, true, true, true, true, true, true, true, true, true] rfl rfl (one_of HT_.out (by kernel_rfl)) (by decide) (fun K hK => ?_)
    have hs36 : w34.cell? ⟨gb225, 0, none⟩ = some (.int .i64 0) := bc_ BK225 0
    have hfs36 := blk_frozen BK225.out 0
    have hns36_0 := NB213_225.out
    have hns36_1 := NB214_225.out
    have hns36_2 := NB215_225.out
    have hms36_0 := NB225_213.out
    have hms36_1 := NB225_214.out
    have hms36_2 := NB225_215.out
    have hs37 : w34.cell? ⟨gb225, 1, none⟩ = some (.slice none 0 0) := bc_ BK225 1
    have hfs37 := blk_frozen BK225.out 1
    have hns37_0 := NB213_225.out
    have hns37_1 := NB214_225.out
    have hns37_2 := NB215_225.out
    have hms37_0 := NB225_213.out
    have hms37_1 := NB225_214.out
    have hms37_2 := NB225_215.out
    refine skip_ (w1 := ?_) (by rfl) rfl ?_ ?_
    rotate_left
    ·go_simp
     rfl
    refine hK.out _ _ ⟨((cell_far (p := ⟨gb225, _, none⟩) NB213_225.out _).trans (((cell_far (p := ⟨gb225, _, none⟩) NB213_225.out _).trans (hHeld.1)))), ((cell_far (p := ⟨gb225, _, none⟩) NB213_225.out _).trans (((cell_far (p := ⟨gb225, _, none⟩) NB213_225.out _).trans (hHeld.2.1)))), ((cell_far (p := ⟨gb225, _, none⟩) NB214_225.out _).trans (((cell_far (p := ⟨gb225, _, none⟩) NB214_225.out _).trans (hHeld.2.2.1)))), ((cell_far (p := ⟨gb225, _, none⟩) NB214_225.out _).trans (((cell_far (p := ⟨gb225, _, none⟩) NB214_225.out _).trans (hHeld.2.2.2))))⟩ (fun hHeld => ?_)
    clear hK K
    refine done_ (done_of HT_.out (by kernel_rfl)) ?_
    have hnb38 := NB213_225.out
    have hnc38 := NB225_213.out
    obtain ⟨hcz39_0, hcz39_1, hfz39_0, hfz39_1⟩ := bx2_ BK213
    have hnb40 := NB214_225.out
    have hnc40 := NB225_214.out
    obtain ⟨hcz41_0, hcz41_1, hfz41_0, hfz41_1⟩ := bx2_ BK214
    try go_wp2_with (first | ((with_reducible refine gate_dst (N := 37) rfl ?_); refine Kd.N_lit k26 _ 26 ?hg (N' := 37) ?hd (xs := ([(⟨a0_0, l0_1⟩ : S26), (⟨a1_0, l1_1⟩ : S26)] : List (S26))) (inner := [.int .i64 a0_0, .slice A0_1 l0_1.length c0_1, .int .i64 a1_0, .slice A1_1 l1_1.length c1_1]) (ok := (fun k_ => ((P0_1_ k_ ∨ P1_1_ k_) ∨ w.heap.size ≤ k_) ∧ some k_ ≠ (.slice Ao23 y216.length co23 : Value).ownBlock ∧ some k_ ≠ (.slice Ao35 y222.length co35 : Value).ownBlock ∧ k_ ≠ gb213 ∧ k_ ≠ gb214 ∧ k_ ≠ gb215 ∧ k_ ≠ gb225)) (okp := (fun k_ => ((P0_1_ k_ ∨ P1_1_ k_) ∨ w.heap.size ≤ k_) ∧ some k_ ≠ (.slice Ao23 y216.length co23 : Value).ownBlock ∧ some k_ ≠ (.slice Ao35 y222.length co35 : Value).ownBlock ∧ k_ ≠ gb213 ∧ k_ ≠ gb214 ∧ k_ ≠ gb215 ∧ k_ ≠ gb225)) ?hr ?hp (fun _ hk => hk) ((show ∀ k_, ((w34.setCell ⟨gb225, 0, none⟩ (.int .i64 ji5)).setCell ⟨gb225, 1, none⟩ (.slice Ao35 y222.length co35)).heap.size ≤ k_ → (fun k_ => ((P0_1_ k_ ∨ P1_1_ k_) ∨ w.heap.size ≤ k_) ∧ some k_ ≠ (.slice Ao23 y216.length co23 : Value).ownBlock ∧ some k_ ≠ (.slice Ao35 y222.length co35 : Value).ownBlock ∧ k_ ≠ gb213 ∧ k_ ≠ gb214 ∧ k_ ≠ gb215 ∧ k_ ≠ gb225) k_ from fun k_ hk => ⟨(.inr (Nat.le_trans (below_size (bb_ HB.out)) hk)), Kd.fresh' (Kd.N_lt (by (with_reducible repeat (first | apply Kd.N_alloc | apply Kd.N_drewN | apply Kd.N_drew)); exact (Kd.N_mono (Kd.N_far (p := ⟨gb225, 1, none⟩) (Kd.N_far (p := ⟨gb225, 0, none⟩) (Kd.N_mono HO218.out (fun k_ hk => (⟨hk, hk.2.2.2.2.2⟩ : _ ∧ k_ ≠ gb225))) (fun _ hk => hk.2) (.int .i64 ji5)) (fun _ hk => hk.2) (.slice Ao35 y222.length co35)) (fun _ h_ => h_.1)))) k_ hk, Kd.fresh' (Kd.R_lt ((rm_ (Kd.R_far (p := ⟨gb225, 1, none⟩) (Kd.R_far (p := ⟨gb225, 0, none⟩) (Kd.R_types HO224.out BK225.out (by decide)) (fun _ hk => hk.2) (.int .i64 ji5)) (fun _ hk => hk.2) (.slice Ao35 y222.length co35)) (fun _ h_ => h_.1)))) k_ hk, Kd.freshB (g := gb213) (o := .cells #[.int .i64 a0_0, .slice A0_1 l0_1.length c0_1] 26 (0, 0)) (bk_ BK213.out) k_ hk, Kd.freshB (g := gb214) (o := .cells #[.int .i64 a1_0, .slice A1_1 l1_1.length c1_1] 26 (0, 0)) (bk_ BK214.out) k_ hk, Kd.freshB (g := gb215) (o := .cells #[.int .i64 0, .slice none 0 0] 26 (0, 0)) (bk_ BK215.out) k_ hk, Kd.freshB (g := gb225) (o := .cells #[.int .i64 ji5, .slice Ao35 y222.length co35] 26 (0, 0)) (by (with_reducible repeat (first | refine blk_drewN ?_ _ | refine blk_drew ?_ | refine blk_alloc ?_ _)); refine blk_put (cs := #[.int .i64 ji5, .slice none 0 0]) ?_ 1 _ rfl; (with_reducible repeat (first | refine blk_drewN ?_ _ | refine blk_drew ?_ | refine blk_alloc ?_ _)); refine blk_put (cs := #[.int .i64 0, .slice none 0 0]) ?_ 0 _ rfl; (with_reducible repeat (first | refine blk_drewN ?_ _ | refine blk_drew ?_ | refine blk_alloc ?_ _)); exact BK225.out) k_ hk⟩) _ (Nat.le_refl _)) (Below.refl _ _) (Nat.le_refl _) (by simp) ?_; (case hd => rfl); (case hg => rfl); (case hr => first | (go_simp; done) | (go_simp; rfl)); (case hp => exact (Reps.c2 (show Kd.FK k26 _ _ (⟨a0_0, l0_1⟩ : S26) [.int .i64 a0_0, .slice A0_1 l0_1.length c0_1] from (k26_mkF _ _ (⟨a0_0, l0_1⟩ : S26) (Kd.V_reads' (Kd.V_mono (ok' := (fun k_ => ((P0_1_ k_ ∨ P1_1_ k_) ∨ w.heap.size ≤ k_) ∧ some k_ ≠ (.slice Ao23 y216.length co23 : Value).ownBlock ∧ some k_ ≠ (.slice Ao35 y222.length co35 : Value).ownBlock ∧ k_ ≠ gb213 ∧ k_ ≠ gb214 ∧ k_ ≠ gb215 ∧ k_ ≠ gb225)) (Kd.V_mono (Kd.V_far (p := ⟨gb225, 1, none⟩) (Kd.V_far (p := ⟨gb225, 0, none⟩) (Kd.V_mono HO0_1.out (fun k_ hk => (⟨hk, hk.2.2.2.2.2.2⟩ : _ ∧ k_ ≠ gb225))) (fun _ hk => hk.2) (.int .i64 ji5)) (fun _ hk => hk.2) (.slice Ao35 y222.length co35)) (fun _ h_ => h_.1)) (fun k_ hk => ⟨hk.1, ⟨hk.2.1, ⟨hk.2.2.1, ⟨hk.2.2.2.1, ⟨hk.2.2.2.2.1, ⟨hk.2.2.2.2.2.1, hk.2.2.2.2.2.2⟩⟩⟩⟩⟩⟩))).2.1 (Kd.V_F (Kd.V_mono (ok' := (fun k_ => ((P0_1_ k_ ∨ P1_1_ k_) ∨ w.heap.size ≤ k_) ∧ some k_ ≠ (.slice Ao23 y216.length co23 : Value).ownBlock ∧ some k_ ≠ (.slice Ao35 y222.length co35 : Value).ownBlock ∧ k_ ≠ gb213 ∧ k_ ≠ gb214 ∧ k_ ≠ gb215 ∧ k_ ≠ gb225)) (Kd.V_mono (Kd.V_far (p := ⟨gb225, 1, none⟩) (Kd.V_far (p := ⟨gb225, 0, none⟩) (Kd.V_mono HO0_1.out (fun k_ hk => (⟨hk, hk.2.2.2.2.2.2⟩ : _ ∧ k_ ≠ gb225))) (fun _ hk => hk.2) (.int .i64 ji5)) (fun _ hk => hk.2) (.slice Ao35 y222.length co35)) (fun _ h_ => h_.1)) (fun k_ hk => ⟨hk.1, ⟨hk.2.1, ⟨hk.2.2.1, ⟨hk.2.2.2.1, ⟨hk.2.2.2.2.1, ⟨hk.2.2.2.2.2.1, hk.2.2.2.2.2.2⟩⟩⟩⟩⟩⟩))))) (Reps.c2 (show Kd.FK k26 _ _ (⟨a1_0, l1_1⟩ : S26) [.int .i64 a1_0, .slice A1_1 l1_1.length c1_1] from (k26_mkF _ _ (⟨a1_0, l1_1⟩ : S26) (Kd.V_reads' (Kd.V_mono (ok' := (fun k_ => ((P0_1_ k_ ∨ P1_1_ k_) ∨ w.heap.size ≤ k_) ∧ some k_ ≠ (.slice Ao23 y216.length co23 : Value).ownBlock ∧ some k_ ≠ (.slice Ao35 y222.length co35 : Value).ownBlock ∧ k_ ≠ gb213 ∧ k_ ≠ gb214 ∧ k_ ≠ gb215 ∧ k_ ≠ gb225)) (Kd.V_mono (Kd.V_far (p := ⟨gb225, 1, none⟩) (Kd.V_far (p := ⟨gb225, 0, none⟩) (Kd.V_mono HO1_1.out (fun k_ hk => (⟨hk, hk.2.2.2.2.2.2⟩ : _ ∧ k_ ≠ gb225))) (fun _ hk => hk.2) (.int .i64 ji5)) (fun _ hk => hk.2) (.slice Ao35 y222.length co35)) (fun _ h_ => h_.1)) (fun k_ hk => ⟨hk.1, ⟨hk.2.1, ⟨hk.2.2.1, ⟨hk.2.2.2.1, ⟨hk.2.2.2.2.1, ⟨hk.2.2.2.2.2.1, hk.2.2.2.2.2.2⟩⟩⟩⟩⟩⟩))).2.1 (Kd.V_F (Kd.V_mono (ok' := (fun k_ => ((P0_1_ k_ ∨ P1_1_ k_) ∨ w.heap.size ≤ k_) ∧ some k_ ≠ (.slice Ao23 y216.length co23 : Value).ownBlock ∧ some k_ ≠ (.slice Ao35 y222.length co35 : Value).ownBlock ∧ k_ ≠ gb213 ∧ k_ ≠ gb214 ∧ k_ ≠ gb215 ∧ k_ ≠ gb225)) (Kd.V_mono (Kd.V_far (p := ⟨gb225, 1, none⟩) (Kd.V_far (p := ⟨gb225, 0, none⟩) (Kd.V_mono HO1_1.out (fun k_ hk => (⟨hk, hk.2.2.2.2.2.2⟩ : _ ∧ k_ ≠ gb225))) (fun _ hk => hk.2) (.int .i64 ji5)) (fun _ hk => hk.2) (.slice Ao35 y222.length co35)) (fun _ h_ => h_.1)) (fun k_ hk => ⟨hk.1, ⟨hk.2.1, ⟨hk.2.2.1, ⟨hk.2.2.2.1, ⟨hk.2.2.2.2.1, ⟨hk.2.2.2.2.2.1, hk.2.2.2.2.2.2⟩⟩⟩⟩⟩⟩))))) (Reps.none _ _)))); intro v227 w42 ho43 hb hg_ hnew_; clear hg_ hnew_; (first | rw [← Ny226.out] at ho43 | (simp only [Int.reduceToNat] at ho43; rw [← Ny226.out] at ho43)); have n0_ := am_ (Kd.V_elder' (by (with_reducible repeat (first | apply Kd.V_alloc | apply Kd.V_drewN | apply Kd.V_drew)); exact (Kd.V_mono (Kd.V_far (p := ⟨gb225, 1, none⟩) (Kd.V_far (p := ⟨gb225, 0, none⟩) (Kd.V_mono HO0_1.out (fun k_ hk => (⟨hk, hk.2.2.2.2.2.2⟩ : _ ∧ k_ ≠ gb225))) (fun _ hk => hk.2) (.int .i64 ji5)) (fun _ hk => hk.2) (.slice Ao35 y222.length co35)) (fun _ h_ => h_.1))) (Kd.N_base ho43) hb); have n1_ := am_ (Kd.V_elder' (by (with_reducible repeat (first | apply Kd.V_alloc | apply Kd.V_drewN | apply Kd.V_drew)); exact (Kd.V_mono (Kd.V_far (p := ⟨gb225, 1, none⟩) (Kd.V_far (p := ⟨gb225, 0, none⟩) (Kd.V_mono HO1_1.out (fun k_ hk => (⟨hk, hk.2.2.2.2.2.2⟩ : _ ∧ k_ ≠ gb225))) (fun _ hk => hk.2) (.int .i64 ji5)) (fun _ hk => hk.2) (.slice Ao35 y222.length co35)) (fun _ h_ => h_.1))) (Kd.N_base ho43) hb); have n2_ := am_ (Kd.N_elder' (by (with_reducible repeat (first | apply Kd.N_alloc | apply Kd.N_drewN | apply Kd.N_drew)); exact (Kd.N_mono (Kd.N_far (p := ⟨gb225, 1, none⟩) (Kd.N_far (p := ⟨gb225, 0, none⟩) (Kd.N_mono HO218.out (fun k_ hk => (⟨hk, hk.2.2.2.2.2⟩ : _ ∧ k_ ≠ gb225))) (fun _ hk => hk.2) (.int .i64 ji5)) (fun _ hk => hk.2) (.slice Ao35 y222.length co35)) (fun _ h_ => h_.1))) (Kd.N_base ho43) hb); have n3_ := am_ (Kd.R_below ((rm_ (Kd.R_far (p := ⟨gb225, 1, none⟩) (Kd.R_far (p := ⟨gb225, 0, none⟩) (Kd.R_types HO224.out BK225.out (by decide)) (fun _ hk => hk.2) (.int .i64 ji5)) (fun _ hk => hk.2) (.slice Ao35 y222.length co35)) (fun _ h_ => h_.1))) hb); have n4_ := am_ (Kd.N_lower ho43 (below_size (bb_ HB.out))); have n5_ := am_ (bw_ BK213 hb); have n6_ := am_ (bw_ BK214 hb); have n7_ := am_ (bw_ BK215 hb); have n8_ := am_ (blk_below (g := gb225) (o := .cells #[.int .i64 ji5, .slice Ao35 y222.length co35] 26 (0, 0)) (by (with_reducible repeat (first | refine blk_drewN ?_ _ | refine blk_drew ?_ | refine blk_alloc ?_ _)); refine blk_put (cs := #[.int .i64 ji5, .slice none 0 0]) ?_ 1 _ rfl; (with_reducible repeat (first | refine blk_drewN ?_ _ | refine blk_drew ?_ | refine blk_alloc ?_ _)); refine blk_put (cs := #[.int .i64 0, .slice none 0 0]) ?_ 0 _ rfl; (with_reducible repeat (first | refine blk_drewN ?_ _ | refine blk_drew ?_ | refine blk_alloc ?_ _)); exact BK225.out) hb); have n9_ := am_ (below_step (bb_ HB.out) hb); clear HO0_1 HO1_1 HO218 HO224 BK213 BK214 BK215 BK225 HB; revert n0_ n1_ n2_ n3_ n4_ n5_ n6_ n7_ n8_ n9_; intro HO0_1 HO1_1 HO218 HO224 HO228 BK213 BK214 BK215 BK225 HB; clear hb ho43; obtain ⟨Ao44, co44, eo44⟩ := Kd.N_slice HO228.out; subst eo44))
    go_loopg [39] k (fun kq v39 w' => ∃ (x39_1 : Int) (x214001_1 : List Int) (x215001_1 : List Int) (x226001_1 : List Int) (u214001 : Value) (u215001 : Value) (u226001 : Value), v39 = .int .i64 x39_1 ∧ Aside0 (impl_AddLaurent.l0 kq ji5 y226 (y226.length : Int) x39_1 ji5 x226001_1 = some (r1, r2, r3)) ∧ Aside0 (kq ≤ k) ∧ Aside0 (Kd.N k26 26 w' w.heap.size (fun k_ => ((P0_1_ k_ ∨ P1_1_ k_) ∨ w.heap.size ≤ k_) ∧ some k_ ≠ (u226001 : Value).ownBlock ∧ k_ ≠ gb213 ∧ k_ ≠ gb214 ∧ k_ ≠ gb215 ∧ k_ ≠ gb225) (.slice Ao44 y226.length co44) y226) ∧ Aside0 (Kd.V (Kd.int .i64) 2 w' w.heap.size (fun k_ => ((P0_1_ k_ ∨ P1_1_ k_) ∨ w.heap.size ≤ k_) ∧ some k_ ≠ ((.slice Ao44 y226.length co44) : Value).ownBlock ∧ some k_ ≠ (u226001 : Value).ownBlock ∧ k_ ≠ gb213 ∧ k_ ≠ gb214 ∧ k_ ≠ gb215 ∧ k_ ≠ gb225) u214001 x214001_1) ∧ Aside0 (Kd.V (Kd.int .i64) 2 w' w.heap.size (fun k_ => ((P0_1_ k_ ∨ P1_1_ k_) ∨ w.heap.size ≤ k_) ∧ some k_ ≠ ((.slice Ao44 y226.length co44) : Value).ownBlock ∧ some k_ ≠ (u226001 : Value).ownBlock ∧ k_ ≠ gb213 ∧ k_ ≠ gb214 ∧ k_ ≠ gb215 ∧ k_ ≠ gb225) u215001 x215001_1) ∧ Aside0 (Kd.R (Kd.int .i64) 2 w' w.heap.size (fun k_ => (w.heap.size ≤ k_)) u226001 x226001_1) ∧ Aside0 (w'.heap[gb213]? = some (.cells #[.int .i64 a0_0, u214001] 26 (0, 0))) ∧ Aside0 (w'.heap[gb214]? = some (.cells #[.int .i64 a1_0, u215001] 26 (0, 0))) ∧ Aside0 (w'.heap[gb215]? = some (.cells #[.int .i64 0, (.slice none 0 0)] 26 (0, 0))) ∧ Aside0 (w'.heap[gb225]? = some (.cells #[.int .i64 ji5, u226001] 26 (0, 0))) ∧ Aside0 (Below w.heap.size w w'))
    case atStart => exact ⟨(0), (l0_1), (l1_1), (y222), (.slice A0_1 l0_1.length c0_1), (.slice A1_1 l1_1.length c1_1), (.slice Ao35 y222.length co35), (by first | rfl | (simp; done) | (simp [*]; done)), H', ⟨Nat.le_refl _⟩, ⟨by (with_reducible repeat (first | apply Kd.N_alloc | apply Kd.N_drewN | apply Kd.N_drew)); exact Kd.N_mono HO228.out (fun _ hk => ⟨hk.1, ⟨hk.2.2.1, ⟨hk.2.2.2.1, ⟨hk.2.2.2.2.1, ⟨hk.2.2.2.2.2.1, hk.2.2.2.2.2.2⟩⟩⟩⟩⟩)⟩, ⟨by (with_reducible repeat (first | apply Kd.V_alloc | apply Kd.V_drewN | apply Kd.V_drew)); exact Kd.V_mono HO0_1.out (fun _ hk => ⟨hk.1.1, ⟨hk.2, ⟨hk.1.2.2.1, ⟨hk.1.2.2.2.1, ⟨hk.1.2.2.2.2.1, ⟨hk.1.2.2.2.2.2.1, hk.1.2.2.2.2.2.2⟩⟩⟩⟩⟩⟩)⟩, ⟨by (with_reducible repeat (first | apply Kd.V_alloc | apply Kd.V_drewN | apply Kd.V_drew)); exact Kd.V_mono HO1_1.out (fun _ hk => ⟨hk.1.1, ⟨hk.2, ⟨hk.1.2.2.1, ⟨hk.1.2.2.2.1, ⟨hk.1.2.2.2.2.1, ⟨hk.1.2.2.2.2.2.1, hk.1.2.2.2.2.2.2⟩⟩⟩⟩⟩⟩)⟩, ⟨rk_ HO224.out⟩, ⟨bk_ BK213.out⟩, ⟨bk_ BK214.out⟩, ⟨bk_ BK215.out⟩, ⟨bk_ BK225.out⟩, ⟨bb_ HB.out⟩⟩
    case round =>
     clear H'
     try clear c1
     try clear c2
     try clear p2
     try clear c3
     try clear c4
     try clear c20
     try clear c38
     try clear c40
     try clear hcz39_0
     try clear hcz39_1
     try clear hcz41_0
     try clear hcz41_1
     try clear hfz39_0
     try clear hfz39_1
     try clear hfz41_0
     try clear hfz41_1
     obtain ⟨x39_1, x214001_1, x215001_1, x226001_1, u214001, u215001, u226001, rfl, HA, HK1, HO_37, HO_214001, HO_215001, HO_226001, BK213, BK214, BK215, BK225, HB⟩ := hrel
     cases gk with
     | zero => exact absurd HA.out (by simp [impl_AddLaurent.l0])
     | succ k1 =>
      have H := HA.out
      clear HA
      simp only [impl_AddLaurent.l0] at H
      by_cases c45 : x39_1 < (y226.length : Int)
      ·rw [if_pos c45] at H
       have c45b0 : decide (x39_1 < (y226.length : Int)) = true := decide_eq_true c45
       clear c45
       by_cases c46 : 0 ≤ x39_1
       ·rw [if_pos c46] at H
        have c46b0 : decide (0 ≤ x39_1) = true := decide_eq_true c46
        clear c46
        by_cases c47 : x39_1 < (y226.length : Int)
        ·rw [if_pos c47] at H
         have c47b0 : decide (x39_1 < (y226.length : Int)) = true := decide_eq_true c47
         clear c47
         have H' := am_ H
         clear H
         have p234 : 0 ≤ (x39_1 : Int) := of_decide_eq_true (by first | (with_reducible assumption) | assumption)
         have q234 : x39_1 < (y226.length : Int) := of_decide_eq_true (by first | (with_reducible assumption) | assumption)
         obtain ⟨ad234, A234_1, c234_1, e234, hx234_0, hx234_1, hl234_1, hi234_1⟩ := at_T26 (Kd.N_reads' HO_37.out).2.2 x39_1 p234 q234
         cases e234
         obtain ⟨ce234, hce234, hMe234, hcc234⟩ := Kd.N_get HO_37.out z26 x39_1 p234 (by first | exact q234 | exact of_decide_eq_true (by first | (with_reducible assumption) | assumption) | (have e_ := (Kd.N_reads' HO_37.out).1; omega))
         obtain ⟨ua234_1, uc234_1, rfl, ul234_1, ge234_1⟩ := k26_openF hMe234
         have hv234_1 := hcc234 1 _ rfl
         rw [add_field _ _ 1 (by omega)] at hv234_1
         replace hv234_1 := Option.some.inj (hv234_1.symm.trans hx234_1)
         injection hv234_1 with hva_ hvn_ hvc_
         rw [hva_] at ge234_1
         rw [hvc_] at ul234_1
         have HL234_1 := am_ (show Kd.V (Kd.int .i64) 2 _ w.heap.size _ _ ((rd_T26 y226 x39_1).f1) from Kd.V_mk ul234_1 ge234_1)
         clear hva_ hvn_ hvc_ ge234_1 ul234_1
         clear hcc234 hce234
         have HR234_1 := am_ hi234_1
         have HC234_1 := am_ hl234_1
         clear hi234_1 hl234_1
         replace p234 := eq_true p234
         replace q234 := eq_true q234
         go_wp2_with (first | ((with_reducible refine gate_dst (N := 9) rfl ?_); refine box_event ?hg (N := 9) ?hd (cs := #[.int .i64 0, .slice none 0 0]) (t := 26) ?hr ?_; (case hd => rfl); (case hg => rfl); (case hr => first | (go_simp; done) | (go_simp; rfl)); intro gb235 hg w48 hbox hb; have n0_ := am_ (Kd.N_below (Kd.N_elderB (by (with_reducible repeat (first | apply Kd.N_alloc | apply Kd.N_drewN | apply Kd.N_drew)); exact HO_37.out) gb235 (Nat.le_of_eq hg.symm)) hb); have n1_ := am_ (Kd.V_below (Kd.V_elderB (by (with_reducible repeat (first | apply Kd.V_alloc | apply Kd.V_drewN | apply Kd.V_drew)); exact HO_214001.out) gb235 (Nat.le_of_eq hg.symm)) hb); have n2_ := am_ (Kd.V_below (Kd.V_elderB (by (with_reducible repeat (first | apply Kd.V_alloc | apply Kd.V_drewN | apply Kd.V_drew)); exact HO_215001.out) gb235 (Nat.le_of_eq hg.symm)) hb); have n3_ := am_ (Kd.R_below (rk_ HO_226001.out) hb); have n4_ := am_ (Kd.V_below (Kd.V_elderB (by (with_reducible repeat (first | apply Kd.V_alloc | apply Kd.V_drewN | apply Kd.V_drew)); exact HL234_1.out) gb235 (Nat.le_of_eq hg.symm)) hb); have n5_ := am_ (bw_ BK213 hb); have n6_ := am_ (bw_ BK214 hb); have n7_ := am_ (bw_ BK215 hb); have n8_ := am_ (bw_ BK225 hb); have n9_ := am_ (Kd.C_below (by repeat (first | (with_reducible exact HR234_1.out) | (with_reducible refine Kd.C_alloc ?_ _) | (with_reducible refine Kd.C_drewN ?_ _) | (with_reducible refine Kd.C_drew ?_) | exact HR234_1.out)) hb); have n10_ := am_ (below_step (bb_ HB.out) hb); have n11_ := am_ (hbox); have n12_ := am_ ((by rw [hg]; exact (below_size (bb_ HB.out)) : w.heap.size ≤ gb235)); have n13_ := am_ ((by rw [hg]; exact (below_size (bb_ HB.out)) : w.heap.size ≤ gb235)); have n14_ := am_ (nl_ BK213 hg); have n15_ := am_ (ng_ BK213 hg); have n16_ := am_ (nl_ BK214 hg); have n17_ := am_ (ng_ BK214 hg); have n18_ := am_ (nl_ BK215 hg); have n19_ := am_ (ng_ BK215 hg); have n20_ := am_ (nl_ BK225 hg); have n21_ := am_ (ng_ BK225 hg); clear HO_37 HO_214001 HO_215001 HO_226001 HL234_1 BK213 BK214 BK215 BK225 HR234_1 HB; revert n0_ n1_ n2_ n3_ n4_ n5_ n6_ n7_ n8_ n9_ n10_ n11_ n12_ n13_ n14_ n15_ n16_ n17_ n18_ n19_ n20_ n21_; intro HO_37 HO_214001 HO_215001 HO_226001 HL234_1 BK213 BK214 BK215 BK225 HR234_1 HB BK235 GW235 GE235 NB213_235 NB235_213 NB214_235 NB235_214 NB215_235 NB235_215 NB225_235 NB235_225; clear hb hbox hg; have hnb49 := NB235_213.out; have hnc49 := NB213_235.out; have hnb50 := NB235_214.out; have hnc50 := NB214_235.out; have hnb51 := NB235_215.out; have hnc51 := NB215_235.out; have hnb52 := NB235_225.out; have hnc52 := NB225_235.out; obtain ⟨hcz53_0, hcz53_1, hfz53_0, hfz53_1⟩ := bx2_ BK235))
         go_loopg [46] k1 (fun kq v46 w' => ∃ (x46_2 : Int) (x214001_2 : List Int) (x215001_2 : List Int) (x226001_2 : List Int) (u214001 : Value) (u215001 : Value) (u226001 : Value), v46 = .int .i64 x46_2 ∧ Aside0 (impl_AddLaurent.l1 kq ji5 y226 (y226.length : Int) x39_1 ((rd_T26 y226 x39_1).f1) (((rd_T26 y226 x39_1).f1).length : Int) x46_2 ji5 x226001_2 ((rd_T26 y226 x39_1).f0) ((rd_T26 y226 x39_1).f1) = some (r1, r2, r3)) ∧ Aside0 (kq ≤ k1) ∧ Aside0 (Kd.N k26 26 w' w.heap.size (fun k_ => ((P0_1_ k_ ∨ P1_1_ k_) ∨ w.heap.size ≤ k_) ∧ some k_ ≠ (u226001 : Value).ownBlock ∧ k_ ≠ gb213 ∧ k_ ≠ gb214 ∧ k_ ≠ gb215 ∧ k_ ≠ gb225 ∧ k_ ≠ gb235) (.slice (some ad234) y226.length co44) y226) ∧ Aside0 (Kd.V (Kd.int .i64) 2 w' w.heap.size (fun k_ => ((P0_1_ k_ ∨ P1_1_ k_) ∨ w.heap.size ≤ k_) ∧ some k_ ≠ (u226001 : Value).ownBlock ∧ k_ ≠ gb213 ∧ k_ ≠ gb214 ∧ k_ ≠ gb215 ∧ k_ ≠ gb225 ∧ k_ ≠ gb235) (.slice A234_1 (((rd_T26 y226 x39_1).f1)).length c234_1) ((rd_T26 y226 x39_1).f1)) ∧ Aside0 (Kd.V (Kd.int .i64) 2 w' w.heap.size (fun k_ => ((P0_1_ k_ ∨ P1_1_ k_) ∨ w.heap.size ≤ k_) ∧ some k_ ≠ ((.slice (some ad234) y226.length co44) : Value).ownBlock ∧ some k_ ≠ (u226001 : Value).ownBlock ∧ k_ ≠ gb213 ∧ k_ ≠ gb214 ∧ k_ ≠ gb215 ∧ k_ ≠ gb225 ∧ k_ ≠ gb235) u214001 x214001_2) ∧ Aside0 (Kd.V (Kd.int .i64) 2 w' w.heap.size (fun k_ => ((P0_1_ k_ ∨ P1_1_ k_) ∨ w.heap.size ≤ k_) ∧ some k_ ≠ ((.slice (some ad234) y226.length co44) : Value).ownBlock ∧ some k_ ≠ (u226001 : Value).ownBlock ∧ k_ ≠ gb213 ∧ k_ ≠ gb214 ∧ k_ ≠ gb215 ∧ k_ ≠ gb225 ∧ k_ ≠ gb235) u215001 x215001_2) ∧ Aside0 (Kd.R (Kd.int .i64) 2 w' w.heap.size (fun k_ => (w.heap.size ≤ k_)) u226001 x226001_2) ∧ Aside0 (w'.heap[gb213]? = some (.cells #[.int .i64 a0_0, u214001] 26 (0, 0))) ∧ Aside0 (w'.heap[gb214]? = some (.cells #[.int .i64 a1_0, u215001] 26 (0, 0))) ∧ Aside0 (w'.heap[gb215]? = some (.cells #[.int .i64 0, (.slice none 0 0)] 26 (0, 0))) ∧ Aside0 (w'.heap[gb225]? = some (.cells #[.int .i64 ji5, u226001] 26 (0, 0))) ∧ Aside0 (w'.heap[gb235]? = some (.cells #[.int .i64 ((rd_T26 y226 x39_1).f0), (.slice A234_1 ((rd_T26 y226 x39_1).f1).length c234_1)] 26 (0, 0))) ∧ Aside0 (Below w.heap.size w w'))
         case atStart => exact ⟨(0), (x214001_1), (x215001_1), (x226001_1), (u214001), (u215001), (u226001), (by first | rfl | (simp; done) | (simp [*]; done)), H', ⟨Nat.le_refl _⟩, ⟨by (with_reducible repeat (first | apply Kd.N_alloc | apply Kd.N_drewN | apply Kd.N_drew)); exact Kd.N_mono (Kd.N_far (p := ⟨gb235, 1, none⟩) (Kd.N_far (p := ⟨gb235, 0, none⟩) (Kd.N_mono HO_37.out (fun k_ hk => (⟨hk, hk.2⟩ : _ ∧ k_ ≠ gb235))) (fun _ hk => hk.2) (.int .i64 ((rd_T26 y226 x39_1).f0))) (fun _ hk => hk.2) (.slice A234_1 ((rd_T26 y226 x39_1).f1).length c234_1)) (fun _ hk => ⟨hk.1.1.1, ⟨hk.1.1.2.1, ⟨hk.1.1.2.2.1, ⟨hk.1.1.2.2.2.1, ⟨hk.1.1.2.2.2.2.1, ⟨hk.1.1.2.2.2.2.2, hk.1.2⟩⟩⟩⟩⟩⟩)⟩, ⟨by (with_reducible repeat (first | apply Kd.V_alloc | apply Kd.V_drewN | apply Kd.V_drew)); exact Kd.V_mono (Kd.V_far (p := ⟨gb235, 1, none⟩) (Kd.V_far (p := ⟨gb235, 0, none⟩) (Kd.V_mono HL234_1.out (fun k_ hk => (⟨hk, hk.2⟩ : _ ∧ k_ ≠ gb235))) (fun _ hk => hk.2) (.int .i64 ((rd_T26 y226 x39_1).f0))) (fun _ hk => hk.2) (.slice A234_1 ((rd_T26 y226 x39_1).f1).length c234_1)) (fun _ hk => ⟨hk.1.1.1.1, ⟨hk.1.1.1.2.1, ⟨hk.1.1.1.2.2.1, ⟨hk.1.1.1.2.2.2.1, ⟨hk.1.1.1.2.2.2.2.1, ⟨hk.1.1.1.2.2.2.2.2, hk.1.2⟩⟩⟩⟩⟩⟩)⟩, ⟨by (with_reducible repeat (first | apply Kd.V_alloc | apply Kd.V_drewN | apply Kd.V_drew)); exact Kd.V_mono (Kd.V_far (p := ⟨gb235, 1, none⟩) (Kd.V_far (p := ⟨gb235, 0, none⟩) (Kd.V_mono HO_214001.out (fun k_ hk => (⟨hk, hk.2⟩ : _ ∧ k_ ≠ gb235))) (fun _ hk => hk.2) (.int .i64 ((rd_T26 y226 x39_1).f0))) (fun _ hk => hk.2) (.slice A234_1 ((rd_T26 y226 x39_1).f1).length c234_1)) (fun _ hk => ⟨hk.1.1.1, ⟨hk.1.1.2.1, ⟨hk.1.1.2.2.1, ⟨hk.1.1.2.2.2.1, ⟨hk.1.1.2.2.2.2.1, ⟨hk.1.1.2.2.2.2.2.1, ⟨hk.1.1.2.2.2.2.2.2, hk.1.2⟩⟩⟩⟩⟩⟩⟩)⟩, ⟨by (with_reducible repeat (first | apply Kd.V_alloc | apply Kd.V_drewN | apply Kd.V_drew)); exact Kd.V_mono (Kd.V_far (p := ⟨gb235, 1, none⟩) (Kd.V_far (p := ⟨gb235, 0, none⟩) (Kd.V_mono HO_215001.out (fun k_ hk => (⟨hk, hk.2⟩ : _ ∧ k_ ≠ gb235))) (fun _ hk => hk.2) (.int .i64 ((rd_T26 y226 x39_1).f0))) (fun _ hk => hk.2) (.slice A234_1 ((rd_T26 y226 x39_1).f1).length c234_1)) (fun _ hk => ⟨hk.1.1.1, ⟨hk.1.1.2.1, ⟨hk.1.1.2.2.1, ⟨hk.1.1.2.2.2.1, ⟨hk.1.1.2.2.2.2.1, ⟨hk.1.1.2.2.2.2.2.1, ⟨hk.1.1.2.2.2.2.2.2, hk.1.2⟩⟩⟩⟩⟩⟩⟩)⟩, ⟨rm_ (Kd.R_far (p := ⟨gb235, 1, none⟩) (Kd.R_far (p := ⟨gb235, 0, none⟩) (Kd.R_types HO_226001.out BK235.out (by decide)) (fun _ hk => hk.2) (.int .i64 ((rd_T26 y226 x39_1).f0))) (fun _ hk => hk.2) (.slice A234_1 ((rd_T26 y226 x39_1).f1).length c234_1)) (fun _ hk => hk.1)⟩, ⟨bk_ BK213.out⟩, ⟨bk_ BK214.out⟩, ⟨bk_ BK215.out⟩, ⟨bk_ BK225.out⟩, ⟨by (with_reducible repeat (first | refine blk_drewN ?_ _ | refine blk_drew ?_ | refine blk_alloc ?_ _)); refine blk_put (cs := #[.int .i64 ((rd_T26 y226 x39_1).f0), .slice none 0 0]) ?_ 1 _ rfl; (with_reducible repeat (first | refine blk_drewN ?_ _ | refine blk_drew ?_ | refine blk_alloc ?_ _)); refine blk_put (cs := #[.int .i64 0, .slice none 0 0]) ?_ 0 _ rfl; (with_reducible repeat (first | refine blk_drewN ?_ _ | refine blk_drew ?_ | refine blk_alloc ?_ _)); exact BK235.out⟩, ⟨bb_ HB.out⟩⟩
         case round =>
          clear H'
          try clear c1
          try clear c2
          try clear p2
          try clear q2
          try clear hx2
          try clear c3
          try clear c4
          try clear c5
          try clear c20
          try clear c23
          try clear p23
          try clear q23
          try clear hx23
          try clear c38
          try clear c40
          try clear c45
          try clear c45b0
          try clear c46
          try clear c46b0
          try clear c47
          try clear c47b0
          try clear c49
          try clear c50
          try clear c51
          try clear c52
          try clear hcz39_0
          try clear hcz39_1
          try clear hcz41_0
          try clear hcz41_1
          try clear hcz53_0
          try clear hcz53_1
          try clear hfz39_0
          try clear hfz39_1
          try clear hfz41_0
          try clear hfz41_1
          try clear hfz53_0
          try clear hfz53_1
          try clear hx234_0
          try clear hx234_1
          try clear p2
          try clear p234
          try clear q234
          obtain ⟨x46_2, x214001_2, x215001_2, x226001_2, u214001, u215001, u226001, rfl, HA, HK2, HO_37, HL234_1, HO_214001, HO_215001, HO_226001, BK213, BK214, BK215, BK225, BK235, HB⟩ := hrel
          cases gk with
          | zero => exact absurd HA.out (by simp [impl_AddLaurent.l1])
          | succ k2 =>
           have H := HA.out
           clear HA
           simp only [impl_AddLaurent.l1] at H
           by_cases c54 : x46_2 < (((rd_T26 y226 x39_1).f1).length : Int)
           ·rw [if_pos c54] at H
            have c54b0 : decide (x46_2 < (((rd_T26 y226 x39_1).f1).length : Int)) = true := decide_eq_true c54
            clear c54
            by_cases c55 : 0 ≤ x46_2
            ·rw [if_pos c55] at H
             have c55b0 : decide (0 ≤ x46_2) = true := decide_eq_true c55
             clear c55
             by_cases c56 : x46_2 < (((rd_T26 y226 x39_1).f1).length : Int)
             ·rw [if_pos c56] at H
              have c56b0 : decide (x46_2 < (((rd_T26 y226 x39_1).f1).length : Int)) = true := decide_eq_true c56
              clear c56
              obtain ⟨ji57, hji57⟩ : ∃ j_ : Int, (wrap64 ((wrap64 (((rd_T26 y226 x39_1).f0) - ji5)) + x46_2)) = j_ := ⟨_, rfl⟩
              replace H : (if 0 ≤ (ji57) then (if (ji57) < (x226001_2.length : Int) then (impl_AddLaurent.l1 k2 ji5 y226 (y226.length : Int) x39_1 ((rd_T26 y226 x39_1).f1) (((rd_T26 y226 x39_1).f1).length : Int) (wrap64 (x46_2 + 1)) ji5 (x226001_2.set ((ji57) : Int).toNat (wrap64 ((rd x226001_2 (ji57)) + (rd ((rd_T26 y226 x39_1).f1) x46_2)))) ((rd_T26 y226 x39_1).f0) ((rd_T26 y226 x39_1).f1)) else (none)) else (none)) = some (r1, r2, r3) := by first | (rw [hji57] at H; exact H) | (simp only [hji57] at H ⊢; exact H)
              have hji57w : (IntKind.i64.wrap ((wrap64 (((rd_T26 y226 x39_1).f0) - ji5)) + x46_2)) = ji57 := (i64_w _).trans hji57
              by_cases c58 : 0 ≤ (ji57)
              ·rw [if_pos c58] at H
               have c58b0 : decide (0 ≤ (ji57)) = true := decide_eq_true c58
               clear c58
               by_cases c59 : (ji57) < (x226001_2.length : Int)
               ·rw [if_pos c59] at H
                have c59b0 : decide ((ji57) < (x226001_2.length : Int)) = true := decide_eq_true c59
                clear c59
                obtain ⟨y238, hy238⟩ : ∃ y_ : List Int, y_ = (x226001_2.set ((ji57) : Int).toNat (wrap64 ((rd x226001_2 (ji57)) + (rd ((rd_T26 y226 x39_1).f1) x46_2)))) := ⟨_, rfl⟩
                replace H : (impl_AddLaurent.l1 k2 ji5 y226 (y226.length : Int) x39_1 ((rd_T26 y226 x39_1).f1) (((rd_T26 y226 x39_1).f1).length : Int) (wrap64 (x46_2 + 1)) ji5 y238 ((rd_T26 y226 x39_1).f0) ((rd_T26 y226 x39_1).f1)) = some (r1, r2, r3) := by first | (rw [hy238]; with_reducible exact H) | (have H2_ := (Option.bind_some _ _).symm.trans H; rw [hy238]; with_reducible exact H2_) | (have H2_ := (Option.bind_some _ _).symm.trans H; with_reducible exact H2_) | with_reducible exact H | (rw [hy238]; exact H) | exact H
                have Ny238 := am_ hy238
                clear hy238
                have H' := am_ H
                clear H
                have p236 : 0 ≤ (x46_2 : Int) := of_decide_eq_true (by first | (with_reducible assumption) | assumption)
                have q236 : x46_2 < (((rd_T26 y226 x39_1).f1).length : Int) := of_decide_eq_true (by first | (with_reducible assumption) | assumption)
                obtain ⟨ad236, e236, hx236_0⟩ := Kd.at_int (Kd.V_reads' HL234_1.out).2.2 x46_2 p236 q236
                cases e236
                skip
                replace p236 := eq_true p236
                replace q236 := eq_true q236
                have hnb61 := NB225_213.out
                have hnc61 := NB213_225.out
                have hnb62 := NB225_214.out
                have hnc62 := NB214_225.out
                have hnb63 := NB225_215.out
                have hnc63 := NB215_225.out
                have hnb64 := NB225_235.out
                have hnc64 := NB235_225.out
                obtain ⟨hcz65_0, hcz65_1, hfz65_0, hfz65_1⟩ := bx2_ BK225
                have hnb66 := NB235_213.out
                have hnc66 := NB213_235.out
                have hnb67 := NB235_214.out
                have hnc67 := NB214_235.out
                have hnb68 := NB235_215.out
                have hnc68 := NB215_235.out
                obtain ⟨hcz69_0, hcz69_1, hfz69_0, hfz69_1⟩ := bx2_ BK235
                obtain ⟨Ao70, co70, eo70⟩ := Kd.R_slice HO_226001.out
                subst eo70
                have p237 : 0 ≤ ((ji57) : Int) := of_decide_eq_true (by first | (with_reducible assumption) | assumption)
                have q237 : (ji57) < (x226001_2.length : Int) := of_decide_eq_true (by first | (with_reducible assumption) | assumption)
                obtain ⟨ad237, e237, hx237_0⟩ := Kd.at_int (Kd.R_reads' HO_226001.out).2.2 (ji57) p237 q237
                cases e237
                replace p237 := eq_true p237
                replace q237 := eq_true q237
                have p60 : 0 ≤ ((ji57) : Int) := of_decide_eq_true (by first | (with_reducible assumption) | assumption)
                have q60 : ((ji57) : Int) < ((x226001_2.length : Int) : Int) := of_decide_eq_true (by first | (with_reducible assumption) | assumption)
                obtain ⟨go60, co60, eo60, gb60, gl60, cl60, HG60⟩ := Kd.R_form HO_226001.out (by omega)
                (first | cases eo60 | (injection eo60 with ea_ en_ ec_; (first | subst ea_ | (injection ea_ with ea_; subst ea_)); subst ec_; clear en_))
                have GB60 := am_ gb60
                have GG60 := am_ HG60
                clear gb60 gl60 HG60
                (first | simp only [add_plain] at hx237_0 | skip)
                obtain ⟨hx60_0, hf60_0⟩ := Kd.R_celln 0 HO_226001.out ((ji57) : Int) p60 q60
                replace p60 := eq_true p60
                replace q60 := eq_true q60
                have HP71 := Kd.R_putg HO_226001.out ((ji57) : Int) (wrap64 ((rd x226001_2 (ji57)) + (rd ((rd_T26 y226 x39_1).f1) x46_2)))
                go_wp2_with (first | ((with_reducible refine gate_store (t := 2) (p := 63) rfl ?_); refine store_event (t := 2) (p := 63) (v := ?vo_w72) (w1 := (wr.setCell ⟨go60, ((ji57) : Int).toNat, none⟩ (.int .i64 (wrap64 ((rd x226001_2 (ji57)) + (rd ((rd_T26 y226 x39_1).f1) x46_2)))))) ?hg ?ho ?hn ?hr ?_; (case ho => rfl); (case hg => rfl); (case hn => rfl); (case hr => first | (go_simp; done) | (go_simp; rfl)); intro w72 hw; have hg : wr.grownBy w72 (some go60) := (by rw [hw]; exact HP71.2); have hp_ : Kd.R (Kd.int .i64) 2 w72 w.heap.size (fun k_ => (w.heap.size ≤ k_)) (.slice (some ⟨go60, 0, none⟩) x226001_2.length co70) y238 := (by rw [hw, Ny238.out]; exact HP71.1); clear HP71; have n0_ := am_ (Kd.N_afterv (v := (.slice (some ⟨go60, 0, none⟩) x226001_2.length co70)) (v1 := (.slice (some ⟨go60, 0, none⟩) x226001_2.length co70)) (ok := (fun k_ => ((P0_1_ k_ ∨ P1_1_ k_) ∨ w.heap.size ≤ k_) ∧ k_ ≠ gb213 ∧ k_ ≠ gb214 ∧ k_ ≠ gb215 ∧ k_ ≠ gb225 ∧ k_ ≠ gb235)) (by (with_reducible repeat (first | apply Kd.N_alloc | apply Kd.N_drewN | apply Kd.N_drew)); exact Kd.N_mono HO_37.out (fun _ hk => ⟨⟨hk.1, ⟨hk.2.2.1, ⟨hk.2.2.2.1, ⟨hk.2.2.2.2.1, ⟨hk.2.2.2.2.2.1, hk.2.2.2.2.2.2⟩⟩⟩⟩⟩, hk.2.1⟩)) hg (.inl rfl)); have nl_0 := am_ (Kd.V_afterv (v := (.slice (some ⟨go60, 0, none⟩) x226001_2.length co70)) (v1 := (.slice (some ⟨go60, 0, none⟩) x226001_2.length co70)) (ok := (fun k_ => ((P0_1_ k_ ∨ P1_1_ k_) ∨ w.heap.size ≤ k_) ∧ k_ ≠ gb213 ∧ k_ ≠ gb214 ∧ k_ ≠ gb215 ∧ k_ ≠ gb225 ∧ k_ ≠ gb235)) (by (with_reducible repeat (first | apply Kd.V_alloc | apply Kd.V_drewN | apply Kd.V_drew)); exact Kd.V_mono HL234_1.out (fun _ hk => ⟨⟨hk.1, ⟨hk.2.2.1, ⟨hk.2.2.2.1, ⟨hk.2.2.2.2.1, ⟨hk.2.2.2.2.2.1, hk.2.2.2.2.2.2⟩⟩⟩⟩⟩, hk.2.1⟩)) hg (.inl rfl)); have n1_ := am_ (Kd.V_afterv (v := (.slice (some ⟨go60, 0, none⟩) x226001_2.length co70)) (v1 := (.slice (some ⟨go60, 0, none⟩) x226001_2.length co70)) (ok := (fun k_ => ((P0_1_ k_ ∨ P1_1_ k_) ∨ w.heap.size ≤ k_) ∧ some k_ ≠ (.slice (some ad234) y226.length co44 : Value).ownBlock ∧ k_ ≠ gb213 ∧ k_ ≠ gb214 ∧ k_ ≠ gb215 ∧ k_ ≠ gb225 ∧ k_ ≠ gb235)) (by (with_reducible repeat (first | apply Kd.V_alloc | apply Kd.V_drewN | apply Kd.V_drew)); exact Kd.V_mono HO_214001.out (fun _ hk => ⟨⟨hk.1, ⟨hk.2.1, ⟨hk.2.2.2.1, ⟨hk.2.2.2.2.1, ⟨hk.2.2.2.2.2.1, ⟨hk.2.2.2.2.2.2.1, hk.2.2.2.2.2.2.2⟩⟩⟩⟩⟩⟩, hk.2.2.1⟩)) hg (.inl rfl)); have n2_ := am_ (Kd.V_afterv (v := (.slice (some ⟨go60, 0, none⟩) x226001_2.length co70)) (v1 := (.slice (some ⟨go60, 0, none⟩) x226001_2.length co70)) (ok := (fun k_ => ((P0_1_ k_ ∨ P1_1_ k_) ∨ w.heap.size ≤ k_) ∧ some k_ ≠ (.slice (some ad234) y226.length co44 : Value).ownBlock ∧ k_ ≠ gb213 ∧ k_ ≠ gb214 ∧ k_ ≠ gb215 ∧ k_ ≠ gb225 ∧ k_ ≠ gb235)) (by (with_reducible repeat (first | apply Kd.V_alloc | apply Kd.V_drewN | apply Kd.V_drew)); exact Kd.V_mono HO_215001.out (fun _ hk => ⟨⟨hk.1, ⟨hk.2.1, ⟨hk.2.2.2.1, ⟨hk.2.2.2.2.1, ⟨hk.2.2.2.2.2.1, ⟨hk.2.2.2.2.2.2.1, hk.2.2.2.2.2.2.2⟩⟩⟩⟩⟩⟩, hk.2.2.1⟩)) hg (.inl rfl)); have n3_ := am_ (hp_); have n4_ := am_ (blk_grown (g := gb213) (o := .cells #[.int .i64 a0_0, u214001] 26 (0, 0)) (bk_ BK213.out) hg (Kd.R_ne HO_226001.out BK213.out (by decide))); have n5_ := am_ (blk_grown (g := gb214) (o := .cells #[.int .i64 a1_0, u215001] 26 (0, 0)) (bk_ BK214.out) hg (Kd.R_ne HO_226001.out BK214.out (by decide))); have n6_ := am_ (blk_grown (g := gb215) (o := .cells #[.int .i64 0, .slice none 0 0] 26 (0, 0)) (bk_ BK215.out) hg (Kd.R_ne HO_226001.out BK215.out (by decide))); have n7_ := am_ (blk_grown (g := gb225) (o := .cells #[.int .i64 ji5, .slice (some ⟨go60, 0, none⟩) x226001_2.length co70] 26 (0, 0)) (bk_ BK225.out) hg (Kd.R_ne HO_226001.out BK225.out (by decide))); have n8_ := am_ (blk_grown (g := gb235) (o := .cells #[.int .i64 ((rd_T26 y226 x39_1).f0), .slice (some ad236) ((rd_T26 y226 x39_1).f1).length c234_1] 26 (0, 0)) (bk_ BK235.out) hg (Kd.R_ne HO_226001.out BK235.out (by decide))); have n9_ := am_ ((by rw [hw]; exact below_set (HB.out) GB60.out : Below w.heap.size w w72)); clear HO_37 HL234_1 HO_214001 HO_215001 HO_226001 BK213 BK214 BK215 BK225 BK235 HB; revert n0_ nl_0 n1_ n2_ n3_ n4_ n5_ n6_ n7_ n8_ n9_; intro HO_37 HL234_1 HO_214001 HO_215001 HO_226001 BK213 BK214 BK215 BK225 BK235 HB; clear hg hw hp_))
                go_roundg k2
                case measure => have := HK1.out; have := HK2.out; omega
                case rel => exact ⟨(wrap64 (x46_2 + 1)), (x214001_2), (x215001_2), (y238), (u214001), (u215001), (.slice (some ⟨go60, 0, none⟩) x226001_2.length co70), (by first | rfl | (simp; done) | (simp [*]; done)), H', ⟨by have := HK1.out; have := HK2.out; omega⟩, ⟨by (with_reducible repeat (first | apply Kd.N_alloc | apply Kd.N_drewN | apply Kd.N_drew)); exact Kd.N_mono HO_37.out (fun _ hk => ⟨hk.1.1, ⟨hk.2, ⟨hk.1.2.1, ⟨hk.1.2.2.1, ⟨hk.1.2.2.2.1, ⟨hk.1.2.2.2.2.1, hk.1.2.2.2.2.2⟩⟩⟩⟩⟩⟩)⟩, ⟨by (with_reducible repeat (first | apply Kd.V_alloc | apply Kd.V_drewN | apply Kd.V_drew)); exact Kd.V_mono HL234_1.out (fun _ hk => ⟨hk.1.1, ⟨hk.2, ⟨hk.1.2.1, ⟨hk.1.2.2.1, ⟨hk.1.2.2.2.1, ⟨hk.1.2.2.2.2.1, hk.1.2.2.2.2.2⟩⟩⟩⟩⟩⟩)⟩, ⟨by (with_reducible repeat (first | apply Kd.V_alloc | apply Kd.V_drewN | apply Kd.V_drew)); exact Kd.V_mono HO_214001.out (fun _ hk => ⟨hk.1.1, ⟨hk.1.2.1, ⟨hk.2, ⟨hk.1.2.2.1, ⟨hk.1.2.2.2.1, ⟨hk.1.2.2.2.2.1, ⟨hk.1.2.2.2.2.2.1, hk.1.2.2.2.2.2.2⟩⟩⟩⟩⟩⟩⟩)⟩, ⟨by (with_reducible repeat (first | apply Kd.V_alloc | apply Kd.V_drewN | apply Kd.V_drew)); exact Kd.V_mono HO_215001.out (fun _ hk => ⟨hk.1.1, ⟨hk.1.2.1, ⟨hk.2, ⟨hk.1.2.2.1, ⟨hk.1.2.2.2.1, ⟨hk.1.2.2.2.2.1, ⟨hk.1.2.2.2.2.2.1, hk.1.2.2.2.2.2.2⟩⟩⟩⟩⟩⟩⟩)⟩, ⟨rk_ HO_226001.out⟩, ⟨bk_ BK213.out⟩, ⟨bk_ BK214.out⟩, ⟨bk_ BK215.out⟩, ⟨bk_ BK225.out⟩, ⟨bk_ BK235.out⟩, ⟨bb_ HB.out⟩⟩
               ·rw [if_neg c59] at H
                exact absurd H (by simp)
              ·rw [if_neg c58] at H
               exact absurd H (by simp)
             ·rw [if_neg c56] at H
              exact absurd H (by simp)
            ·rw [if_neg c55] at H
             exact absurd H (by simp)
           ·rw [if_neg c54] at H
            have c54b0 : decide (x46_2 < (((rd_T26 y226 x39_1).f1).length : Int)) = false := decide_eq_false c54
            clear c54
            have H' := am_ H
            clear H
            go_wp2
            go_roundg k2
            case measure => have := HK1.out; have := HK2.out; omega
            case rel => exact ⟨(wrap64 (x39_1 + 1)), (x214001_2), (x215001_2), (x226001_2), (u214001), (u215001), (u226001), (by first | rfl | (simp; done) | (simp [*]; done)), H', ⟨by have := HK1.out; have := HK2.out; omega⟩, ⟨by (with_reducible repeat (first | apply Kd.N_alloc | apply Kd.N_drewN | apply Kd.N_drew)); exact Kd.N_mono HO_37.out (fun _ hk => ⟨hk.1, ⟨hk.2.1, ⟨hk.2.2.1, ⟨hk.2.2.2.1, ⟨hk.2.2.2.2.1, hk.2.2.2.2.2.1⟩⟩⟩⟩⟩)⟩, ⟨by (with_reducible repeat (first | apply Kd.V_alloc | apply Kd.V_drewN | apply Kd.V_drew)); exact Kd.V_mono HO_214001.out (fun _ hk => ⟨hk.1, ⟨hk.2.1, ⟨hk.2.2.1, ⟨hk.2.2.2.1, ⟨hk.2.2.2.2.1, ⟨hk.2.2.2.2.2.1, hk.2.2.2.2.2.2.1⟩⟩⟩⟩⟩⟩)⟩, ⟨by (with_reducible repeat (first | apply Kd.V_alloc | apply Kd.V_drewN | apply Kd.V_drew)); exact Kd.V_mono HO_215001.out (fun _ hk => ⟨hk.1, ⟨hk.2.1, ⟨hk.2.2.1, ⟨hk.2.2.2.1, ⟨hk.2.2.2.2.1, ⟨hk.2.2.2.2.2.1, hk.2.2.2.2.2.2.1⟩⟩⟩⟩⟩⟩)⟩, ⟨rk_ HO_226001.out⟩, ⟨bk_ BK213.out⟩, ⟨bk_ BK214.out⟩, ⟨bk_ BK215.out⟩, ⟨bk_ BK225.out⟩, ⟨bb_ HB.out⟩⟩
        ·rw [if_neg c47] at H
         exact absurd H (by simp)
       ·rw [if_neg c46] at H
        exact absurd H (by simp)
      ·rw [if_neg c45] at H
       have c45b0 : decide (x39_1 < (y226.length : Int)) = false := decide_eq_false c45
       clear c45
       replace H := Option.bind_eq_some_iff.mp H
       obtain ⟨⟨t229, t230, t233⟩, A730, H⟩ := H
       replace H : (some (t229, t230, t233)) = some (r1, r2, r3) := H
       have A73 := am_ A730
       clear A730
       simp only [Option.some.injEq, Prod.mk.injEq] at H
       obtain ⟨rfl, rfl, rfl⟩ := H
       have hnb74 := NB225_213.out
       have hnc74 := NB213_225.out
       have hnb75 := NB225_214.out
       have hnc75 := NB214_225.out
       have hnb76 := NB225_215.out
       have hnc76 := NB215_225.out
       obtain ⟨hcz77_0, hcz77_1, hfz77_0, hfz77_1⟩ := bx2_ BK225
       obtain ⟨Ao78, co78, eo78⟩ := Kd.R_slice HO_226001.out
       subst eo78
       go_wp2_with (first | ((with_reducible refine gate_callee (f := 21) rfl ?_); refine goesL_ (some 67) rfl rfl Try.func21 (by kernel_rfl) rfl #[.agg #[.int .i64 ji5, .slice Ao78 x226001_1.length co78]] rfl (by (try simp only [List.map_toArray, List.map_cons, List.map_nil]); first | done | (simp only [hji5]; rfl) | rfl | (simp only [List.length_drop, List.length_take]; rfl)) ?_; (with_reducible refine (impl_valid.calls k1 ji5 _ _ x226001_1 t229 t230 t233 _ ?side1 ?side2 A73.out).mono ?_); (case side1 => repeat (first | exact (Kd.R_reads' HO_226001.out).2.2 | (with_reducible refine Kd.C_alloc ?_ _) | (with_reducible refine Kd.C_drewN ?_ _) | (with_reducible refine Kd.C_drew ?_))); (case side2 => exact (Kd.R_reads' HO_226001.out).2.1); rintro e w79 ⟨v231, rfl, ho0, hb⟩; refine ⟨_, rfl, ?_⟩; have n0_ := am_ (Kd.N_elder' (by (with_reducible repeat (first | apply Kd.N_alloc | apply Kd.N_drewN | apply Kd.N_drew)); exact HO_37.out) (Kd.R_base ho0) hb); have n1_ := am_ (Kd.V_elder' (by (with_reducible repeat (first | apply Kd.V_alloc | apply Kd.V_drewN | apply Kd.V_drew)); exact HO_214001.out) (Kd.R_base ho0) hb); have n2_ := am_ (Kd.V_elder' (by (with_reducible repeat (first | apply Kd.V_alloc | apply Kd.V_drewN | apply Kd.V_drew)); exact HO_215001.out) (Kd.R_base ho0) hb); have n3_ := am_ (Kd.R_elder' (rk_ HO_226001.out) (Kd.R_base ho0) hb); have n4_ := am_ (Kd.R_lower (Kd.R_new' (Kd.R_newM (M := fun k_ => (w.heap.size ≤ k_)) ho0 (below_size (bb_ HB.out)) (fun k_ h_ => h_)) (Kd.R_lt (rk_ HO_226001.out))) (below_size (bb_ HB.out))); have n5_ := am_ (bw_ BK213 hb); have n6_ := am_ (bw_ BK214 hb); have n7_ := am_ (bw_ BK215 hb); have n8_ := am_ (bw_ BK225 hb); have n9_ := am_ (below_step (bb_ HB.out) hb); clear HO_37 HO_214001 HO_215001 HO_226001 BK213 BK214 BK215 BK225 HB; revert n0_ n1_ n2_ n3_ n4_ n5_ n6_ n7_ n8_ n9_; intro HO_37 HO_214001 HO_215001 HO_226001 HO232 BK213 BK214 BK215 BK225 HB; (try clear hb); (try clear hb2); (try clear hk); (try clear hi); (try clear ho0); have hnb80 := NB215_213.out; have hnc80 := NB213_215.out; have hnb81 := NB215_214.out; have hnc81 := NB214_215.out; obtain ⟨hcz82_0, hcz82_1, hfz82_0, hfz82_1⟩ := bx2_ BK215; obtain ⟨Ao83, co83, eo83⟩ := Kd.R_slice HO232.out; subst eo83))
       refine bodyPost_ret (results_ct rfl _ _ gb215 26 #[.int .i64 t229, .slice Ao83 t230.length co83] (0, 0) _ rfl (by (with_reducible repeat (first | refine blk_drewN ?_ _ | refine blk_drew ?_ | refine blk_alloc ?_ _)); refine blk_put (cs := #[.int .i64 t229, .slice none 0 0]) ?_ 1 _ rfl; (with_reducible repeat (first | refine blk_drewN ?_ _ | refine blk_drew ?_ | refine blk_alloc ?_ _)); refine blk_put (cs := #[.int .i64 0, .slice none 0 0]) ?_ 0 _ rfl; (with_reducible repeat (first | refine blk_drewN ?_ _ | refine blk_drew ?_ | refine blk_alloc ?_ _)); exact BK215.out) Try.underlying26 rfl (by kernel_rfl)) rfl ?_
       exact ⟨_, by first | rfl | (simp [errW_none, errW_some] <;> rfl) | (simp only [← hji5, ← hji8, ← hji9, ← hji10]; first | rfl | (simp [errW_none, errW_some] <;> rfl)) | (simp [*, errW_none, errW_some] <;> rfl), rm_ (Kd.R_far (p := ⟨gb215, 1, none⟩) (Kd.R_far (p := ⟨gb215, 0, none⟩) (Kd.R_types HO232.out BK215.out (by decide)) (fun _ hk => hk.2) (.int .i64 t229)) (fun _ hk => hk.2) (.slice Ao83 t230.length co83)) (fun _ hk => hk.1.1.1), bb_ HB.out⟩
   ·rw [if_neg c12] at H
    exact absurd H (by simp)
  ·rw [if_neg c11] at H
   exact absurd H (by simp)
 ·replace c4 := Bool.eq_false_iff.mpr c4
  subst c4
  have H1 : (some (0, ([] : List Int), 1)) = some (r1, r2, r3) := by rw [if_neg (show ¬ (false = true) by decide)] at H; exact H
  clear H
  have H := H1
  clear H1
  simp only [Option.some.injEq, Prod.mk.injEq] at H
  obtain ⟨rfl, rfl, rfl⟩ := H
  go_enter Try.func8, Try.ntmps8
  go_wp2_with (first | ((with_reducible refine gate_dst (N := 2) rfl ?_); refine box_event ?hg (N := 2) ?hd (cs := #[.int .i64 a0_0, .slice A0_1 l0_1.length c0_1]) (t := 26) ?hr ?_; (case hd => rfl); (case hg => rfl); (case hr => first | (go_simp; done) | (go_simp; rfl)); intro gb213 hg w84 hbox hb; have n0_ := am_ (Kd.V_below (Kd.V_elderB (by (with_reducible repeat (first | apply Kd.V_alloc | apply Kd.V_drewN | apply Kd.V_drew)); exact HO0_1.out) gb213 (Nat.le_of_eq hg.symm)) hb); have n1_ := am_ (Kd.V_below (Kd.V_elderB (by (with_reducible repeat (first | apply Kd.V_alloc | apply Kd.V_drewN | apply Kd.V_drew)); exact HO1_1.out) gb213 (Nat.le_of_eq hg.symm)) hb); have n2_ := am_ (below_step (bb_ HB.out) hb); have n3_ := am_ (hbox); have n4_ := am_ ((by rw [hg]; exact (below_size (bb_ HB.out)) : w.heap.size ≤ gb213)); have n5_ := am_ ((by rw [hg]; exact (below_size (bb_ HB.out)) : w.heap.size ≤ gb213)); clear HO0_1 HO1_1 HB; revert n0_ n1_ n2_ n3_ n4_ n5_; intro HO0_1 HO1_1 HB BK213 GW213 GE213; clear hb hbox hg) | ((with_reducible refine gate_dst (N := 3) rfl ?_); refine box_event ?hg (N := 3) ?hd (cs := #[.int .i64 a1_0, .slice A1_1 l1_1.length c1_1]) (t := 26) ?hr ?_; (case hd => rfl); (case hg => rfl); (case hr => first | (go_simp; done) | (go_simp; rfl)); intro gb214 hg w85 hbox hb; have n0_ := am_ (Kd.V_below (Kd.V_elderB (by (with_reducible repeat (first | apply Kd.V_alloc | apply Kd.V_drewN | apply Kd.V_drew)); exact HO0_1.out) gb214 (Nat.le_of_eq hg.symm)) hb); have n1_ := am_ (Kd.V_below (Kd.V_elderB (by (with_reducible repeat (first | apply Kd.V_alloc | apply Kd.V_drewN | apply Kd.V_drew)); exact HO1_1.out) gb214 (Nat.le_of_eq hg.symm)) hb); have n2_ := am_ (bw_ BK213 hb); have n3_ := am_ (below_step (bb_ HB.out) hb); have n4_ := am_ (hbox); have n5_ := am_ ((by rw [hg]; exact (below_size (bb_ HB.out)) : w.heap.size ≤ gb214)); have n6_ := am_ ((by rw [hg]; exact (below_size (bb_ HB.out)) : w.heap.size ≤ gb214)); have n7_ := am_ (nl_ BK213 hg); have n8_ := am_ (ng_ BK213 hg); clear HO0_1 HO1_1 BK213 HB; revert n0_ n1_ n2_ n3_ n4_ n5_ n6_ n7_ n8_; intro HO0_1 HO1_1 BK213 HB BK214 GW214 GE214 NB213_214 NB214_213; clear hb hbox hg) | ((with_reducible refine gate_dst (N := 4) rfl ?_); refine box_event ?hg (N := 4) ?hd (cs := #[.int .i64 0, .slice none 0 0]) (t := 26) ?hr ?_; (case hd => rfl); (case hg => rfl); (case hr => first | (go_simp; done) | (go_simp; rfl)); intro gb215 hg w86 hbox hb; have n0_ := am_ (Kd.V_below (Kd.V_elderB (by (with_reducible repeat (first | apply Kd.V_alloc | apply Kd.V_drewN | apply Kd.V_drew)); exact HO0_1.out) gb215 (Nat.le_of_eq hg.symm)) hb); have n1_ := am_ (Kd.V_below (Kd.V_elderB (by (with_reducible repeat (first | apply Kd.V_alloc | apply Kd.V_drewN | apply Kd.V_drew)); exact HO1_1.out) gb215 (Nat.le_of_eq hg.symm)) hb); have n2_ := am_ (bw_ BK213 hb); have n3_ := am_ (bw_ BK214 hb); have n4_ := am_ (below_step (bb_ HB.out) hb); have n5_ := am_ (hbox); have n6_ := am_ ((by rw [hg]; exact (below_size (bb_ HB.out)) : w.heap.size ≤ gb215)); have n7_ := am_ ((by rw [hg]; exact (below_size (bb_ HB.out)) : w.heap.size ≤ gb215)); have n8_ := am_ (nl_ BK213 hg); have n9_ := am_ (ng_ BK213 hg); have n10_ := am_ (nl_ BK214 hg); have n11_ := am_ (ng_ BK214 hg); clear HO0_1 HO1_1 BK213 BK214 HB; revert n0_ n1_ n2_ n3_ n4_ n5_ n6_ n7_ n8_ n9_ n10_ n11_; intro HO0_1 HO1_1 BK213 BK214 HB BK215 GW215 GE215 NB213_215 NB215_213 NB214_215 NB215_214; clear hb hbox hg; have hnb87 := NB213_214.out; have hnc87 := NB214_213.out; have hnb88 := NB213_215.out; have hnc88 := NB215_213.out; obtain ⟨hcz89_0, hcz89_1, hfz89_0, hfz89_1⟩ := bx2_ BK213; have hnb90 := NB214_215.out; have hnc90 := NB215_214.out; obtain ⟨hcz91_0, hcz91_1, hfz91_0, hfz91_1⟩ := bx2_ BK214) | ((with_reducible refine gate_dst (N := 14) rfl ?_); refine Kd.N_lit k26 _ 26 ?hg (N' := 14) ?hd (xs := ([(⟨a0_0, l0_1⟩ : S26), (⟨a1_0, l1_1⟩ : S26)] : List (S26))) (inner := [.int .i64 a0_0, .slice A0_1 l0_1.length c0_1, .int .i64 a1_0, .slice A1_1 l1_1.length c1_1]) (ok := (fun k_ => ((P0_1_ k_ ∨ P1_1_ k_) ∨ w.heap.size ≤ k_) ∧ k_ ≠ gb213 ∧ k_ ≠ gb214 ∧ k_ ≠ gb215)) (okp := (fun k_ => ((P0_1_ k_ ∨ P1_1_ k_) ∨ w.heap.size ≤ k_) ∧ k_ ≠ gb213 ∧ k_ ≠ gb214 ∧ k_ ≠ gb215)) ?hr ?hp (fun _ hk => hk) ((show ∀ k_, w86.heap.size ≤ k_ → (fun k_ => ((P0_1_ k_ ∨ P1_1_ k_) ∨ w.heap.size ≤ k_) ∧ k_ ≠ gb213 ∧ k_ ≠ gb214 ∧ k_ ≠ gb215) k_ from fun k_ hk => ⟨(.inr (Nat.le_trans (below_size (bb_ HB.out)) hk)), Kd.freshB (g := gb213) (o := .cells #[.int .i64 a0_0, .slice A0_1 l0_1.length c0_1] 26 (0, 0)) (bk_ BK213.out) k_ hk, Kd.freshB (g := gb214) (o := .cells #[.int .i64 a1_0, .slice A1_1 l1_1.length c1_1] 26 (0, 0)) (bk_ BK214.out) k_ hk, Kd.freshB (g := gb215) (o := .cells #[.int .i64 0, .slice none 0 0] 26 (0, 0)) (bk_ BK215.out) k_ hk⟩) _ (Nat.le_refl _)) (Below.refl _ _) (Nat.le_refl _) (by simp) ?_; (case hd => rfl); (case hg => rfl); (case hr => first | (go_simp; done) | (go_simp; rfl)); (case hp => exact (Reps.c2 (show Kd.FK k26 _ _ (⟨a0_0, l0_1⟩ : S26) [.int .i64 a0_0, .slice A0_1 l0_1.length c0_1] from (k26_mkF _ _ (⟨a0_0, l0_1⟩ : S26) (Kd.V_reads' (Kd.V_mono (ok' := (fun k_ => ((P0_1_ k_ ∨ P1_1_ k_) ∨ w.heap.size ≤ k_) ∧ k_ ≠ gb213 ∧ k_ ≠ gb214 ∧ k_ ≠ gb215)) (HO0_1.out) (fun k_ hk => ⟨hk.1.1.1, ⟨hk.1.1.2, ⟨hk.1.2, hk.2⟩⟩⟩))).2.1 (Kd.V_F (Kd.V_mono (ok' := (fun k_ => ((P0_1_ k_ ∨ P1_1_ k_) ∨ w.heap.size ≤ k_) ∧ k_ ≠ gb213 ∧ k_ ≠ gb214 ∧ k_ ≠ gb215)) (HO0_1.out) (fun k_ hk => ⟨hk.1.1.1, ⟨hk.1.1.2, ⟨hk.1.2, hk.2⟩⟩⟩))))) (Reps.c2 (show Kd.FK k26 _ _ (⟨a1_0, l1_1⟩ : S26) [.int .i64 a1_0, .slice A1_1 l1_1.length c1_1] from (k26_mkF _ _ (⟨a1_0, l1_1⟩ : S26) (Kd.V_reads' (Kd.V_mono (ok' := (fun k_ => ((P0_1_ k_ ∨ P1_1_ k_) ∨ w.heap.size ≤ k_) ∧ k_ ≠ gb213 ∧ k_ ≠ gb214 ∧ k_ ≠ gb215)) (HO1_1.out) (fun k_ hk => ⟨hk.1.1.1, ⟨hk.1.1.2, ⟨hk.1.2, hk.2⟩⟩⟩))).2.1 (Kd.V_F (Kd.V_mono (ok' := (fun k_ => ((P0_1_ k_ ∨ P1_1_ k_) ∨ w.heap.size ≤ k_) ∧ k_ ≠ gb213 ∧ k_ ≠ gb214 ∧ k_ ≠ gb215)) (HO1_1.out) (fun k_ hk => ⟨hk.1.1.1, ⟨hk.1.1.2, ⟨hk.1.2, hk.2⟩⟩⟩))))) (Reps.none _ _)))); intro v217 w92 ho93 hb hg_ hnew_; clear hg_ hnew_; (first | rw [← Ny216.out] at ho93 | (simp only [Int.reduceToNat] at ho93; rw [← Ny216.out] at ho93)); have n0_ := am_ (Kd.V_elder' (by (with_reducible repeat (first | apply Kd.V_alloc | apply Kd.V_drewN | apply Kd.V_drew)); exact HO0_1.out) (Kd.N_base ho93) hb); have n1_ := am_ (Kd.V_elder' (by (with_reducible repeat (first | apply Kd.V_alloc | apply Kd.V_drewN | apply Kd.V_drew)); exact HO1_1.out) (Kd.N_base ho93) hb); have n2_ := am_ (Kd.N_lower ho93 (below_size (bb_ HB.out))); have n3_ := am_ (bw_ BK213 hb); have n4_ := am_ (bw_ BK214 hb); have n5_ := am_ (bw_ BK215 hb); have n6_ := am_ (below_step (bb_ HB.out) hb); clear HO0_1 HO1_1 BK213 BK214 BK215 HB; revert n0_ n1_ n2_ n3_ n4_ n5_ n6_; intro HO0_1 HO1_1 HO218 BK213 BK214 BK215 HB; clear hb ho93; obtain ⟨Ao94, co94, eo94⟩ := Kd.N_slice HO218.out; subst eo94) | ((with_reducible refine gate_callee (f := 19) rfl ?_); refine goesL_ (some 15) rfl rfl Try.func19 (by kernel_rfl) rfl #[.slice Ao94 y216.length co94] rfl lm_ ?_; (with_reducible refine (impl_areLaurents.calls _ _ y216 false _ ?side1 ?side2 A3.out).mono ?_); (case side1 => repeat (first | exact (Kd.N_reads' HO218.out).2.2 | (with_reducible refine Kd.C_alloc ?_ _) | (with_reducible refine Kd.C_drewN ?_ _) | (with_reducible refine Kd.C_drew ?_))); (case side2 => exact (Kd.N_reads' HO218.out).2.1); rintro e w95 ⟨rfl, hb⟩; refine ⟨_, rfl, ?_⟩; have n0_ := am_ (Kd.V_below (by (with_reducible repeat (first | apply Kd.V_alloc | apply Kd.V_drewN | apply Kd.V_drew)); exact HO0_1.out) hb); have n1_ := am_ (Kd.V_below (by (with_reducible repeat (first | apply Kd.V_alloc | apply Kd.V_drewN | apply Kd.V_drew)); exact HO1_1.out) hb); have n2_ := am_ (Kd.N_below (by (with_reducible repeat (first | apply Kd.N_alloc | apply Kd.N_drewN | apply Kd.N_drew)); exact HO218.out) hb); have n3_ := am_ (bw_ BK213 hb); have n4_ := am_ (bw_ BK214 hb); have n5_ := am_ (bw_ BK215 hb); have n6_ := am_ (below_step (bb_ HB.out) hb); clear HO0_1 HO1_1 HO218 BK213 BK214 BK215 HB; revert n0_ n1_ n2_ n3_ n4_ n5_ n6_; intro HO0_1 HO1_1 HO218 BK213 BK214 BK215 HB; (try clear hb); (try clear hb2); (try clear hk); (try clear hi); obtain ⟨hcz96_0, hcz96_1, hfz96_0, hfz96_1⟩ := bx2_ BK215))
  refine bodyPost_ret (results_ct rfl _ _ gb215 26 #[.int .i64 0, .slice none 0 0] (0, 0) _ rfl (by (with_reducible repeat (first | refine blk_drewN ?_ _ | refine blk_drew ?_ | refine blk_alloc ?_ _)); refine blk_put (cs := #[.int .i64 0, .slice none 0 0]) ?_ 1 _ rfl; (with_reducible repeat (first | refine blk_drewN ?_ _ | refine blk_drew ?_ | refine blk_alloc ?_ _)); refine blk_put (cs := #[.int .i64 0, .slice none 0 0]) ?_ 0 _ rfl; (with_reducible repeat (first | refine blk_drewN ?_ _ | refine blk_drew ?_ | refine blk_alloc ?_ _)); exact BK215.out) Try.underlying26 rfl (by kernel_rfl)) rfl ?_
  exact ⟨_, by first | rfl | (simp [errW_none, errW_some] <;> rfl) | (simp [*, errW_none, errW_some] <;> rfl), by first | exact Kd.R_nil _ _ _ _ _ | exact Kd.N_nil _ _ _ _ _ | exact Kd.V_nil _ _ _ _ _ | exact Kd.Q_nil _ _ _ _ _ | exact Kd.S_nil _ _ _ _ _, bb_ HB.out⟩

end Go.Proofs.Ytpkocglndlmhkaa.PFnExactAddLaurent
