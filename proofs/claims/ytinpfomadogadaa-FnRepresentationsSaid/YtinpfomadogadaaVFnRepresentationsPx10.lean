/- Written by this session's program out of the kit's print and this session's contracts. -/
import Derived.Test.YtinpfomadogadaaVFnRepresentationsPx0
import Derived.Test.YtinpfomadogadaaVFnRepresentationsPx4
import Derived.Test.YtinpfomadogadaaVFnRepresentationsPx5
import Derived.Test.YtinpfomadogadaaVFnRepresentationsPx8
import Derived.Test.YtinpfomadogadaaVFnRepresentationsPx9
namespace Go.Proofs.Ytinpfomadogadaa.PFnRepresentations
open Go.RowKit Go.Proofs.YtinpfomadogadaaW.PrintWords Go.Proofs.YtinpfomadogadaaW.PrintLast Go.Proofs.YtinpfomadogadaaW.PrintMore
attribute [local go_sem] max2_int min2_int max_two min_two max_three min_three max_four min_four   -- for this text's walks alone
set_option linter.unusedVariables false
set_option linter.unusedSimpArgs false

/-! ### laws_FnRepresentations: function 5 -/
mutual
def laws_FnRepresentations.j0 : Nat → Int → Int → List (List Int) → Bool → Int → List (List Int) → Option (Bool)
  | 0, _, _, _, _, _, _ => none
  | k + 1, x5, x10, x11, x80, x295000, x295001 => if x80 = true then (some false) else (if x10 = 0 then (some true) else ((impl_RepresentationAt.f k x295000 x295001 x5 (wrap64 (x10 - 1))).bind fun bt313 => (laws_FnRepresentations.l0 k x11 bt313.1 bt313.2 0)))
def laws_FnRepresentations.l0 : Nat → List (List Int) → List (List Int) → Int → Int → Option (Bool)
  | 0, _, _, _, _ => none
  | k + 1, x11, x15, x16, x17 => if x17 < (x11.length : Int) then (laws_FnRepresentations.j2 k x11 x15 x16 x17 (decide (x17 < (x15.length : Int)))) else (laws_FnRepresentations.j2 k x11 x15 x16 x17 false)
def laws_FnRepresentations.j2 : Nat → List (List Int) → List (List Int) → Int → Int → Bool → Option (Bool)
  | 0, _, _, _, _, _ => none
  | k + 1, x11, x15, x16, x17, x100 => if x100 = true then (laws_FnRepresentations.l1 k x11 x15 x16 x17 0) else (some false)
def laws_FnRepresentations.l1 : Nat → List (List Int) → List (List Int) → Int → Int → Int → Option (Bool)
  | 0, _, _, _, _, _ => none
  | k + 1, x11, x15, x16, x17, x18 => if 0 ≤ x17 then (if x17 < (x11.length : Int) then (if x18 < ((rd_L1 x11 x17).length : Int) then (if x17 < (x15.length : Int) then (laws_FnRepresentations.j4 k x11 x15 x16 x17 x18 (decide (x18 < ((rd_L1 x15 x17).length : Int)))) else (none)) else (laws_FnRepresentations.j4 k x11 x15 x16 x17 x18 false)) else (none)) else (none)
def laws_FnRepresentations.j4 : Nat → List (List Int) → List (List Int) → Int → Int → Int → Bool → Option (Bool)
  | 0, _, _, _, _, _, _ => none
  | k + 1, x11, x15, x16, x17, x18, x118 => if x118 = true then (if 0 ≤ x17 then (if x17 < (x11.length : Int) then (if 0 ≤ x18 then (if x18 < ((rd_L1 x11 x17).length : Int) then (if x17 < (x15.length : Int) then (if x18 < ((rd_L1 x15 x17).length : Int) then (if (rd (rd_L1 x11 x17) x18) = (rd (rd_L1 x15 x17) x18) then (laws_FnRepresentations.l1 k x11 x15 x16 x17 (wrap64 (x18 + 1))) else (if x16 = 0 then (some (decide ((rd (rd_L1 x15 x17) x18) < (rd (rd_L1 x11 x17) x18)))) else (some false))) else (none)) else (none)) else (none)) else (none)) else (none)) else (none)) else (laws_FnRepresentations.l0 k x11 x15 x16 (wrap64 (x17 + 1)))
end
def laws_FnRepresentations.f (k : Nat) (l0 : List Int) : Option (Bool) := (laws_big.f l0).bind fun t284 => (if t284 = true then (some true) else ((laws_roll.f k l0 7003).bind fun bt285 => ((spec_DrawRepresentationCount.f k l0).bind fun bt289 => ((impl_RepresentationCount.f k bt289.1 bt289.2.1 bt289.2.2).bind fun bt295 => (if bt295.2 = 0 then (if bt295.1 < 1 then (some false) else ((laws_dice_below.f bt285.1 bt285.2.1 bt285.2.2 bt295.1).bind fun bt301 => ((impl_RepresentationAt.f k bt289.1 bt289.2.1 bt289.2.2 bt301.1).bind fun bt304 => ((impl_RepresentationAt.f k bt289.1 bt289.2.1 bt289.2.2 bt295.1).bind fun bt308 => (if bt304.2 = 0 then (if bt308.2 = 4 then ((impl_IsRepresentation.f k bt289.1 bt289.2.1 bt289.2.2 bt304.1).bind fun t312 => (laws_FnRepresentations.j0 k bt289.2.2 bt301.1 bt304.1 (!t312) bt289.1 bt289.2.1)) else (laws_FnRepresentations.j0 k bt289.2.2 bt301.1 bt304.1 true bt289.1 bt289.2.1)) else (laws_FnRepresentations.j0 k bt289.2.2 bt301.1 bt304.1 true bt289.1 bt289.2.1)))))) else ((impl_RepresentationAt.f k bt289.1 bt289.2.1 bt289.2.2 0).bind fun bt297 => (if bt295.1 = 0 then (some (bt297.2 == bt295.2)) else (some false))))))))
theorem laws_FnRepresentations.mono_l : ∀ k, (∀ y0 y1 y2 y3 y4 y5, LeO (laws_FnRepresentations.j0 k y0 y1 y2 y3 y4 y5) (laws_FnRepresentations.j0 (k + 1) y0 y1 y2 y3 y4 y5)) ∧ (∀ y0 y1 y2 y3, LeO (laws_FnRepresentations.l0 k y0 y1 y2 y3) (laws_FnRepresentations.l0 (k + 1) y0 y1 y2 y3)) ∧ (∀ y0 y1 y2 y3 y4, LeO (laws_FnRepresentations.j2 k y0 y1 y2 y3 y4) (laws_FnRepresentations.j2 (k + 1) y0 y1 y2 y3 y4)) ∧ (∀ y0 y1 y2 y3 y4, LeO (laws_FnRepresentations.l1 k y0 y1 y2 y3 y4) (laws_FnRepresentations.l1 (k + 1) y0 y1 y2 y3 y4)) ∧ (∀ y0 y1 y2 y3 y4 y5, LeO (laws_FnRepresentations.j4 k y0 y1 y2 y3 y4 y5) (laws_FnRepresentations.j4 (k + 1) y0 y1 y2 y3 y4 y5))
  | 0 => ⟨fun _ _ _ _ _ _ r h => by simp [laws_FnRepresentations.j0] at h, fun _ _ _ _ r h => by simp [laws_FnRepresentations.l0] at h, fun _ _ _ _ _ r h => by simp [laws_FnRepresentations.j2] at h, fun _ _ _ _ _ r h => by simp [laws_FnRepresentations.l1] at h, fun _ _ _ _ _ _ r h => by simp [laws_FnRepresentations.j4] at h⟩
  | k + 1 => by
    obtain ⟨ih0, ih1, ih2, ih3, ih4⟩ := laws_FnRepresentations.mono_l k
    refine ⟨?_, ?_, ?_, ?_, ?_⟩
    · intro y0 y1 y2 y3 y4 y5
      unfold laws_FnRepresentations.j0
      repeat' first
      | (with_reducible exact ih0 _ _ _ _ _ _)
      | (with_reducible exact ih1 _ _ _ _)
      | (with_reducible exact ih2 _ _ _ _ _)
      | (with_reducible exact ih3 _ _ _ _ _)
      | (with_reducible exact ih4 _ _ _ _ _ _)
      | (with_reducible exact impl_IsRepresentation.mono _ _ _ _ _)
      | (with_reducible exact impl_RepresentationAt.mono _ _ _ _ _)
      | (with_reducible exact impl_RepresentationCount.mono _ _ _ _)
      | (with_reducible exact laws_roll.mono _ _ _)
      | (with_reducible exact spec_DrawRepresentationCount.mono _ _)
      | (with_reducible exact LeO.refl _)
      | (with_reducible exact LeO.none _)
      | (with_reducible refine LeO.ite ?_ ?_)
      | (with_reducible refine LeO.bind ?_ (fun _ => ?_))
      | exact ih0 _ _ _ _ _ _
      | exact ih1 _ _ _ _
      | exact ih2 _ _ _ _ _
      | exact ih3 _ _ _ _ _
      | exact ih4 _ _ _ _ _ _
      | exact impl_IsRepresentation.mono _ _ _ _ _
      | exact impl_RepresentationAt.mono _ _ _ _ _
      | exact impl_RepresentationCount.mono _ _ _ _
      | exact laws_roll.mono _ _ _
      | exact spec_DrawRepresentationCount.mono _ _
      | exact LeO.none _
      | refine LeO.ite ?_ ?_
      | refine LeO.bind ?_ (fun _ => ?_)
    · intro y0 y1 y2 y3
      unfold laws_FnRepresentations.l0
      repeat' first
      | (with_reducible exact ih0 _ _ _ _ _ _)
      | (with_reducible exact ih1 _ _ _ _)
      | (with_reducible exact ih2 _ _ _ _ _)
      | (with_reducible exact ih3 _ _ _ _ _)
      | (with_reducible exact ih4 _ _ _ _ _ _)
      | (with_reducible exact impl_IsRepresentation.mono _ _ _ _ _)
      | (with_reducible exact impl_RepresentationAt.mono _ _ _ _ _)
      | (with_reducible exact impl_RepresentationCount.mono _ _ _ _)
      | (with_reducible exact laws_roll.mono _ _ _)
      | (with_reducible exact spec_DrawRepresentationCount.mono _ _)
      | (with_reducible exact LeO.refl _)
      | (with_reducible exact LeO.none _)
      | (with_reducible refine LeO.ite ?_ ?_)
      | (with_reducible refine LeO.bind ?_ (fun _ => ?_))
      | exact ih0 _ _ _ _ _ _
      | exact ih1 _ _ _ _
      | exact ih2 _ _ _ _ _
      | exact ih3 _ _ _ _ _
      | exact ih4 _ _ _ _ _ _
      | exact impl_IsRepresentation.mono _ _ _ _ _
      | exact impl_RepresentationAt.mono _ _ _ _ _
      | exact impl_RepresentationCount.mono _ _ _ _
      | exact laws_roll.mono _ _ _
      | exact spec_DrawRepresentationCount.mono _ _
      | exact LeO.none _
      | refine LeO.ite ?_ ?_
      | refine LeO.bind ?_ (fun _ => ?_)
    · intro y0 y1 y2 y3 y4
      unfold laws_FnRepresentations.j2
      repeat' first
      | (with_reducible exact ih0 _ _ _ _ _ _)
      | (with_reducible exact ih1 _ _ _ _)
      | (with_reducible exact ih2 _ _ _ _ _)
      | (with_reducible exact ih3 _ _ _ _ _)
      | (with_reducible exact ih4 _ _ _ _ _ _)
      | (with_reducible exact impl_IsRepresentation.mono _ _ _ _ _)
      | (with_reducible exact impl_RepresentationAt.mono _ _ _ _ _)
      | (with_reducible exact impl_RepresentationCount.mono _ _ _ _)
      | (with_reducible exact laws_roll.mono _ _ _)
      | (with_reducible exact spec_DrawRepresentationCount.mono _ _)
      | (with_reducible exact LeO.refl _)
      | (with_reducible exact LeO.none _)
      | (with_reducible refine LeO.ite ?_ ?_)
      | (with_reducible refine LeO.bind ?_ (fun _ => ?_))
      | exact ih0 _ _ _ _ _ _
      | exact ih1 _ _ _ _
      | exact ih2 _ _ _ _ _
      | exact ih3 _ _ _ _ _
      | exact ih4 _ _ _ _ _ _
      | exact impl_IsRepresentation.mono _ _ _ _ _
      | exact impl_RepresentationAt.mono _ _ _ _ _
      | exact impl_RepresentationCount.mono _ _ _ _
      | exact laws_roll.mono _ _ _
      | exact spec_DrawRepresentationCount.mono _ _
      | exact LeO.none _
      | refine LeO.ite ?_ ?_
      | refine LeO.bind ?_ (fun _ => ?_)
    · intro y0 y1 y2 y3 y4
      unfold laws_FnRepresentations.l1
      repeat' first
      | (with_reducible exact ih0 _ _ _ _ _ _)
      | (with_reducible exact ih1 _ _ _ _)
      | (with_reducible exact ih2 _ _ _ _ _)
      | (with_reducible exact ih3 _ _ _ _ _)
      | (with_reducible exact ih4 _ _ _ _ _ _)
      | (with_reducible exact impl_IsRepresentation.mono _ _ _ _ _)
      | (with_reducible exact impl_RepresentationAt.mono _ _ _ _ _)
      | (with_reducible exact impl_RepresentationCount.mono _ _ _ _)
      | (with_reducible exact laws_roll.mono _ _ _)
      | (with_reducible exact spec_DrawRepresentationCount.mono _ _)
      | (with_reducible exact LeO.refl _)
      | (with_reducible exact LeO.none _)
      | (with_reducible refine LeO.ite ?_ ?_)
      | (with_reducible refine LeO.bind ?_ (fun _ => ?_))
      | exact ih0 _ _ _ _ _ _
      | exact ih1 _ _ _ _
      | exact ih2 _ _ _ _ _
      | exact ih3 _ _ _ _ _
      | exact ih4 _ _ _ _ _ _
      | exact impl_IsRepresentation.mono _ _ _ _ _
      | exact impl_RepresentationAt.mono _ _ _ _ _
      | exact impl_RepresentationCount.mono _ _ _ _
      | exact laws_roll.mono _ _ _
      | exact spec_DrawRepresentationCount.mono _ _
      | exact LeO.none _
      | refine LeO.ite ?_ ?_
      | refine LeO.bind ?_ (fun _ => ?_)
    · intro y0 y1 y2 y3 y4 y5
      unfold laws_FnRepresentations.j4
      repeat' first
      | (with_reducible exact ih0 _ _ _ _ _ _)
      | (with_reducible exact ih1 _ _ _ _)
      | (with_reducible exact ih2 _ _ _ _ _)
      | (with_reducible exact ih3 _ _ _ _ _)
      | (with_reducible exact ih4 _ _ _ _ _ _)
      | (with_reducible exact impl_IsRepresentation.mono _ _ _ _ _)
      | (with_reducible exact impl_RepresentationAt.mono _ _ _ _ _)
      | (with_reducible exact impl_RepresentationCount.mono _ _ _ _)
      | (with_reducible exact laws_roll.mono _ _ _)
      | (with_reducible exact spec_DrawRepresentationCount.mono _ _)
      | (with_reducible exact LeO.refl _)
      | (with_reducible exact LeO.none _)
      | (with_reducible refine LeO.ite ?_ ?_)
      | (with_reducible refine LeO.bind ?_ (fun _ => ?_))
      | exact ih0 _ _ _ _ _ _
      | exact ih1 _ _ _ _
      | exact ih2 _ _ _ _ _
      | exact ih3 _ _ _ _ _
      | exact ih4 _ _ _ _ _ _
      | exact impl_IsRepresentation.mono _ _ _ _ _
      | exact impl_RepresentationAt.mono _ _ _ _ _
      | exact impl_RepresentationCount.mono _ _ _ _
      | exact laws_roll.mono _ _ _
      | exact spec_DrawRepresentationCount.mono _ _
      | exact LeO.none _
      | refine LeO.ite ?_ ?_
      | refine LeO.bind ?_ (fun _ => ?_)
theorem laws_FnRepresentations.mono : ∀ a0 k, LeO (laws_FnRepresentations.f k a0) (laws_FnRepresentations.f (k + 1) a0) := by
  intro a0 k
  obtain ⟨ih0, ih1, ih2, ih3, ih4⟩ := laws_FnRepresentations.mono_l k
  unfold laws_FnRepresentations.f
  repeat' first
      | (with_reducible exact ih0 _ _ _ _ _ _)
      | (with_reducible exact ih1 _ _ _ _)
      | (with_reducible exact ih2 _ _ _ _ _)
      | (with_reducible exact ih3 _ _ _ _ _)
      | (with_reducible exact ih4 _ _ _ _ _ _)
      | (with_reducible exact impl_IsRepresentation.mono _ _ _ _ _)
      | (with_reducible exact impl_RepresentationAt.mono _ _ _ _ _)
      | (with_reducible exact impl_RepresentationCount.mono _ _ _ _)
      | (with_reducible exact laws_roll.mono _ _ _)
      | (with_reducible exact spec_DrawRepresentationCount.mono _ _)
      | (with_reducible exact LeO.refl _)
      | (with_reducible exact LeO.none _)
      | (with_reducible refine LeO.ite ?_ ?_)
      | (with_reducible refine LeO.bind ?_ (fun _ => ?_))
      | exact ih0 _ _ _ _ _ _
      | exact ih1 _ _ _ _
      | exact ih2 _ _ _ _ _
      | exact ih3 _ _ _ _ _
      | exact ih4 _ _ _ _ _ _
      | exact impl_IsRepresentation.mono _ _ _ _ _
      | exact impl_RepresentationAt.mono _ _ _ _ _
      | exact impl_RepresentationCount.mono _ _ _ _
      | exact laws_roll.mono _ _ _
      | exact spec_DrawRepresentationCount.mono _ _
      | exact LeO.none _
      | refine LeO.ite ?_ ?_
      | refine LeO.bind ?_ (fun _ => ?_)
set_option maxHeartbeats 8000000 in
set_option maxRecDepth 100000 in
theorem laws_FnRepresentations.calls (k : Nat) (A0 : Option Addr) (c0 : Nat) (l0 : List Int) (r : Bool) (w : World) (hr0 : Kd.C (Kd.int .u8) w A0 l0.length l0) (hc0 : l0.length ≤ c0) (h : laws_FnRepresentations.f k l0 = some r) (HTRUE_ : Aside0 (r = true)) :
    Calls Try.prog 5 #[.slice A0 l0.length c0] w fun e w' => e = .returned (.bool r) ∧ Below w.heap.size w w' := by
  have hu28 := Try.underlying28
  have HR0 := Aside0.mk hr0
  have HC0 := Aside0.mk hc0
  clear hr0 hc0
  have HB := Aside0.mk (Below.refl w.heap.size w)
  have H : ((laws_big.f l0).bind fun t284 => (if t284 = true then (some true) else ((laws_roll.f k l0 7003).bind fun bt285 => ((spec_DrawRepresentationCount.f k l0).bind fun bt289 => ((impl_RepresentationCount.f k bt289.1 bt289.2.1 bt289.2.2).bind fun bt295 => (if bt295.2 = 0 then (if bt295.1 < 1 then (some false) else ((laws_dice_below.f bt285.1 bt285.2.1 bt285.2.2 bt295.1).bind fun bt301 => ((impl_RepresentationAt.f k bt289.1 bt289.2.1 bt289.2.2 bt301.1).bind fun bt304 => ((impl_RepresentationAt.f k bt289.1 bt289.2.1 bt289.2.2 bt295.1).bind fun bt308 => (if bt304.2 = 0 then (if bt308.2 = 4 then ((impl_IsRepresentation.f k bt289.1 bt289.2.1 bt289.2.2 bt304.1).bind fun t312 => (laws_FnRepresentations.j0 k bt289.2.2 bt301.1 bt304.1 (!t312) bt289.1 bt289.2.1)) else (laws_FnRepresentations.j0 k bt289.2.2 bt301.1 bt304.1 true bt289.1 bt289.2.1)) else (laws_FnRepresentations.j0 k bt289.2.2 bt301.1 bt304.1 true bt289.1 bt289.2.1)))))) else ((impl_RepresentationAt.f k bt289.1 bt289.2.1 bt289.2.2 0).bind fun bt297 => (if bt295.1 = 0 then (some (bt297.2 == bt295.2)) else (some false))))))))) = some r := h
  clear h
  replace H := Option.bind_eq_some_iff.mp H
  obtain ⟨t284, A20, H⟩ := H
  replace H : (if t284 = true then (some true) else ((laws_roll.f k l0 7003).bind fun bt285 => ((spec_DrawRepresentationCount.f k l0).bind fun bt289 => ((impl_RepresentationCount.f k bt289.1 bt289.2.1 bt289.2.2).bind fun bt295 => (if bt295.2 = 0 then (if bt295.1 < 1 then (some false) else ((laws_dice_below.f bt285.1 bt285.2.1 bt285.2.2 bt295.1).bind fun bt301 => ((impl_RepresentationAt.f k bt289.1 bt289.2.1 bt289.2.2 bt301.1).bind fun bt304 => ((impl_RepresentationAt.f k bt289.1 bt289.2.1 bt289.2.2 bt295.1).bind fun bt308 => (if bt304.2 = 0 then (if bt308.2 = 4 then ((impl_IsRepresentation.f k bt289.1 bt289.2.1 bt289.2.2 bt304.1).bind fun t312 => (laws_FnRepresentations.j0 k bt289.2.2 bt301.1 bt304.1 (!t312) bt289.1 bt289.2.1)) else (laws_FnRepresentations.j0 k bt289.2.2 bt301.1 bt304.1 true bt289.1 bt289.2.1)) else (laws_FnRepresentations.j0 k bt289.2.2 bt301.1 bt304.1 true bt289.1 bt289.2.1)))))) else ((impl_RepresentationAt.f k bt289.1 bt289.2.1 bt289.2.2 0).bind fun bt297 => (if bt295.1 = 0 then (some (bt297.2 == bt295.2)) else (some false)))))))) = some r := H
  have A2 := Aside0.mk A20
  clear A20
  by_cases c3 : t284 = true
  · subst c3
    have H1 : (some true) = some r := by rw [if_pos rfl] at H; exact H
    clear H
    have H := H1
    clear H1
    obtain rfl := Option.some.inj H
    go_enter Try.func5, Try.ntmps5
    go_wp2_with (first | (go_at_call 23; (with_reducible refine (laws_big.calls _ _ l0 true _ ?side1 ?side2 A2.out).mono ?_); (case side1 => repeat (first | exact HR0.out | (with_reducible refine Kd.C_alloc ?_ _) | (with_reducible refine Kd.C_drewN ?_ _) | (with_reducible refine Kd.C_drew ?_))); (case side2 => exact HC0.out); rintro e w' ⟨rfl, ⟨nd, rfl⟩⟩; (try first | exact ⟨rfl, _, World.drewN_drewN _ _ _⟩ | exact ⟨rfl, _, Eq.trans (World.drewN_drewN _ _ _) (congrArg (World.drewN _) (Nat.add_assoc _ _ _))⟩)))
    repeat (go_quiet (first | (go_at_call 23; (with_reducible refine (laws_big.calls _ _ l0 true _ ?side1 ?side2 A2.out).mono ?_); (case side1 => repeat (first | exact HR0.out | (with_reducible refine Kd.C_alloc ?_ _) | (with_reducible refine Kd.C_drewN ?_ _) | (with_reducible refine Kd.C_drew ?_))); (case side2 => exact HC0.out); rintro e w' ⟨rfl, ⟨nd, rfl⟩⟩; (try first | exact ⟨rfl, _, World.drewN_drewN _ _ _⟩ | exact ⟨rfl, _, Eq.trans (World.drewN_drewN _ _ _) (congrArg (World.drewN _) (Nat.add_assoc _ _ _))⟩))); try go_wp2_with (first | (go_at_call 23; (with_reducible refine (laws_big.calls _ _ l0 true _ ?side1 ?side2 A2.out).mono ?_); (case side1 => repeat (first | exact HR0.out | (with_reducible refine Kd.C_alloc ?_ _) | (with_reducible refine Kd.C_drewN ?_ _) | (with_reducible refine Kd.C_drew ?_))); (case side2 => exact HC0.out); rintro e w' ⟨rfl, ⟨nd, rfl⟩⟩; (try first | exact ⟨rfl, _, World.drewN_drewN _ _ _⟩ | exact ⟨rfl, _, Eq.trans (World.drewN_drewN _ _ _) (congrArg (World.drewN _) (Nat.add_assoc _ _ _))⟩))))
    go_ret
    exact ⟨by first | rfl | (simp [errW_none, errW_some] <;> rfl) | (simp [*, errW_none, errW_some] <;> rfl), by repeat (first | (with_reducible first | exact HB.out | apply below_alloc | apply pw_below_drewN | apply below_drew1) | exact HB.out)⟩
  · replace c3 := Bool.eq_false_iff.mpr c3
    subst c3
    have H1 : ((laws_roll.f k l0 7003).bind fun bt285 => ((spec_DrawRepresentationCount.f k l0).bind fun bt289 => ((impl_RepresentationCount.f k bt289.1 bt289.2.1 bt289.2.2).bind fun bt295 => (if bt295.2 = 0 then (if bt295.1 < 1 then (some false) else ((laws_dice_below.f bt285.1 bt285.2.1 bt285.2.2 bt295.1).bind fun bt301 => ((impl_RepresentationAt.f k bt289.1 bt289.2.1 bt289.2.2 bt301.1).bind fun bt304 => ((impl_RepresentationAt.f k bt289.1 bt289.2.1 bt289.2.2 bt295.1).bind fun bt308 => (if bt304.2 = 0 then (if bt308.2 = 4 then ((impl_IsRepresentation.f k bt289.1 bt289.2.1 bt289.2.2 bt304.1).bind fun t312 => (laws_FnRepresentations.j0 k bt289.2.2 bt301.1 bt304.1 (!t312) bt289.1 bt289.2.1)) else (laws_FnRepresentations.j0 k bt289.2.2 bt301.1 bt304.1 true bt289.1 bt289.2.1)) else (laws_FnRepresentations.j0 k bt289.2.2 bt301.1 bt304.1 true bt289.1 bt289.2.1)))))) else ((impl_RepresentationAt.f k bt289.1 bt289.2.1 bt289.2.2 0).bind fun bt297 => (if bt295.1 = 0 then (some (bt297.2 == bt295.2)) else (some false))))))) = some r := by rw [if_neg (show ¬ (false = true) by decide)] at H; exact H
    clear H
    have H := H1
    clear H1
    replace H := Option.bind_eq_some_iff.mp H
    obtain ⟨⟨t285, t286, t287⟩, A40, H⟩ := H
    replace H : ((spec_DrawRepresentationCount.f k l0).bind fun bt289 => ((impl_RepresentationCount.f k bt289.1 bt289.2.1 bt289.2.2).bind fun bt295 => (if bt295.2 = 0 then (if bt295.1 < 1 then (some false) else ((laws_dice_below.f t285 t286 t287 bt295.1).bind fun bt301 => ((impl_RepresentationAt.f k bt289.1 bt289.2.1 bt289.2.2 bt301.1).bind fun bt304 => ((impl_RepresentationAt.f k bt289.1 bt289.2.1 bt289.2.2 bt295.1).bind fun bt308 => (if bt304.2 = 0 then (if bt308.2 = 4 then ((impl_IsRepresentation.f k bt289.1 bt289.2.1 bt289.2.2 bt304.1).bind fun t312 => (laws_FnRepresentations.j0 k bt289.2.2 bt301.1 bt304.1 (!t312) bt289.1 bt289.2.1)) else (laws_FnRepresentations.j0 k bt289.2.2 bt301.1 bt304.1 true bt289.1 bt289.2.1)) else (laws_FnRepresentations.j0 k bt289.2.2 bt301.1 bt304.1 true bt289.1 bt289.2.1)))))) else ((impl_RepresentationAt.f k bt289.1 bt289.2.1 bt289.2.2 0).bind fun bt297 => (if bt295.1 = 0 then (some (bt297.2 == bt295.2)) else (some false)))))) = some r := H
    have A4 := Aside0.mk A40
    clear A40
    replace H := Option.bind_eq_some_iff.mp H
    obtain ⟨⟨t289, t290, t293⟩, A50, H⟩ := H
    replace H : ((impl_RepresentationCount.f k t289 t290 t293).bind fun bt295 => (if bt295.2 = 0 then (if bt295.1 < 1 then (some false) else ((laws_dice_below.f t285 t286 t287 bt295.1).bind fun bt301 => ((impl_RepresentationAt.f k t289 t290 t293 bt301.1).bind fun bt304 => ((impl_RepresentationAt.f k t289 t290 t293 bt295.1).bind fun bt308 => (if bt304.2 = 0 then (if bt308.2 = 4 then ((impl_IsRepresentation.f k t289 t290 t293 bt304.1).bind fun t312 => (laws_FnRepresentations.j0 k t293 bt301.1 bt304.1 (!t312) t289 t290)) else (laws_FnRepresentations.j0 k t293 bt301.1 bt304.1 true t289 t290)) else (laws_FnRepresentations.j0 k t293 bt301.1 bt304.1 true t289 t290)))))) else ((impl_RepresentationAt.f k t289 t290 t293 0).bind fun bt297 => (if bt295.1 = 0 then (some (bt297.2 == bt295.2)) else (some false))))) = some r := H
    have A5 := Aside0.mk A50
    clear A50
    replace H := Option.bind_eq_some_iff.mp H
    obtain ⟨⟨t295, t296⟩, A60, H⟩ := H
    replace H : (if t296 = 0 then (if t295 < 1 then (some false) else ((laws_dice_below.f t285 t286 t287 t295).bind fun bt301 => ((impl_RepresentationAt.f k t289 t290 t293 bt301.1).bind fun bt304 => ((impl_RepresentationAt.f k t289 t290 t293 t295).bind fun bt308 => (if bt304.2 = 0 then (if bt308.2 = 4 then ((impl_IsRepresentation.f k t289 t290 t293 bt304.1).bind fun t312 => (laws_FnRepresentations.j0 k t293 bt301.1 bt304.1 (!t312) t289 t290)) else (laws_FnRepresentations.j0 k t293 bt301.1 bt304.1 true t289 t290)) else (laws_FnRepresentations.j0 k t293 bt301.1 bt304.1 true t289 t290)))))) else ((impl_RepresentationAt.f k t289 t290 t293 0).bind fun bt297 => (if t295 = 0 then (some (bt297.2 == t296)) else (some false)))) = some r := H
    have A6 := Aside0.mk A60
    clear A60
    by_cases c7 : t296 = 0
    · rw [if_pos c7] at H
      have c7b0 : (t296 == 0) = true := beq_iff_eq.mpr c7
      have c7b1 : (t296 != 0) = false := bne_eq_false_iff_eq.mpr c7
      clear c7
      by_cases c8 : t295 < 1
      · rw [if_pos c8] at H
        have c8b0 : decide (t295 < 1) = true := decide_eq_true c8
        clear c8
        exact absurd ((Option.some.inj H).trans HTRUE_.out) (by simp)
      · rw [if_neg c8] at H
        have c8b0 : decide (t295 < 1) = false := decide_eq_false c8
        clear c8
        replace H := Option.bind_eq_some_iff.mp H
        obtain ⟨⟨t301, t302, t303⟩, A90, H⟩ := H
        replace H : ((impl_RepresentationAt.f k t289 t290 t293 t301).bind fun bt304 => ((impl_RepresentationAt.f k t289 t290 t293 t295).bind fun bt308 => (if bt304.2 = 0 then (if bt308.2 = 4 then ((impl_IsRepresentation.f k t289 t290 t293 bt304.1).bind fun t312 => (laws_FnRepresentations.j0 k t293 t301 bt304.1 (!t312) t289 t290)) else (laws_FnRepresentations.j0 k t293 t301 bt304.1 true t289 t290)) else (laws_FnRepresentations.j0 k t293 t301 bt304.1 true t289 t290)))) = some r := H
        have A9 := Aside0.mk A90
        clear A90
        replace H := Option.bind_eq_some_iff.mp H
        obtain ⟨⟨t304, t307⟩, A100, H⟩ := H
        replace H : ((impl_RepresentationAt.f k t289 t290 t293 t295).bind fun bt308 => (if t307 = 0 then (if bt308.2 = 4 then ((impl_IsRepresentation.f k t289 t290 t293 t304).bind fun t312 => (laws_FnRepresentations.j0 k t293 t301 t304 (!t312) t289 t290)) else (laws_FnRepresentations.j0 k t293 t301 t304 true t289 t290)) else (laws_FnRepresentations.j0 k t293 t301 t304 true t289 t290))) = some r := H
        have A10 := Aside0.mk A100
        clear A100
        replace H := Option.bind_eq_some_iff.mp H
        obtain ⟨⟨t308, t311⟩, A110, H⟩ := H
        replace H : (if t307 = 0 then (if t311 = 4 then ((impl_IsRepresentation.f k t289 t290 t293 t304).bind fun t312 => (laws_FnRepresentations.j0 k t293 t301 t304 (!t312) t289 t290)) else (laws_FnRepresentations.j0 k t293 t301 t304 true t289 t290)) else (laws_FnRepresentations.j0 k t293 t301 t304 true t289 t290)) = some r := H
        have A11 := Aside0.mk A110
        clear A110
        have HC12 := Aside0.mk H
        clear H
        go_enter Try.func5, Try.ntmps5
        go_upto_region 14 with (first | (go_at_call 23; (with_reducible refine (laws_big.calls _ _ l0 false _ ?side1 ?side2 A2.out).mono ?_); (case side1 => repeat (first | exact HR0.out | (with_reducible refine Kd.C_alloc ?_ _) | (with_reducible refine Kd.C_drewN ?_ _) | (with_reducible refine Kd.C_drew ?_))); (case side2 => exact HC0.out); rintro e w' ⟨rfl, ⟨nd, rfl⟩⟩; (try first | exact ⟨rfl, _, World.drewN_drewN _ _ _⟩ | exact ⟨rfl, _, Eq.trans (World.drewN_drewN _ _ _) (congrArg (World.drewN _) (Nat.add_assoc _ _ _))⟩)) | (go_at_call 24; (with_reducible refine (laws_roll.calls k _ _ l0 7003 t285 t286 t287 w _ ?side1 ?side2 ?side3 A4.out).mono ?_); (case side1 => repeat (first | (with_reducible first | exact HB.out | apply below_alloc | apply pw_below_drewN | apply below_drew1) | exact HB.out)); (case side2 => exact HR0.out); (case side3 => exact HC0.out); rintro e w13 ⟨g288, rfl, hi, hb, hb2⟩; have n0_ := Aside0.mk (hb); have n1_ := Aside0.mk (hi); clear HB; have HB := n0_; have HI288 := n1_; clear n0_ n1_; (try clear hb); (try clear hb2); (try clear hk); (try clear hi)) | (go_at_call 25; (with_reducible refine (spec_DrawRepresentationCount.calls k _ _ l0 t289 t290 t293 _ ?side1 ?side2 A5.out).mono ?_); (case side1 => repeat (first | exact (Kd.C_below HR0.out HB.out) | (with_reducible refine Kd.C_alloc ?_ _) | (with_reducible refine Kd.C_drewN ?_ _) | (with_reducible refine Kd.C_drew ?_))); (case side2 => exact HC0.out); rintro e w14 ⟨v291, rfl, ho0, hb⟩; have n0_ := Aside0.mk (Kd.S_lower ho0 (below_size (by repeat (first | (with_reducible first | exact HB.out | apply below_alloc | apply pw_below_drewN | apply below_drew1 | refine below_set ?_ (IsS64.ge HI288.out)) | exact HB.out)))); have n1_ := Aside0.mk (IsS64.below (by repeat (first | (with_reducible first | exact HI288.out | apply IsS64.alloc | apply IsS64.drewN | apply IsS64.drew | apply IsS64.set_1 | apply IsS64.set_2) | exact HI288.out)) hb); have n2_ := Aside0.mk (below_step (by repeat (first | (with_reducible first | exact HB.out | apply below_alloc | apply pw_below_drewN | apply below_drew1 | refine below_set ?_ (IsS64.ge HI288.out)) | exact HB.out)) hb); clear HI288; clear HB; have HO292 := n0_; have HI288 := n1_; have HB := n2_; clear n0_ n1_ n2_; (try clear hb); (try clear hb2); (try clear hk); (try clear hi); (try clear ho0)) | ((with_reducible refine gate_dst (N := 4) rfl ?_); (try (refine gate_guard (by rfl) ?_; dsimp only)); refine box_event ?hg (N := 4) ?hd (cs := #[.int .i64 0, .slice none 0 0]) (t := 28) ?hr ?_; (case hd => rfl); (case hg => rfl); (case hr => first | (go_simp; done) | (go_simp; rfl)); intro gb294 hg w15 hbox hb; have n0_ := Aside0.mk (Kd.S_below (by (with_reducible repeat (first | apply Kd.S_alloc | apply Kd.S_drewN | apply Kd.S_drew)); exact HO292.out) hb); have n1_ := Aside0.mk (IsS64.below (by repeat (first | (with_reducible first | exact HI288.out | apply IsS64.alloc | apply IsS64.drewN | apply IsS64.drew | apply IsS64.set_1 | apply IsS64.set_2) | exact HI288.out)) hb); have n2_ := Aside0.mk (below_step (by repeat (first | (with_reducible first | exact HB.out | apply below_alloc | apply pw_below_drewN | apply below_drew1 | refine below_set ?_ (IsS64.ge HI288.out)) | exact HB.out)) hb); have n3_ := Aside0.mk (hbox); have n4_ := Aside0.mk ((by rw [hg]; exact (below_size (by repeat (first | (with_reducible first | exact HB.out | apply below_alloc | apply pw_below_drewN | apply below_drew1 | refine below_set ?_ (IsS64.ge HI288.out)) | exact HB.out))) : w.heap.size ≤ gb294)); have n5_ := Aside0.mk ((by rw [hg]; exact (below_size (by repeat (first | (with_reducible first | exact HB.out | apply below_alloc | apply pw_below_drewN | apply below_drew1 | refine below_set ?_ (IsS64.ge HI288.out)) | exact HB.out))) : w.heap.size ≤ gb294)); have n6_ := Aside0.mk ((by rw [hg]; exact Nat.ne_of_lt (IsS64.lt (show IsS64 w _ g288 t285 t286 t287 from by repeat (first | (with_reducible first | exact HI288.out | apply IsS64.alloc | apply IsS64.drewN | apply IsS64.drew | apply IsS64.set_1 | apply IsS64.set_2) | exact HI288.out))) : g288 ≠ gb294)); have n7_ := Aside0.mk ((by rw [hg]; exact Nat.ne_of_gt (IsS64.lt (show IsS64 w _ g288 t285 t286 t287 from by repeat (first | (with_reducible first | exact HI288.out | apply IsS64.alloc | apply IsS64.drewN | apply IsS64.drew | apply IsS64.set_1 | apply IsS64.set_2) | exact HI288.out))) : gb294 ≠ g288)); clear HO292; clear HI288; clear HB; have HO292 := n0_; have HI288 := n1_; have HB := n2_; have BK294 := n3_; have GW294 := n4_; have GE294 := n5_; have NB288_294 := n6_; have NB294_288 := n7_; clear n0_ n1_ n2_ n3_ n4_ n5_ n6_ n7_; clear hb hbox hg; have hnb16 := NB294_288.out; have hnc16 := NB288_294.out; have hcz17_0 : w15.cell? ⟨gb294, 0, none⟩ = some (.int .i64 0) := (blk_cell BK294.out 0).trans rfl; have hcz17_1 : w15.cell? ⟨gb294, 1, none⟩ = some (.slice none 0 0) := (blk_cell BK294.out 1).trans rfl; have hfz17_0 := blk_frozen BK294.out 0; have hfz17_1 := blk_frozen BK294.out 1; obtain ⟨Ao18, co18, eo18⟩ := Kd.S_slice HO292.out; subst eo18) | (go_at_call 15; (with_reducible refine (impl_RepresentationCount.calls k t289 _ _ t290 t293 t295 t296 _ ?side1 ?side2 A6.out).mono ?_); (case side1 => refine (Kd.S_reads' (e := 47) (base := w.heap.size) (ok := fun k_ => True) (n := t290.length) (c := co18) ?_).2.2; exact (by (with_reducible repeat (first | apply Kd.S_alloc | apply Kd.S_drewN | apply Kd.S_drew)); exact (Kd.S_mono (Kd.S_far (p := ⟨gb294, 1, none⟩) (Kd.S_far (p := ⟨gb294, 0, none⟩) (Kd.S_types HO292.out BK294.out (by decide)) (fun _ hk => hk.2) (.int .i64 t289)) (fun _ hk => hk.2) (.slice Ao18 t290.length co18)) (fun _ h_ => h_.1)))); (case side2 => exact (Kd.S_reads' HO292.out).2.1); rintro e w19 ⟨rfl, hb⟩; have n0_ := Aside0.mk (Kd.S_below (by (with_reducible repeat (first | apply Kd.S_alloc | apply Kd.S_drewN | apply Kd.S_drew)); exact (Kd.S_mono (Kd.S_far (p := ⟨gb294, 1, none⟩) (Kd.S_far (p := ⟨gb294, 0, none⟩) (Kd.S_types HO292.out BK294.out (by decide)) (fun _ hk => hk.2) (.int .i64 t289)) (fun _ hk => hk.2) (.slice Ao18 t290.length co18)) (fun _ h_ => h_.1))) hb); have n1_ := Aside0.mk (IsS64.below (show IsS64 w ((w15.setCell ⟨gb294, 0, none⟩ (.int .i64 t289)).setCell ⟨gb294, 1, none⟩ (.slice Ao18 t290.length co18)) g288 t285 t286 t287 from by repeat (first | (with_reducible first | exact HI288.out | apply IsS64.alloc | apply IsS64.drewN | apply IsS64.drew | apply IsS64.set_1 | apply IsS64.set_2 | refine IsS64.far ?_ NB288_294.out _) | exact HI288.out)) hb); have n2_ := Aside0.mk (blk_below (g := gb294) (o := .cells #[.int .i64 t289, .slice Ao18 t290.length co18] 28 (0, 0)) (by (with_reducible repeat (first | refine blk_drewN ?_ _ | refine blk_drew ?_ | refine blk_alloc ?_ _)); refine blk_put (cs := #[.int .i64 t289, .slice none 0 0]) ?_ 1 _ rfl; (with_reducible repeat (first | refine blk_drewN ?_ _ | refine blk_drew ?_ | refine blk_alloc ?_ _)); refine blk_put (cs := #[.int .i64 0, .slice none 0 0]) ?_ 0 _ rfl; (with_reducible repeat (first | refine blk_drewN ?_ _ | refine blk_drew ?_ | refine blk_alloc ?_ _)); exact BK294.out) hb); have n3_ := Aside0.mk (below_step (by repeat (first | (with_reducible first | exact HB.out | apply below_alloc | apply pw_below_drewN | apply below_drew1 | refine below_set ?_ (IsS64.ge HI288.out) | refine below_set ?_ GE294.out) | exact HB.out)) hb); clear HO292; clear HI288; clear BK294; clear HB; have HO292 := n0_; have HI288 := n1_; have BK294 := n2_; have HB := n3_; clear n0_ n1_ n2_ n3_; (try clear hb); (try clear hb2); (try clear hk); (try clear hi)) | (go_at_call 26; (with_reducible refine (laws_dice_below.calls g288 t285 t286 t287 t295 t301 t302 t303 w _ ?side1 ?side2 A9.out).mono ?_); (case side1 => repeat (first | (with_reducible first | exact HI288.out | apply IsS64.alloc | apply IsS64.drewN | apply IsS64.drew | apply IsS64.set_1 | apply IsS64.set_2 | refine IsS64.far ?_ NB288_294.out _) | exact HI288.out)); (case side2 => repeat (first | (with_reducible first | exact HB.out | apply below_alloc | apply pw_below_drewN | apply below_drew1 | refine below_set ?_ (IsS64.ge HI288.out) | refine below_set ?_ GE294.out) | exact HB.out)); rintro e w20 ⟨rfl, hi, hb, hk⟩; have n0_ := Aside0.mk (Kd.S_mono (Kd.S_keep (IsS64.apartS (show IsS64 w _ g288 t285 t286 t287 from by repeat (first | (with_reducible first | exact HI288.out | apply IsS64.alloc | apply IsS64.drewN | apply IsS64.drew | apply IsS64.set_1 | apply IsS64.set_2 | refine IsS64.far ?_ NB288_294.out _) | exact HI288.out)) (by (with_reducible repeat (first | apply Kd.S_alloc | apply Kd.S_drewN | apply Kd.S_drew)); exact HO292.out) (by decide)) hk (fun _ h => h.2)) (fun _ h => h.1)); have n1_ := Aside0.mk (KeepBut.blk hk (g' := gb294) (o := .cells #[.int .i64 t289, .slice Ao18 t290.length co18] 28 (0, 0)) (by (with_reducible repeat (first | refine blk_drewN ?_ _ | refine blk_drew ?_ | refine blk_alloc ?_ _)); exact BK294.out) NB294_288.out (by simp)); have n2_ := Aside0.mk (hb); have n3_ := Aside0.mk (hi); clear HO292; clear BK294; clear HB; clear HI288; have HO292 := n0_; have BK294 := n1_; have HB := n2_; have HI288 := n3_; clear n0_ n1_ n2_ n3_; (try clear hb); (try clear hb2); (try clear hk); (try clear hi); have hcz21_0 : w20.cell? ⟨gb294, 0, none⟩ = some (.int .i64 t289) := (blk_cell BK294.out 0).trans rfl; have hcz21_1 : w20.cell? ⟨gb294, 1, none⟩ = some (.slice Ao18 t290.length co18) := (blk_cell BK294.out 1).trans rfl; have hfz21_0 := blk_frozen BK294.out 0; have hfz21_1 := blk_frozen BK294.out 1) | (go_at_call 18; (with_reducible refine (impl_RepresentationAt.calls k t289 _ _ t290 t293 t301 t304 t307 _ ?side1 ?side2 A10.out).mono ?_); (case side1 => repeat (first | exact (Kd.S_reads' HO292.out).2.2 | (with_reducible refine Kd.C_alloc ?_ _) | (with_reducible refine Kd.C_drewN ?_ _) | (with_reducible refine Kd.C_drew ?_))); (case side2 => exact (Kd.S_reads' HO292.out).2.1); rintro e w22 ⟨v305, rfl, ho0, hb⟩; have n0_ := Aside0.mk (Kd.S_elder' (by (with_reducible repeat (first | apply Kd.S_alloc | apply Kd.S_drewN | apply Kd.S_drew)); exact HO292.out) (Kd.S_base ho0) hb); have n1_ := Aside0.mk (Kd.S_lower (Kd.S_new' ho0 (Kd.S_lt (by (with_reducible repeat (first | apply Kd.S_alloc | apply Kd.S_drewN | apply Kd.S_drew)); exact HO292.out))) (below_size (by repeat (first | (with_reducible first | exact HB.out | apply below_alloc | apply pw_below_drewN | apply below_drew1 | refine below_set ?_ (IsS64.ge HI288.out) | refine below_set ?_ GE294.out) | exact HB.out)))); have n2_ := Aside0.mk (IsS64.below (by repeat (first | (with_reducible first | exact HI288.out | apply IsS64.alloc | apply IsS64.drewN | apply IsS64.drew | apply IsS64.set_1 | apply IsS64.set_2 | refine IsS64.far ?_ NB288_294.out _) | exact HI288.out)) hb); have n3_ := Aside0.mk (blk_below (g := gb294) (o := .cells #[.int .i64 t289, .slice Ao18 t290.length co18] 28 (0, 0)) (by (with_reducible repeat (first | refine blk_drewN ?_ _ | refine blk_drew ?_ | refine blk_alloc ?_ _)); exact BK294.out) hb); have n4_ := Aside0.mk (below_step (by repeat (first | (with_reducible first | exact HB.out | apply below_alloc | apply pw_below_drewN | apply below_drew1 | refine below_set ?_ (IsS64.ge HI288.out) | refine below_set ?_ GE294.out) | exact HB.out)) hb); clear HO292; clear HI288; clear BK294; clear HB; have HO292 := n0_; have HO306 := n1_; have HI288 := n2_; have BK294 := n3_; have HB := n4_; clear n0_ n1_ n2_ n3_ n4_; (try clear hb); (try clear hb2); (try clear hk); (try clear hi); (try clear ho0); have hcz23_0 : w22.cell? ⟨gb294, 0, none⟩ = some (.int .i64 t289) := (blk_cell BK294.out 0).trans rfl; have hcz23_1 : w22.cell? ⟨gb294, 1, none⟩ = some (.slice Ao18 t290.length co18) := (blk_cell BK294.out 1).trans rfl; have hfz23_0 := blk_frozen BK294.out 0; have hfz23_1 := blk_frozen BK294.out 1) | (go_at_call 18; (with_reducible refine (impl_RepresentationAt.calls k t289 _ _ t290 t293 t295 t308 t311 _ ?side1 ?side2 A11.out).mono ?_); (case side1 => repeat (first | exact (Kd.S_reads' HO292.out).2.2 | (with_reducible refine Kd.C_alloc ?_ _) | (with_reducible refine Kd.C_drewN ?_ _) | (with_reducible refine Kd.C_drew ?_))); (case side2 => exact (Kd.S_reads' HO292.out).2.1); rintro e w24 ⟨v309, rfl, ho0, hb⟩; have n0_ := Aside0.mk (Kd.S_elder' (by (with_reducible repeat (first | apply Kd.S_alloc | apply Kd.S_drewN | apply Kd.S_drew)); exact HO292.out) (Kd.S_base ho0) hb); have n1_ := Aside0.mk (Kd.S_elder' (by (with_reducible repeat (first | apply Kd.S_alloc | apply Kd.S_drewN | apply Kd.S_drew)); exact HO306.out) (Kd.S_base ho0) hb); have n2_ := Aside0.mk (Kd.S_lower (Kd.S_new' (Kd.S_new' ho0 (Kd.S_lt (by (with_reducible repeat (first | apply Kd.S_alloc | apply Kd.S_drewN | apply Kd.S_drew)); exact HO292.out))) (Kd.S_lt (by (with_reducible repeat (first | apply Kd.S_alloc | apply Kd.S_drewN | apply Kd.S_drew)); exact HO306.out))) (below_size (by repeat (first | (with_reducible first | exact HB.out | apply below_alloc | apply pw_below_drewN | apply below_drew1 | refine below_set ?_ (IsS64.ge HI288.out) | refine below_set ?_ GE294.out) | exact HB.out)))); have n3_ := Aside0.mk (IsS64.below (by repeat (first | (with_reducible first | exact HI288.out | apply IsS64.alloc | apply IsS64.drewN | apply IsS64.drew | apply IsS64.set_1 | apply IsS64.set_2 | refine IsS64.far ?_ NB288_294.out _) | exact HI288.out)) hb); have n4_ := Aside0.mk (blk_below (g := gb294) (o := .cells #[.int .i64 t289, .slice Ao18 t290.length co18] 28 (0, 0)) (by (with_reducible repeat (first | refine blk_drewN ?_ _ | refine blk_drew ?_ | refine blk_alloc ?_ _)); exact BK294.out) hb); have n5_ := Aside0.mk (below_step (by repeat (first | (with_reducible first | exact HB.out | apply below_alloc | apply pw_below_drewN | apply below_drew1 | refine below_set ?_ (IsS64.ge HI288.out) | refine below_set ?_ GE294.out) | exact HB.out)) hb); clear HO292; clear HO306; clear HI288; clear BK294; clear HB; have HO292 := n0_; have HO306 := n1_; have HO310 := n2_; have HI288 := n3_; have BK294 := n4_; have HB := n5_; clear n0_ n1_ n2_ n3_ n4_ n5_; (try clear hb); (try clear hb2); (try clear hk); (try clear hi); (try clear ho0)))
        repeat (go_quiet (first | (go_at_call 23; (with_reducible refine (laws_big.calls _ _ l0 false _ ?side1 ?side2 A2.out).mono ?_); (case side1 => repeat (first | exact HR0.out | (with_reducible refine Kd.C_alloc ?_ _) | (with_reducible refine Kd.C_drewN ?_ _) | (with_reducible refine Kd.C_drew ?_))); (case side2 => exact HC0.out); rintro e w' ⟨rfl, ⟨nd, rfl⟩⟩; (try first | exact ⟨rfl, _, World.drewN_drewN _ _ _⟩ | exact ⟨rfl, _, Eq.trans (World.drewN_drewN _ _ _) (congrArg (World.drewN _) (Nat.add_assoc _ _ _))⟩)) | (go_at_call 24; (with_reducible refine (laws_roll.calls k _ _ l0 7003 t285 t286 t287 w _ ?side1 ?side2 ?side3 A4.out).mono ?_); (case side1 => repeat (first | (with_reducible first | exact HB.out | apply below_alloc | apply pw_below_drewN | apply below_drew1) | exact HB.out)); (case side2 => exact HR0.out); (case side3 => exact HC0.out); rintro e w13 ⟨g288, rfl, hi, hb, hb2⟩; have n0_ := Aside0.mk (hb); have n1_ := Aside0.mk (hi); clear HB; have HB := n0_; have HI288 := n1_; clear n0_ n1_; (try clear hb); (try clear hb2); (try clear hk); (try clear hi)) | (go_at_call 25; (with_reducible refine (spec_DrawRepresentationCount.calls k _ _ l0 t289 t290 t293 _ ?side1 ?side2 A5.out).mono ?_); (case side1 => repeat (first | exact (Kd.C_below HR0.out HB.out) | (with_reducible refine Kd.C_alloc ?_ _) | (with_reducible refine Kd.C_drewN ?_ _) | (with_reducible refine Kd.C_drew ?_))); (case side2 => exact HC0.out); rintro e w14 ⟨v291, rfl, ho0, hb⟩; have n0_ := Aside0.mk (Kd.S_lower ho0 (below_size (by repeat (first | (with_reducible first | exact HB.out | apply below_alloc | apply pw_below_drewN | apply below_drew1 | refine below_set ?_ (IsS64.ge HI288.out)) | exact HB.out)))); have n1_ := Aside0.mk (IsS64.below (by repeat (first | (with_reducible first | exact HI288.out | apply IsS64.alloc | apply IsS64.drewN | apply IsS64.drew | apply IsS64.set_1 | apply IsS64.set_2) | exact HI288.out)) hb); have n2_ := Aside0.mk (below_step (by repeat (first | (with_reducible first | exact HB.out | apply below_alloc | apply pw_below_drewN | apply below_drew1 | refine below_set ?_ (IsS64.ge HI288.out)) | exact HB.out)) hb); clear HI288; clear HB; have HO292 := n0_; have HI288 := n1_; have HB := n2_; clear n0_ n1_ n2_; (try clear hb); (try clear hb2); (try clear hk); (try clear hi); (try clear ho0)) | ((with_reducible refine gate_dst (N := 4) rfl ?_); (try (refine gate_guard (by rfl) ?_; dsimp only)); refine box_event ?hg (N := 4) ?hd (cs := #[.int .i64 0, .slice none 0 0]) (t := 28) ?hr ?_; (case hd => rfl); (case hg => rfl); (case hr => first | (go_simp; done) | (go_simp; rfl)); intro gb294 hg w15 hbox hb; have n0_ := Aside0.mk (Kd.S_below (by (with_reducible repeat (first | apply Kd.S_alloc | apply Kd.S_drewN | apply Kd.S_drew)); exact HO292.out) hb); have n1_ := Aside0.mk (IsS64.below (by repeat (first | (with_reducible first | exact HI288.out | apply IsS64.alloc | apply IsS64.drewN | apply IsS64.drew | apply IsS64.set_1 | apply IsS64.set_2) | exact HI288.out)) hb); have n2_ := Aside0.mk (below_step (by repeat (first | (with_reducible first | exact HB.out | apply below_alloc | apply pw_below_drewN | apply below_drew1 | refine below_set ?_ (IsS64.ge HI288.out)) | exact HB.out)) hb); have n3_ := Aside0.mk (hbox); have n4_ := Aside0.mk ((by rw [hg]; exact (below_size (by repeat (first | (with_reducible first | exact HB.out | apply below_alloc | apply pw_below_drewN | apply below_drew1 | refine below_set ?_ (IsS64.ge HI288.out)) | exact HB.out))) : w.heap.size ≤ gb294)); have n5_ := Aside0.mk ((by rw [hg]; exact (below_size (by repeat (first | (with_reducible first | exact HB.out | apply below_alloc | apply pw_below_drewN | apply below_drew1 | refine below_set ?_ (IsS64.ge HI288.out)) | exact HB.out))) : w.heap.size ≤ gb294)); have n6_ := Aside0.mk ((by rw [hg]; exact Nat.ne_of_lt (IsS64.lt (show IsS64 w _ g288 t285 t286 t287 from by repeat (first | (with_reducible first | exact HI288.out | apply IsS64.alloc | apply IsS64.drewN | apply IsS64.drew | apply IsS64.set_1 | apply IsS64.set_2) | exact HI288.out))) : g288 ≠ gb294)); have n7_ := Aside0.mk ((by rw [hg]; exact Nat.ne_of_gt (IsS64.lt (show IsS64 w _ g288 t285 t286 t287 from by repeat (first | (with_reducible first | exact HI288.out | apply IsS64.alloc | apply IsS64.drewN | apply IsS64.drew | apply IsS64.set_1 | apply IsS64.set_2) | exact HI288.out))) : gb294 ≠ g288)); clear HO292; clear HI288; clear HB; have HO292 := n0_; have HI288 := n1_; have HB := n2_; have BK294 := n3_; have GW294 := n4_; have GE294 := n5_; have NB288_294 := n6_; have NB294_288 := n7_; clear n0_ n1_ n2_ n3_ n4_ n5_ n6_ n7_; clear hb hbox hg; have hnb16 := NB294_288.out; have hnc16 := NB288_294.out; have hcz17_0 : w15.cell? ⟨gb294, 0, none⟩ = some (.int .i64 0) := (blk_cell BK294.out 0).trans rfl; have hcz17_1 : w15.cell? ⟨gb294, 1, none⟩ = some (.slice none 0 0) := (blk_cell BK294.out 1).trans rfl; have hfz17_0 := blk_frozen BK294.out 0; have hfz17_1 := blk_frozen BK294.out 1; obtain ⟨Ao18, co18, eo18⟩ := Kd.S_slice HO292.out; subst eo18) | (go_at_call 15; (with_reducible refine (impl_RepresentationCount.calls k t289 _ _ t290 t293 t295 t296 _ ?side1 ?side2 A6.out).mono ?_); (case side1 => refine (Kd.S_reads' (e := 47) (base := w.heap.size) (ok := fun k_ => True) (n := t290.length) (c := co18) ?_).2.2; exact (by (with_reducible repeat (first | apply Kd.S_alloc | apply Kd.S_drewN | apply Kd.S_drew)); exact (Kd.S_mono (Kd.S_far (p := ⟨gb294, 1, none⟩) (Kd.S_far (p := ⟨gb294, 0, none⟩) (Kd.S_types HO292.out BK294.out (by decide)) (fun _ hk => hk.2) (.int .i64 t289)) (fun _ hk => hk.2) (.slice Ao18 t290.length co18)) (fun _ h_ => h_.1)))); (case side2 => exact (Kd.S_reads' HO292.out).2.1); rintro e w19 ⟨rfl, hb⟩; have n0_ := Aside0.mk (Kd.S_below (by (with_reducible repeat (first | apply Kd.S_alloc | apply Kd.S_drewN | apply Kd.S_drew)); exact (Kd.S_mono (Kd.S_far (p := ⟨gb294, 1, none⟩) (Kd.S_far (p := ⟨gb294, 0, none⟩) (Kd.S_types HO292.out BK294.out (by decide)) (fun _ hk => hk.2) (.int .i64 t289)) (fun _ hk => hk.2) (.slice Ao18 t290.length co18)) (fun _ h_ => h_.1))) hb); have n1_ := Aside0.mk (IsS64.below (show IsS64 w ((w15.setCell ⟨gb294, 0, none⟩ (.int .i64 t289)).setCell ⟨gb294, 1, none⟩ (.slice Ao18 t290.length co18)) g288 t285 t286 t287 from by repeat (first | (with_reducible first | exact HI288.out | apply IsS64.alloc | apply IsS64.drewN | apply IsS64.drew | apply IsS64.set_1 | apply IsS64.set_2 | refine IsS64.far ?_ NB288_294.out _) | exact HI288.out)) hb); have n2_ := Aside0.mk (blk_below (g := gb294) (o := .cells #[.int .i64 t289, .slice Ao18 t290.length co18] 28 (0, 0)) (by (with_reducible repeat (first | refine blk_drewN ?_ _ | refine blk_drew ?_ | refine blk_alloc ?_ _)); refine blk_put (cs := #[.int .i64 t289, .slice none 0 0]) ?_ 1 _ rfl; (with_reducible repeat (first | refine blk_drewN ?_ _ | refine blk_drew ?_ | refine blk_alloc ?_ _)); refine blk_put (cs := #[.int .i64 0, .slice none 0 0]) ?_ 0 _ rfl; (with_reducible repeat (first | refine blk_drewN ?_ _ | refine blk_drew ?_ | refine blk_alloc ?_ _)); exact BK294.out) hb); have n3_ := Aside0.mk (below_step (by repeat (first | (with_reducible first | exact HB.out | apply below_alloc | apply pw_below_drewN | apply below_drew1 | refine below_set ?_ (IsS64.ge HI288.out) | refine below_set ?_ GE294.out) | exact HB.out)) hb); clear HO292; clear HI288; clear BK294; clear HB; have HO292 := n0_; have HI288 := n1_; have BK294 := n2_; have HB := n3_; clear n0_ n1_ n2_ n3_; (try clear hb); (try clear hb2); (try clear hk); (try clear hi)) | (go_at_call 26; (with_reducible refine (laws_dice_below.calls g288 t285 t286 t287 t295 t301 t302 t303 w _ ?side1 ?side2 A9.out).mono ?_); (case side1 => repeat (first | (with_reducible first | exact HI288.out | apply IsS64.alloc | apply IsS64.drewN | apply IsS64.drew | apply IsS64.set_1 | apply IsS64.set_2 | refine IsS64.far ?_ NB288_294.out _) | exact HI288.out)); (case side2 => repeat (first | (with_reducible first | exact HB.out | apply below_alloc | apply pw_below_drewN | apply below_drew1 | refine below_set ?_ (IsS64.ge HI288.out) | refine below_set ?_ GE294.out) | exact HB.out)); rintro e w20 ⟨rfl, hi, hb, hk⟩; have n0_ := Aside0.mk (Kd.S_mono (Kd.S_keep (IsS64.apartS (show IsS64 w _ g288 t285 t286 t287 from by repeat (first | (with_reducible first | exact HI288.out | apply IsS64.alloc | apply IsS64.drewN | apply IsS64.drew | apply IsS64.set_1 | apply IsS64.set_2 | refine IsS64.far ?_ NB288_294.out _) | exact HI288.out)) (by (with_reducible repeat (first | apply Kd.S_alloc | apply Kd.S_drewN | apply Kd.S_drew)); exact HO292.out) (by decide)) hk (fun _ h => h.2)) (fun _ h => h.1)); have n1_ := Aside0.mk (KeepBut.blk hk (g' := gb294) (o := .cells #[.int .i64 t289, .slice Ao18 t290.length co18] 28 (0, 0)) (by (with_reducible repeat (first | refine blk_drewN ?_ _ | refine blk_drew ?_ | refine blk_alloc ?_ _)); exact BK294.out) NB294_288.out (by simp)); have n2_ := Aside0.mk (hb); have n3_ := Aside0.mk (hi); clear HO292; clear BK294; clear HB; clear HI288; have HO292 := n0_; have BK294 := n1_; have HB := n2_; have HI288 := n3_; clear n0_ n1_ n2_ n3_; (try clear hb); (try clear hb2); (try clear hk); (try clear hi); have hcz21_0 : w20.cell? ⟨gb294, 0, none⟩ = some (.int .i64 t289) := (blk_cell BK294.out 0).trans rfl; have hcz21_1 : w20.cell? ⟨gb294, 1, none⟩ = some (.slice Ao18 t290.length co18) := (blk_cell BK294.out 1).trans rfl; have hfz21_0 := blk_frozen BK294.out 0; have hfz21_1 := blk_frozen BK294.out 1) | (go_at_call 18; (with_reducible refine (impl_RepresentationAt.calls k t289 _ _ t290 t293 t301 t304 t307 _ ?side1 ?side2 A10.out).mono ?_); (case side1 => repeat (first | exact (Kd.S_reads' HO292.out).2.2 | (with_reducible refine Kd.C_alloc ?_ _) | (with_reducible refine Kd.C_drewN ?_ _) | (with_reducible refine Kd.C_drew ?_))); (case side2 => exact (Kd.S_reads' HO292.out).2.1); rintro e w22 ⟨v305, rfl, ho0, hb⟩; have n0_ := Aside0.mk (Kd.S_elder' (by (with_reducible repeat (first | apply Kd.S_alloc | apply Kd.S_drewN | apply Kd.S_drew)); exact HO292.out) (Kd.S_base ho0) hb); have n1_ := Aside0.mk (Kd.S_lower (Kd.S_new' ho0 (Kd.S_lt (by (with_reducible repeat (first | apply Kd.S_alloc | apply Kd.S_drewN | apply Kd.S_drew)); exact HO292.out))) (below_size (by repeat (first | (with_reducible first | exact HB.out | apply below_alloc | apply pw_below_drewN | apply below_drew1 | refine below_set ?_ (IsS64.ge HI288.out) | refine below_set ?_ GE294.out) | exact HB.out)))); have n2_ := Aside0.mk (IsS64.below (by repeat (first | (with_reducible first | exact HI288.out | apply IsS64.alloc | apply IsS64.drewN | apply IsS64.drew | apply IsS64.set_1 | apply IsS64.set_2 | refine IsS64.far ?_ NB288_294.out _) | exact HI288.out)) hb); have n3_ := Aside0.mk (blk_below (g := gb294) (o := .cells #[.int .i64 t289, .slice Ao18 t290.length co18] 28 (0, 0)) (by (with_reducible repeat (first | refine blk_drewN ?_ _ | refine blk_drew ?_ | refine blk_alloc ?_ _)); exact BK294.out) hb); have n4_ := Aside0.mk (below_step (by repeat (first | (with_reducible first | exact HB.out | apply below_alloc | apply pw_below_drewN | apply below_drew1 | refine below_set ?_ (IsS64.ge HI288.out) | refine below_set ?_ GE294.out) | exact HB.out)) hb); clear HO292; clear HI288; clear BK294; clear HB; have HO292 := n0_; have HO306 := n1_; have HI288 := n2_; have BK294 := n3_; have HB := n4_; clear n0_ n1_ n2_ n3_ n4_; (try clear hb); (try clear hb2); (try clear hk); (try clear hi); (try clear ho0); have hcz23_0 : w22.cell? ⟨gb294, 0, none⟩ = some (.int .i64 t289) := (blk_cell BK294.out 0).trans rfl; have hcz23_1 : w22.cell? ⟨gb294, 1, none⟩ = some (.slice Ao18 t290.length co18) := (blk_cell BK294.out 1).trans rfl; have hfz23_0 := blk_frozen BK294.out 0; have hfz23_1 := blk_frozen BK294.out 1) | (go_at_call 18; (with_reducible refine (impl_RepresentationAt.calls k t289 _ _ t290 t293 t295 t308 t311 _ ?side1 ?side2 A11.out).mono ?_); (case side1 => repeat (first | exact (Kd.S_reads' HO292.out).2.2 | (with_reducible refine Kd.C_alloc ?_ _) | (with_reducible refine Kd.C_drewN ?_ _) | (with_reducible refine Kd.C_drew ?_))); (case side2 => exact (Kd.S_reads' HO292.out).2.1); rintro e w24 ⟨v309, rfl, ho0, hb⟩; have n0_ := Aside0.mk (Kd.S_elder' (by (with_reducible repeat (first | apply Kd.S_alloc | apply Kd.S_drewN | apply Kd.S_drew)); exact HO292.out) (Kd.S_base ho0) hb); have n1_ := Aside0.mk (Kd.S_elder' (by (with_reducible repeat (first | apply Kd.S_alloc | apply Kd.S_drewN | apply Kd.S_drew)); exact HO306.out) (Kd.S_base ho0) hb); have n2_ := Aside0.mk (Kd.S_lower (Kd.S_new' (Kd.S_new' ho0 (Kd.S_lt (by (with_reducible repeat (first | apply Kd.S_alloc | apply Kd.S_drewN | apply Kd.S_drew)); exact HO292.out))) (Kd.S_lt (by (with_reducible repeat (first | apply Kd.S_alloc | apply Kd.S_drewN | apply Kd.S_drew)); exact HO306.out))) (below_size (by repeat (first | (with_reducible first | exact HB.out | apply below_alloc | apply pw_below_drewN | apply below_drew1 | refine below_set ?_ (IsS64.ge HI288.out) | refine below_set ?_ GE294.out) | exact HB.out)))); have n3_ := Aside0.mk (IsS64.below (by repeat (first | (with_reducible first | exact HI288.out | apply IsS64.alloc | apply IsS64.drewN | apply IsS64.drew | apply IsS64.set_1 | apply IsS64.set_2 | refine IsS64.far ?_ NB288_294.out _) | exact HI288.out)) hb); have n4_ := Aside0.mk (blk_below (g := gb294) (o := .cells #[.int .i64 t289, .slice Ao18 t290.length co18] 28 (0, 0)) (by (with_reducible repeat (first | refine blk_drewN ?_ _ | refine blk_drew ?_ | refine blk_alloc ?_ _)); exact BK294.out) hb); have n5_ := Aside0.mk (below_step (by repeat (first | (with_reducible first | exact HB.out | apply below_alloc | apply pw_below_drewN | apply below_drew1 | refine below_set ?_ (IsS64.ge HI288.out) | refine below_set ?_ GE294.out) | exact HB.out)) hb); clear HO292; clear HO306; clear HI288; clear BK294; clear HB; have HO292 := n0_; have HO306 := n1_; have HO310 := n2_; have HI288 := n3_; have BK294 := n4_; have HB := n5_; clear n0_ n1_ n2_ n3_ n4_ n5_; (try clear hb); (try clear hb2); (try clear hk); (try clear hi); (try clear ho0))); go_upto_region 14 with (first | (go_at_call 23; (with_reducible refine (laws_big.calls _ _ l0 false _ ?side1 ?side2 A2.out).mono ?_); (case side1 => repeat (first | exact HR0.out | (with_reducible refine Kd.C_alloc ?_ _) | (with_reducible refine Kd.C_drewN ?_ _) | (with_reducible refine Kd.C_drew ?_))); (case side2 => exact HC0.out); rintro e w' ⟨rfl, ⟨nd, rfl⟩⟩; (try first | exact ⟨rfl, _, World.drewN_drewN _ _ _⟩ | exact ⟨rfl, _, Eq.trans (World.drewN_drewN _ _ _) (congrArg (World.drewN _) (Nat.add_assoc _ _ _))⟩)) | (go_at_call 24; (with_reducible refine (laws_roll.calls k _ _ l0 7003 t285 t286 t287 w _ ?side1 ?side2 ?side3 A4.out).mono ?_); (case side1 => repeat (first | (with_reducible first | exact HB.out | apply below_alloc | apply pw_below_drewN | apply below_drew1) | exact HB.out)); (case side2 => exact HR0.out); (case side3 => exact HC0.out); rintro e w13 ⟨g288, rfl, hi, hb, hb2⟩; have n0_ := Aside0.mk (hb); have n1_ := Aside0.mk (hi); clear HB; have HB := n0_; have HI288 := n1_; clear n0_ n1_; (try clear hb); (try clear hb2); (try clear hk); (try clear hi)) | (go_at_call 25; (with_reducible refine (spec_DrawRepresentationCount.calls k _ _ l0 t289 t290 t293 _ ?side1 ?side2 A5.out).mono ?_); (case side1 => repeat (first | exact (Kd.C_below HR0.out HB.out) | (with_reducible refine Kd.C_alloc ?_ _) | (with_reducible refine Kd.C_drewN ?_ _) | (with_reducible refine Kd.C_drew ?_))); (case side2 => exact HC0.out); rintro e w14 ⟨v291, rfl, ho0, hb⟩; have n0_ := Aside0.mk (Kd.S_lower ho0 (below_size (by repeat (first | (with_reducible first | exact HB.out | apply below_alloc | apply pw_below_drewN | apply below_drew1 | refine below_set ?_ (IsS64.ge HI288.out)) | exact HB.out)))); have n1_ := Aside0.mk (IsS64.below (by repeat (first | (with_reducible first | exact HI288.out | apply IsS64.alloc | apply IsS64.drewN | apply IsS64.drew | apply IsS64.set_1 | apply IsS64.set_2) | exact HI288.out)) hb); have n2_ := Aside0.mk (below_step (by repeat (first | (with_reducible first | exact HB.out | apply below_alloc | apply pw_below_drewN | apply below_drew1 | refine below_set ?_ (IsS64.ge HI288.out)) | exact HB.out)) hb); clear HI288; clear HB; have HO292 := n0_; have HI288 := n1_; have HB := n2_; clear n0_ n1_ n2_; (try clear hb); (try clear hb2); (try clear hk); (try clear hi); (try clear ho0)) | ((with_reducible refine gate_dst (N := 4) rfl ?_); (try (refine gate_guard (by rfl) ?_; dsimp only)); refine box_event ?hg (N := 4) ?hd (cs := #[.int .i64 0, .slice none 0 0]) (t := 28) ?hr ?_; (case hd => rfl); (case hg => rfl); (case hr => first | (go_simp; done) | (go_simp; rfl)); intro gb294 hg w15 hbox hb; have n0_ := Aside0.mk (Kd.S_below (by (with_reducible repeat (first | apply Kd.S_alloc | apply Kd.S_drewN | apply Kd.S_drew)); exact HO292.out) hb); have n1_ := Aside0.mk (IsS64.below (by repeat (first | (with_reducible first | exact HI288.out | apply IsS64.alloc | apply IsS64.drewN | apply IsS64.drew | apply IsS64.set_1 | apply IsS64.set_2) | exact HI288.out)) hb); have n2_ := Aside0.mk (below_step (by repeat (first | (with_reducible first | exact HB.out | apply below_alloc | apply pw_below_drewN | apply below_drew1 | refine below_set ?_ (IsS64.ge HI288.out)) | exact HB.out)) hb); have n3_ := Aside0.mk (hbox); have n4_ := Aside0.mk ((by rw [hg]; exact (below_size (by repeat (first | (with_reducible first | exact HB.out | apply below_alloc | apply pw_below_drewN | apply below_drew1 | refine below_set ?_ (IsS64.ge HI288.out)) | exact HB.out))) : w.heap.size ≤ gb294)); have n5_ := Aside0.mk ((by rw [hg]; exact (below_size (by repeat (first | (with_reducible first | exact HB.out | apply below_alloc | apply pw_below_drewN | apply below_drew1 | refine below_set ?_ (IsS64.ge HI288.out)) | exact HB.out))) : w.heap.size ≤ gb294)); have n6_ := Aside0.mk ((by rw [hg]; exact Nat.ne_of_lt (IsS64.lt (show IsS64 w _ g288 t285 t286 t287 from by repeat (first | (with_reducible first | exact HI288.out | apply IsS64.alloc | apply IsS64.drewN | apply IsS64.drew | apply IsS64.set_1 | apply IsS64.set_2) | exact HI288.out))) : g288 ≠ gb294)); have n7_ := Aside0.mk ((by rw [hg]; exact Nat.ne_of_gt (IsS64.lt (show IsS64 w _ g288 t285 t286 t287 from by repeat (first | (with_reducible first | exact HI288.out | apply IsS64.alloc | apply IsS64.drewN | apply IsS64.drew | apply IsS64.set_1 | apply IsS64.set_2) | exact HI288.out))) : gb294 ≠ g288)); clear HO292; clear HI288; clear HB; have HO292 := n0_; have HI288 := n1_; have HB := n2_; have BK294 := n3_; have GW294 := n4_; have GE294 := n5_; have NB288_294 := n6_; have NB294_288 := n7_; clear n0_ n1_ n2_ n3_ n4_ n5_ n6_ n7_; clear hb hbox hg; have hnb16 := NB294_288.out; have hnc16 := NB288_294.out; have hcz17_0 : w15.cell? ⟨gb294, 0, none⟩ = some (.int .i64 0) := (blk_cell BK294.out 0).trans rfl; have hcz17_1 : w15.cell? ⟨gb294, 1, none⟩ = some (.slice none 0 0) := (blk_cell BK294.out 1).trans rfl; have hfz17_0 := blk_frozen BK294.out 0; have hfz17_1 := blk_frozen BK294.out 1; obtain ⟨Ao18, co18, eo18⟩ := Kd.S_slice HO292.out; subst eo18) | (go_at_call 15; (with_reducible refine (impl_RepresentationCount.calls k t289 _ _ t290 t293 t295 t296 _ ?side1 ?side2 A6.out).mono ?_); (case side1 => refine (Kd.S_reads' (e := 47) (base := w.heap.size) (ok := fun k_ => True) (n := t290.length) (c := co18) ?_).2.2; exact (by (with_reducible repeat (first | apply Kd.S_alloc | apply Kd.S_drewN | apply Kd.S_drew)); exact (Kd.S_mono (Kd.S_far (p := ⟨gb294, 1, none⟩) (Kd.S_far (p := ⟨gb294, 0, none⟩) (Kd.S_types HO292.out BK294.out (by decide)) (fun _ hk => hk.2) (.int .i64 t289)) (fun _ hk => hk.2) (.slice Ao18 t290.length co18)) (fun _ h_ => h_.1)))); (case side2 => exact (Kd.S_reads' HO292.out).2.1); rintro e w19 ⟨rfl, hb⟩; have n0_ := Aside0.mk (Kd.S_below (by (with_reducible repeat (first | apply Kd.S_alloc | apply Kd.S_drewN | apply Kd.S_drew)); exact (Kd.S_mono (Kd.S_far (p := ⟨gb294, 1, none⟩) (Kd.S_far (p := ⟨gb294, 0, none⟩) (Kd.S_types HO292.out BK294.out (by decide)) (fun _ hk => hk.2) (.int .i64 t289)) (fun _ hk => hk.2) (.slice Ao18 t290.length co18)) (fun _ h_ => h_.1))) hb); have n1_ := Aside0.mk (IsS64.below (show IsS64 w ((w15.setCell ⟨gb294, 0, none⟩ (.int .i64 t289)).setCell ⟨gb294, 1, none⟩ (.slice Ao18 t290.length co18)) g288 t285 t286 t287 from by repeat (first | (with_reducible first | exact HI288.out | apply IsS64.alloc | apply IsS64.drewN | apply IsS64.drew | apply IsS64.set_1 | apply IsS64.set_2 | refine IsS64.far ?_ NB288_294.out _) | exact HI288.out)) hb); have n2_ := Aside0.mk (blk_below (g := gb294) (o := .cells #[.int .i64 t289, .slice Ao18 t290.length co18] 28 (0, 0)) (by (with_reducible repeat (first | refine blk_drewN ?_ _ | refine blk_drew ?_ | refine blk_alloc ?_ _)); refine blk_put (cs := #[.int .i64 t289, .slice none 0 0]) ?_ 1 _ rfl; (with_reducible repeat (first | refine blk_drewN ?_ _ | refine blk_drew ?_ | refine blk_alloc ?_ _)); refine blk_put (cs := #[.int .i64 0, .slice none 0 0]) ?_ 0 _ rfl; (with_reducible repeat (first | refine blk_drewN ?_ _ | refine blk_drew ?_ | refine blk_alloc ?_ _)); exact BK294.out) hb); have n3_ := Aside0.mk (below_step (by repeat (first | (with_reducible first | exact HB.out | apply below_alloc | apply pw_below_drewN | apply below_drew1 | refine below_set ?_ (IsS64.ge HI288.out) | refine below_set ?_ GE294.out) | exact HB.out)) hb); clear HO292; clear HI288; clear BK294; clear HB; have HO292 := n0_; have HI288 := n1_; have BK294 := n2_; have HB := n3_; clear n0_ n1_ n2_ n3_; (try clear hb); (try clear hb2); (try clear hk); (try clear hi)) | (go_at_call 26; (with_reducible refine (laws_dice_below.calls g288 t285 t286 t287 t295 t301 t302 t303 w _ ?side1 ?side2 A9.out).mono ?_); (case side1 => repeat (first | (with_reducible first | exact HI288.out | apply IsS64.alloc | apply IsS64.drewN | apply IsS64.drew | apply IsS64.set_1 | apply IsS64.set_2 | refine IsS64.far ?_ NB288_294.out _) | exact HI288.out)); (case side2 => repeat (first | (with_reducible first | exact HB.out | apply below_alloc | apply pw_below_drewN | apply below_drew1 | refine below_set ?_ (IsS64.ge HI288.out) | refine below_set ?_ GE294.out) | exact HB.out)); rintro e w20 ⟨rfl, hi, hb, hk⟩; have n0_ := Aside0.mk (Kd.S_mono (Kd.S_keep (IsS64.apartS (show IsS64 w _ g288 t285 t286 t287 from by repeat (first | (with_reducible first | exact HI288.out | apply IsS64.alloc | apply IsS64.drewN | apply IsS64.drew | apply IsS64.set_1 | apply IsS64.set_2 | refine IsS64.far ?_ NB288_294.out _) | exact HI288.out)) (by (with_reducible repeat (first | apply Kd.S_alloc | apply Kd.S_drewN | apply Kd.S_drew)); exact HO292.out) (by decide)) hk (fun _ h => h.2)) (fun _ h => h.1)); have n1_ := Aside0.mk (KeepBut.blk hk (g' := gb294) (o := .cells #[.int .i64 t289, .slice Ao18 t290.length co18] 28 (0, 0)) (by (with_reducible repeat (first | refine blk_drewN ?_ _ | refine blk_drew ?_ | refine blk_alloc ?_ _)); exact BK294.out) NB294_288.out (by simp)); have n2_ := Aside0.mk (hb); have n3_ := Aside0.mk (hi); clear HO292; clear BK294; clear HB; clear HI288; have HO292 := n0_; have BK294 := n1_; have HB := n2_; have HI288 := n3_; clear n0_ n1_ n2_ n3_; (try clear hb); (try clear hb2); (try clear hk); (try clear hi); have hcz21_0 : w20.cell? ⟨gb294, 0, none⟩ = some (.int .i64 t289) := (blk_cell BK294.out 0).trans rfl; have hcz21_1 : w20.cell? ⟨gb294, 1, none⟩ = some (.slice Ao18 t290.length co18) := (blk_cell BK294.out 1).trans rfl; have hfz21_0 := blk_frozen BK294.out 0; have hfz21_1 := blk_frozen BK294.out 1) | (go_at_call 18; (with_reducible refine (impl_RepresentationAt.calls k t289 _ _ t290 t293 t301 t304 t307 _ ?side1 ?side2 A10.out).mono ?_); (case side1 => repeat (first | exact (Kd.S_reads' HO292.out).2.2 | (with_reducible refine Kd.C_alloc ?_ _) | (with_reducible refine Kd.C_drewN ?_ _) | (with_reducible refine Kd.C_drew ?_))); (case side2 => exact (Kd.S_reads' HO292.out).2.1); rintro e w22 ⟨v305, rfl, ho0, hb⟩; have n0_ := Aside0.mk (Kd.S_elder' (by (with_reducible repeat (first | apply Kd.S_alloc | apply Kd.S_drewN | apply Kd.S_drew)); exact HO292.out) (Kd.S_base ho0) hb); have n1_ := Aside0.mk (Kd.S_lower (Kd.S_new' ho0 (Kd.S_lt (by (with_reducible repeat (first | apply Kd.S_alloc | apply Kd.S_drewN | apply Kd.S_drew)); exact HO292.out))) (below_size (by repeat (first | (with_reducible first | exact HB.out | apply below_alloc | apply pw_below_drewN | apply below_drew1 | refine below_set ?_ (IsS64.ge HI288.out) | refine below_set ?_ GE294.out) | exact HB.out)))); have n2_ := Aside0.mk (IsS64.below (by repeat (first | (with_reducible first | exact HI288.out | apply IsS64.alloc | apply IsS64.drewN | apply IsS64.drew | apply IsS64.set_1 | apply IsS64.set_2 | refine IsS64.far ?_ NB288_294.out _) | exact HI288.out)) hb); have n3_ := Aside0.mk (blk_below (g := gb294) (o := .cells #[.int .i64 t289, .slice Ao18 t290.length co18] 28 (0, 0)) (by (with_reducible repeat (first | refine blk_drewN ?_ _ | refine blk_drew ?_ | refine blk_alloc ?_ _)); exact BK294.out) hb); have n4_ := Aside0.mk (below_step (by repeat (first | (with_reducible first | exact HB.out | apply below_alloc | apply pw_below_drewN | apply below_drew1 | refine below_set ?_ (IsS64.ge HI288.out) | refine below_set ?_ GE294.out) | exact HB.out)) hb); clear HO292; clear HI288; clear BK294; clear HB; have HO292 := n0_; have HO306 := n1_; have HI288 := n2_; have BK294 := n3_; have HB := n4_; clear n0_ n1_ n2_ n3_ n4_; (try clear hb); (try clear hb2); (try clear hk); (try clear hi); (try clear ho0); have hcz23_0 : w22.cell? ⟨gb294, 0, none⟩ = some (.int .i64 t289) := (blk_cell BK294.out 0).trans rfl; have hcz23_1 : w22.cell? ⟨gb294, 1, none⟩ = some (.slice Ao18 t290.length co18) := (blk_cell BK294.out 1).trans rfl; have hfz23_0 := blk_frozen BK294.out 0; have hfz23_1 := blk_frozen BK294.out 1) | (go_at_call 18; (with_reducible refine (impl_RepresentationAt.calls k t289 _ _ t290 t293 t295 t308 t311 _ ?side1 ?side2 A11.out).mono ?_); (case side1 => repeat (first | exact (Kd.S_reads' HO292.out).2.2 | (with_reducible refine Kd.C_alloc ?_ _) | (with_reducible refine Kd.C_drewN ?_ _) | (with_reducible refine Kd.C_drew ?_))); (case side2 => exact (Kd.S_reads' HO292.out).2.1); rintro e w24 ⟨v309, rfl, ho0, hb⟩; have n0_ := Aside0.mk (Kd.S_elder' (by (with_reducible repeat (first | apply Kd.S_alloc | apply Kd.S_drewN | apply Kd.S_drew)); exact HO292.out) (Kd.S_base ho0) hb); have n1_ := Aside0.mk (Kd.S_elder' (by (with_reducible repeat (first | apply Kd.S_alloc | apply Kd.S_drewN | apply Kd.S_drew)); exact HO306.out) (Kd.S_base ho0) hb); have n2_ := Aside0.mk (Kd.S_lower (Kd.S_new' (Kd.S_new' ho0 (Kd.S_lt (by (with_reducible repeat (first | apply Kd.S_alloc | apply Kd.S_drewN | apply Kd.S_drew)); exact HO292.out))) (Kd.S_lt (by (with_reducible repeat (first | apply Kd.S_alloc | apply Kd.S_drewN | apply Kd.S_drew)); exact HO306.out))) (below_size (by repeat (first | (with_reducible first | exact HB.out | apply below_alloc | apply pw_below_drewN | apply below_drew1 | refine below_set ?_ (IsS64.ge HI288.out) | refine below_set ?_ GE294.out) | exact HB.out)))); have n3_ := Aside0.mk (IsS64.below (by repeat (first | (with_reducible first | exact HI288.out | apply IsS64.alloc | apply IsS64.drewN | apply IsS64.drew | apply IsS64.set_1 | apply IsS64.set_2 | refine IsS64.far ?_ NB288_294.out _) | exact HI288.out)) hb); have n4_ := Aside0.mk (blk_below (g := gb294) (o := .cells #[.int .i64 t289, .slice Ao18 t290.length co18] 28 (0, 0)) (by (with_reducible repeat (first | refine blk_drewN ?_ _ | refine blk_drew ?_ | refine blk_alloc ?_ _)); exact BK294.out) hb); have n5_ := Aside0.mk (below_step (by repeat (first | (with_reducible first | exact HB.out | apply below_alloc | apply pw_below_drewN | apply below_drew1 | refine below_set ?_ (IsS64.ge HI288.out) | refine below_set ?_ GE294.out) | exact HB.out)) hb); clear HO292; clear HO306; clear HI288; clear BK294; clear HB; have HO292 := n0_; have HO306 := n1_; have HO310 := n2_; have HI288 := n3_; have BK294 := n4_; have HB := n5_; clear n0_ n1_ n2_ n3_ n4_ n5_; (try clear hb); (try clear hb2); (try clear hk); (try clear hi); (try clear ho0))))
        (try simp only [Act.put, List.setIfInBounds_toArray, List.set_cons_zero, List.set_cons_succ])
        go_cut [80] (fun v80 wc => ∃ (kq : Nat) (x80_11 : Bool), v80 = .bool x80_11 ∧ Aside0 (laws_FnRepresentations.j0 kq t293 t301 t304 x80_11 t289 t290 = some r) ∧ Aside0 (kq ≤ k) ∧ Aside0 (Kd.S (Kd.slice 2 (Kd.int .i64)) 47 wc w.heap.size (fun k_ => some k_ ≠ ((.slice Ao18 t290.length co18) : Value).ownBlock) v305 t304) ∧ Aside0 (Kd.S (Kd.slice 2 (Kd.int .i64)) 47 wc w.heap.size (fun k_ => some k_ ≠ (v305 : Value).ownBlock) (.slice Ao18 t290.length co18) t290) ∧ Aside0 (wc.heap[gb294]? = some (.cells #[.int .i64 t289, (.slice Ao18 t290.length co18)] 28 (0, 0))) ∧ Aside0 (Below w.heap.size w wc))
        case first =>
          have H := HC12.out
          clear HC12
          by_cases c25 : t307 = 0
          · rw [if_pos c25] at H
            have c25b0 : (t307 == 0) = true := beq_iff_eq.mpr c25
            have c25b1 : (t307 != 0) = false := bne_eq_false_iff_eq.mpr c25
            clear c25
            (first | rw [c25b0] | (simp only [i64_w, i32_w]; rw [c25b0]) | skip)
            by_cases c26 : t311 = 4
            · rw [if_pos c26] at H
              have c26b0 : (t311 == 4) = true := beq_iff_eq.mpr c26
              have c26b1 : (t311 != 4) = false := bne_eq_false_iff_eq.mpr c26
              clear c26
              replace H := Option.bind_eq_some_iff.mp H
              obtain ⟨t312, A270, H⟩ := H
              replace H : (laws_FnRepresentations.j0 k t293 t301 t304 (!t312) t289 t290) = some r := H
              have A27 := Aside0.mk A270
              clear A270
              have H' := Aside0.mk H
              clear H
              have hnb28 := NB294_288.out
              have hnc28 := NB288_294.out
              have hcz29_0 : w24.cell? ⟨gb294, 0, none⟩ = some (.int .i64 t289) := (blk_cell BK294.out 0).trans rfl
              have hcz29_1 : w24.cell? ⟨gb294, 1, none⟩ = some (.slice Ao18 t290.length co18) := (blk_cell BK294.out 1).trans rfl
              have hfz29_0 := blk_frozen BK294.out 0
              have hfz29_1 := blk_frozen BK294.out 1
              obtain ⟨Ao30, co30, eo30⟩ := Kd.S_slice HO306.out
              subst eo30
              go_wp2_with (first | (go_at_call 27; (with_reducible refine (impl_IsRepresentation.calls k t289 _ _ t290 t293 _ _ t304 t312 _ ?side1 ?side2 ?side3 ?side4 A27.out).mono ?_); (case side1 => repeat (first | exact (Kd.S_reads' HO292.out).2.2 | (with_reducible refine Kd.C_alloc ?_ _) | (with_reducible refine Kd.C_drewN ?_ _) | (with_reducible refine Kd.C_drew ?_))); (case side2 => exact (Kd.S_reads' HO292.out).2.1); (case side3 => repeat (first | exact (Kd.S_reads' HO306.out).2.2 | (with_reducible refine Kd.C_alloc ?_ _) | (with_reducible refine Kd.C_drewN ?_ _) | (with_reducible refine Kd.C_drew ?_))); (case side4 => exact (Kd.S_reads' HO306.out).2.1); rintro e w31 ⟨rfl, hb⟩; have n0_ := Aside0.mk (Kd.S_below (by (with_reducible repeat (first | apply Kd.S_alloc | apply Kd.S_drewN | apply Kd.S_drew)); exact HO292.out) hb); have n1_ := Aside0.mk (Kd.S_below (by (with_reducible repeat (first | apply Kd.S_alloc | apply Kd.S_drewN | apply Kd.S_drew)); exact HO306.out) hb); have n2_ := Aside0.mk (Kd.S_below (by (with_reducible repeat (first | apply Kd.S_alloc | apply Kd.S_drewN | apply Kd.S_drew)); exact HO310.out) hb); have n3_ := Aside0.mk (IsS64.below (by repeat (first | (with_reducible first | exact HI288.out | apply IsS64.alloc | apply IsS64.drewN | apply IsS64.drew | apply IsS64.set_1 | apply IsS64.set_2 | refine IsS64.far ?_ NB288_294.out _) | exact HI288.out)) hb); have n4_ := Aside0.mk (blk_below (g := gb294) (o := .cells #[.int .i64 t289, .slice Ao18 t290.length co18] 28 (0, 0)) (by (with_reducible repeat (first | refine blk_drewN ?_ _ | refine blk_drew ?_ | refine blk_alloc ?_ _)); exact BK294.out) hb); have n5_ := Aside0.mk (below_step (by repeat (first | (with_reducible first | exact HB.out | apply below_alloc | apply pw_below_drewN | apply below_drew1 | refine below_set ?_ (IsS64.ge HI288.out) | refine below_set ?_ GE294.out) | exact HB.out)) hb); clear HO292; clear HO306; clear HO310; clear HI288; clear BK294; clear HB; have HO292 := n0_; have HO306 := n1_; have HO310 := n2_; have HI288 := n3_; have BK294 := n4_; have HB := n5_; clear n0_ n1_ n2_ n3_ n4_ n5_; (try clear hb); (try clear hb2); (try clear hk); (try clear hi)))
              repeat (go_quiet (first | (go_at_call 27; (with_reducible refine (impl_IsRepresentation.calls k t289 _ _ t290 t293 _ _ t304 t312 _ ?side1 ?side2 ?side3 ?side4 A27.out).mono ?_); (case side1 => repeat (first | exact (Kd.S_reads' HO292.out).2.2 | (with_reducible refine Kd.C_alloc ?_ _) | (with_reducible refine Kd.C_drewN ?_ _) | (with_reducible refine Kd.C_drew ?_))); (case side2 => exact (Kd.S_reads' HO292.out).2.1); (case side3 => repeat (first | exact (Kd.S_reads' HO306.out).2.2 | (with_reducible refine Kd.C_alloc ?_ _) | (with_reducible refine Kd.C_drewN ?_ _) | (with_reducible refine Kd.C_drew ?_))); (case side4 => exact (Kd.S_reads' HO306.out).2.1); rintro e w31 ⟨rfl, hb⟩; have n0_ := Aside0.mk (Kd.S_below (by (with_reducible repeat (first | apply Kd.S_alloc | apply Kd.S_drewN | apply Kd.S_drew)); exact HO292.out) hb); have n1_ := Aside0.mk (Kd.S_below (by (with_reducible repeat (first | apply Kd.S_alloc | apply Kd.S_drewN | apply Kd.S_drew)); exact HO306.out) hb); have n2_ := Aside0.mk (Kd.S_below (by (with_reducible repeat (first | apply Kd.S_alloc | apply Kd.S_drewN | apply Kd.S_drew)); exact HO310.out) hb); have n3_ := Aside0.mk (IsS64.below (by repeat (first | (with_reducible first | exact HI288.out | apply IsS64.alloc | apply IsS64.drewN | apply IsS64.drew | apply IsS64.set_1 | apply IsS64.set_2 | refine IsS64.far ?_ NB288_294.out _) | exact HI288.out)) hb); have n4_ := Aside0.mk (blk_below (g := gb294) (o := .cells #[.int .i64 t289, .slice Ao18 t290.length co18] 28 (0, 0)) (by (with_reducible repeat (first | refine blk_drewN ?_ _ | refine blk_drew ?_ | refine blk_alloc ?_ _)); exact BK294.out) hb); have n5_ := Aside0.mk (below_step (by repeat (first | (with_reducible first | exact HB.out | apply below_alloc | apply pw_below_drewN | apply below_drew1 | refine below_set ?_ (IsS64.ge HI288.out) | refine below_set ?_ GE294.out) | exact HB.out)) hb); clear HO292; clear HO306; clear HO310; clear HI288; clear BK294; clear HB; have HO292 := n0_; have HO306 := n1_; have HO310 := n2_; have HI288 := n3_; have BK294 := n4_; have HB := n5_; clear n0_ n1_ n2_ n3_ n4_ n5_; (try clear hb); (try clear hb2); (try clear hk); (try clear hi))); try go_wp2_with (first | (go_at_call 27; (with_reducible refine (impl_IsRepresentation.calls k t289 _ _ t290 t293 _ _ t304 t312 _ ?side1 ?side2 ?side3 ?side4 A27.out).mono ?_); (case side1 => repeat (first | exact (Kd.S_reads' HO292.out).2.2 | (with_reducible refine Kd.C_alloc ?_ _) | (with_reducible refine Kd.C_drewN ?_ _) | (with_reducible refine Kd.C_drew ?_))); (case side2 => exact (Kd.S_reads' HO292.out).2.1); (case side3 => repeat (first | exact (Kd.S_reads' HO306.out).2.2 | (with_reducible refine Kd.C_alloc ?_ _) | (with_reducible refine Kd.C_drewN ?_ _) | (with_reducible refine Kd.C_drew ?_))); (case side4 => exact (Kd.S_reads' HO306.out).2.1); rintro e w31 ⟨rfl, hb⟩; have n0_ := Aside0.mk (Kd.S_below (by (with_reducible repeat (first | apply Kd.S_alloc | apply Kd.S_drewN | apply Kd.S_drew)); exact HO292.out) hb); have n1_ := Aside0.mk (Kd.S_below (by (with_reducible repeat (first | apply Kd.S_alloc | apply Kd.S_drewN | apply Kd.S_drew)); exact HO306.out) hb); have n2_ := Aside0.mk (Kd.S_below (by (with_reducible repeat (first | apply Kd.S_alloc | apply Kd.S_drewN | apply Kd.S_drew)); exact HO310.out) hb); have n3_ := Aside0.mk (IsS64.below (by repeat (first | (with_reducible first | exact HI288.out | apply IsS64.alloc | apply IsS64.drewN | apply IsS64.drew | apply IsS64.set_1 | apply IsS64.set_2 | refine IsS64.far ?_ NB288_294.out _) | exact HI288.out)) hb); have n4_ := Aside0.mk (blk_below (g := gb294) (o := .cells #[.int .i64 t289, .slice Ao18 t290.length co18] 28 (0, 0)) (by (with_reducible repeat (first | refine blk_drewN ?_ _ | refine blk_drew ?_ | refine blk_alloc ?_ _)); exact BK294.out) hb); have n5_ := Aside0.mk (below_step (by repeat (first | (with_reducible first | exact HB.out | apply below_alloc | apply pw_below_drewN | apply below_drew1 | refine below_set ?_ (IsS64.ge HI288.out) | refine below_set ?_ GE294.out) | exact HB.out)) hb); clear HO292; clear HO306; clear HO310; clear HI288; clear BK294; clear HB; have HO292 := n0_; have HO306 := n1_; have HO310 := n2_; have HI288 := n3_; have BK294 := n4_; have HB := n5_; clear n0_ n1_ n2_ n3_ n4_ n5_; (try clear hb); (try clear hb2); (try clear hk); (try clear hi))))
              go_meet
              case rel => exact ⟨_, (!t312), (by first | rfl | (simp; done) | (simp [*]; done)), H', ⟨by first | omega | exact Nat.le_refl _⟩, ⟨by (with_reducible repeat (first | apply Kd.S_alloc | apply Kd.S_drewN | apply Kd.S_drew)); exact Kd.S_mono HO306.out (fun _ hk => hk.1.2)⟩, ⟨by (with_reducible repeat (first | apply Kd.S_alloc | apply Kd.S_drewN | apply Kd.S_drew)); exact Kd.S_mono HO292.out (fun _ hk => hk.1.2)⟩, ⟨by (with_reducible repeat (first | refine blk_drewN ?_ _ | refine blk_drew ?_ | refine blk_alloc ?_ _)); exact BK294.out⟩, ⟨by repeat (first | (with_reducible first | exact HB.out | apply below_alloc | apply pw_below_drewN | apply below_drew1 | refine below_set ?_ (IsS64.ge HI288.out) | refine below_set ?_ GE294.out) | exact HB.out)⟩⟩
            · rw [if_neg c26] at H
              have c26b0 : (t311 == 4) = false := beq_eq_false_iff_ne.mpr c26
              have c26b1 : (t311 != 4) = true := bne_iff_ne.mpr c26
              have H' := Aside0.mk H
              clear H
              go_wp2
              repeat (go_quiet (fail); try go_wp2)
              go_meet
              case rel => exact ⟨_, (true), (by first | rfl | (simp; done) | (simp [*]; done)), H', ⟨by first | omega | exact Nat.le_refl _⟩, ⟨by (with_reducible repeat (first | apply Kd.S_alloc | apply Kd.S_drewN | apply Kd.S_drew)); exact Kd.S_mono HO306.out (fun _ hk => hk.1.2)⟩, ⟨by (with_reducible repeat (first | apply Kd.S_alloc | apply Kd.S_drewN | apply Kd.S_drew)); exact Kd.S_mono HO292.out (fun _ hk => hk.1.2)⟩, ⟨by (with_reducible repeat (first | refine blk_drewN ?_ _ | refine blk_drew ?_ | refine blk_alloc ?_ _)); exact BK294.out⟩, ⟨by repeat (first | (with_reducible first | exact HB.out | apply below_alloc | apply pw_below_drewN | apply below_drew1 | refine below_set ?_ (IsS64.ge HI288.out) | refine below_set ?_ GE294.out) | exact HB.out)⟩⟩
          · rw [if_neg c25] at H
            have c25b0 : (t307 == 0) = false := beq_eq_false_iff_ne.mpr c25
            have c25b1 : (t307 != 0) = true := bne_iff_ne.mpr c25
            (first | rw [c25b0] | (simp only [i64_w, i32_w]; rw [c25b0]) | skip)
            have H' := Aside0.mk H
            clear H
            go_wp2
            repeat (go_quiet (fail); try go_wp2)
            go_meet
            case rel => exact ⟨_, (true), (by first | rfl | (simp; done) | (simp [*]; done)), H', ⟨by first | omega | exact Nat.le_refl _⟩, ⟨by (with_reducible repeat (first | apply Kd.S_alloc | apply Kd.S_drewN | apply Kd.S_drew)); exact Kd.S_mono HO306.out (fun _ hk => hk.1.2)⟩, ⟨by (with_reducible repeat (first | apply Kd.S_alloc | apply Kd.S_drewN | apply Kd.S_drew)); exact Kd.S_mono HO292.out (fun _ hk => hk.1.2)⟩, ⟨by (with_reducible repeat (first | refine blk_drewN ?_ _ | refine blk_drew ?_ | refine blk_alloc ?_ _)); exact BK294.out⟩, ⟨by repeat (first | (with_reducible first | exact HB.out | apply below_alloc | apply pw_below_drewN | apply below_drew1 | refine below_set ?_ (IsS64.ge HI288.out) | refine below_set ?_ GE294.out) | exact HB.out)⟩⟩
        case rest =>
          clear HC12
          try clear c1
          try clear c2
          try clear p2
          try clear c3
          try clear c5
          try clear c7
          try clear c7b0
          try clear c7b1
          try clear c8
          try clear c8b0
          try clear c16
          try clear c25
          try clear c25b0
          try clear c25b1
          try clear c26
          try clear c26b0
          try clear c26b1
          try clear c28
          try clear hcz17_0
          try clear hcz17_1
          try clear hcz21_0
          try clear hcz21_1
          try clear hcz23_0
          try clear hcz23_1
          try clear hcz29_0
          try clear hcz29_1
          try clear hfz17_0
          try clear hfz17_1
          try clear hfz21_0
          try clear hfz21_1
          try clear hfz23_0
          try clear hfz23_1
          try clear hfz29_0
          try clear hfz29_1
          obtain ⟨kq, x80_11, rfl, HA, HJ11, HO_11, HO_295001, BK294, HB⟩ := hcut
          cases kq with
          | zero => exact absurd HA.out (by simp [laws_FnRepresentations.j0])
          | succ kj11 =>
            have H := HA.out
            clear HA
            simp only [laws_FnRepresentations.j0] at H
            by_cases c32 : x80_11 = true
            · subst c32
              have H1 : (some false) = some r := by rw [if_pos rfl] at H; exact H
              clear H
              have H := H1
              clear H1
              exact absurd ((Option.some.inj H).trans HTRUE_.out) (by simp)
            · replace c32 := Bool.eq_false_iff.mpr c32
              subst c32
              have H1 : (if t301 = 0 then (some true) else ((impl_RepresentationAt.f kj11 t289 t290 t293 (wrap64 (t301 - 1))).bind fun bt313 => (laws_FnRepresentations.l0 kj11 t304 bt313.1 bt313.2 0))) = some r := by rw [if_neg (show ¬ (false = true) by decide)] at H; exact H
              clear H
              have H := H1
              clear H1
              by_cases c33 : t301 = 0
              · rw [if_pos c33] at H
                have c33b0 : (t301 == 0) = true := beq_iff_eq.mpr c33
                have c33b1 : (t301 != 0) = false := bne_eq_false_iff_eq.mpr c33
                clear c33
                obtain rfl := Option.some.inj H
                go_wp2
                repeat (go_quiet (fail); try go_wp2)
                go_ret
                exact ⟨by first | rfl | (simp [errW_none, errW_some] <;> rfl) | (simp [*, errW_none, errW_some] <;> rfl), by repeat (first | (with_reducible first | exact HB.out | apply below_alloc | apply pw_below_drewN | apply below_drew1 | refine below_set ?_ GE294.out) | exact HB.out)⟩
              · rw [if_neg c33] at H
                have c33b0 : (t301 == 0) = false := beq_eq_false_iff_ne.mpr c33
                have c33b1 : (t301 != 0) = true := bne_iff_ne.mpr c33
                replace H := Option.bind_eq_some_iff.mp H
                obtain ⟨⟨t313, t316⟩, A340, H⟩ := H
                replace H : (laws_FnRepresentations.l0 kj11 t304 t313 t316 0) = some r := H
                have A34 := Aside0.mk A340
                clear A340
                have H' := Aside0.mk H
                clear H
                have hcz35_0 : wc.cell? ⟨gb294, 0, none⟩ = some (.int .i64 t289) := (blk_cell BK294.out 0).trans rfl
                have hcz35_1 : wc.cell? ⟨gb294, 1, none⟩ = some (.slice Ao18 t290.length co18) := (blk_cell BK294.out 1).trans rfl
                have hfz35_0 := blk_frozen BK294.out 0
                have hfz35_1 := blk_frozen BK294.out 1
                go_wp2_with (first | (go_at_call 18; (with_reducible refine (impl_RepresentationAt.calls kj11 t289 _ _ t290 t293 (wrap64 (t301 - 1)) t313 t316 _ ?side1 ?side2 A34.out).mono ?_); (case side1 => repeat (first | exact (Kd.S_reads' HO_295001.out).2.2 | (with_reducible refine Kd.C_alloc ?_ _) | (with_reducible refine Kd.C_drewN ?_ _) | (with_reducible refine Kd.C_drew ?_))); (case side2 => exact (Kd.S_reads' HO_295001.out).2.1); rintro e w36 ⟨v314, rfl, ho0, hb⟩; have n0_ := Aside0.mk (Kd.S_elder' (by (with_reducible repeat (first | apply Kd.S_alloc | apply Kd.S_drewN | apply Kd.S_drew)); exact HO_11.out) (Kd.S_base ho0) hb); have n1_ := Aside0.mk (Kd.S_elder' (by (with_reducible repeat (first | apply Kd.S_alloc | apply Kd.S_drewN | apply Kd.S_drew)); exact HO_295001.out) (Kd.S_base ho0) hb); have n2_ := Aside0.mk (Kd.S_lower (Kd.S_new' (Kd.S_new' ho0 (Kd.S_lt (by (with_reducible repeat (first | apply Kd.S_alloc | apply Kd.S_drewN | apply Kd.S_drew)); exact HO_11.out))) (Kd.S_lt (by (with_reducible repeat (first | apply Kd.S_alloc | apply Kd.S_drewN | apply Kd.S_drew)); exact HO_295001.out))) (below_size (by repeat (first | (with_reducible first | exact HB.out | apply below_alloc | apply pw_below_drewN | apply below_drew1 | refine below_set ?_ GE294.out) | exact HB.out)))); have n3_ := Aside0.mk (blk_below (g := gb294) (o := .cells #[.int .i64 t289, .slice Ao18 t290.length co18] 28 (0, 0)) (by (with_reducible repeat (first | refine blk_drewN ?_ _ | refine blk_drew ?_ | refine blk_alloc ?_ _)); exact BK294.out) hb); have n4_ := Aside0.mk (below_step (by repeat (first | (with_reducible first | exact HB.out | apply below_alloc | apply pw_below_drewN | apply below_drew1 | refine below_set ?_ GE294.out) | exact HB.out)) hb); clear HO_11; clear HO_295001; clear BK294; clear HB; have HO_11 := n0_; have HO_295001 := n1_; have HO315 := n2_; have BK294 := n3_; have HB := n4_; clear n0_ n1_ n2_ n3_ n4_; (try clear hb); (try clear hb2); (try clear hk); (try clear hi); (try clear ho0)))
                repeat (go_quiet (first | (go_at_call 18; (with_reducible refine (impl_RepresentationAt.calls kj11 t289 _ _ t290 t293 (wrap64 (t301 - 1)) t313 t316 _ ?side1 ?side2 A34.out).mono ?_); (case side1 => repeat (first | exact (Kd.S_reads' HO_295001.out).2.2 | (with_reducible refine Kd.C_alloc ?_ _) | (with_reducible refine Kd.C_drewN ?_ _) | (with_reducible refine Kd.C_drew ?_))); (case side2 => exact (Kd.S_reads' HO_295001.out).2.1); rintro e w36 ⟨v314, rfl, ho0, hb⟩; have n0_ := Aside0.mk (Kd.S_elder' (by (with_reducible repeat (first | apply Kd.S_alloc | apply Kd.S_drewN | apply Kd.S_drew)); exact HO_11.out) (Kd.S_base ho0) hb); have n1_ := Aside0.mk (Kd.S_elder' (by (with_reducible repeat (first | apply Kd.S_alloc | apply Kd.S_drewN | apply Kd.S_drew)); exact HO_295001.out) (Kd.S_base ho0) hb); have n2_ := Aside0.mk (Kd.S_lower (Kd.S_new' (Kd.S_new' ho0 (Kd.S_lt (by (with_reducible repeat (first | apply Kd.S_alloc | apply Kd.S_drewN | apply Kd.S_drew)); exact HO_11.out))) (Kd.S_lt (by (with_reducible repeat (first | apply Kd.S_alloc | apply Kd.S_drewN | apply Kd.S_drew)); exact HO_295001.out))) (below_size (by repeat (first | (with_reducible first | exact HB.out | apply below_alloc | apply pw_below_drewN | apply below_drew1 | refine below_set ?_ GE294.out) | exact HB.out)))); have n3_ := Aside0.mk (blk_below (g := gb294) (o := .cells #[.int .i64 t289, .slice Ao18 t290.length co18] 28 (0, 0)) (by (with_reducible repeat (first | refine blk_drewN ?_ _ | refine blk_drew ?_ | refine blk_alloc ?_ _)); exact BK294.out) hb); have n4_ := Aside0.mk (below_step (by repeat (first | (with_reducible first | exact HB.out | apply below_alloc | apply pw_below_drewN | apply below_drew1 | refine below_set ?_ GE294.out) | exact HB.out)) hb); clear HO_11; clear HO_295001; clear BK294; clear HB; have HO_11 := n0_; have HO_295001 := n1_; have HO315 := n2_; have BK294 := n3_; have HB := n4_; clear n0_ n1_ n2_ n3_ n4_; (try clear hb); (try clear hb2); (try clear hk); (try clear hi); (try clear ho0))); try go_wp2_with (first | (go_at_call 18; (with_reducible refine (impl_RepresentationAt.calls kj11 t289 _ _ t290 t293 (wrap64 (t301 - 1)) t313 t316 _ ?side1 ?side2 A34.out).mono ?_); (case side1 => repeat (first | exact (Kd.S_reads' HO_295001.out).2.2 | (with_reducible refine Kd.C_alloc ?_ _) | (with_reducible refine Kd.C_drewN ?_ _) | (with_reducible refine Kd.C_drew ?_))); (case side2 => exact (Kd.S_reads' HO_295001.out).2.1); rintro e w36 ⟨v314, rfl, ho0, hb⟩; have n0_ := Aside0.mk (Kd.S_elder' (by (with_reducible repeat (first | apply Kd.S_alloc | apply Kd.S_drewN | apply Kd.S_drew)); exact HO_11.out) (Kd.S_base ho0) hb); have n1_ := Aside0.mk (Kd.S_elder' (by (with_reducible repeat (first | apply Kd.S_alloc | apply Kd.S_drewN | apply Kd.S_drew)); exact HO_295001.out) (Kd.S_base ho0) hb); have n2_ := Aside0.mk (Kd.S_lower (Kd.S_new' (Kd.S_new' ho0 (Kd.S_lt (by (with_reducible repeat (first | apply Kd.S_alloc | apply Kd.S_drewN | apply Kd.S_drew)); exact HO_11.out))) (Kd.S_lt (by (with_reducible repeat (first | apply Kd.S_alloc | apply Kd.S_drewN | apply Kd.S_drew)); exact HO_295001.out))) (below_size (by repeat (first | (with_reducible first | exact HB.out | apply below_alloc | apply pw_below_drewN | apply below_drew1 | refine below_set ?_ GE294.out) | exact HB.out)))); have n3_ := Aside0.mk (blk_below (g := gb294) (o := .cells #[.int .i64 t289, .slice Ao18 t290.length co18] 28 (0, 0)) (by (with_reducible repeat (first | refine blk_drewN ?_ _ | refine blk_drew ?_ | refine blk_alloc ?_ _)); exact BK294.out) hb); have n4_ := Aside0.mk (below_step (by repeat (first | (with_reducible first | exact HB.out | apply below_alloc | apply pw_below_drewN | apply below_drew1 | refine below_set ?_ GE294.out) | exact HB.out)) hb); clear HO_11; clear HO_295001; clear BK294; clear HB; have HO_11 := n0_; have HO_295001 := n1_; have HO315 := n2_; have BK294 := n3_; have HB := n4_; clear n0_ n1_ n2_ n3_ n4_; (try clear hb); (try clear hb2); (try clear hk); (try clear hi); (try clear ho0))))
                go_loopg [17] kj11 (fun kq v17 w' => ∃ (x17_2 : Int), v17 = .int .i64 x17_2 ∧ Aside0 (laws_FnRepresentations.l0 kq t304 t313 t316 x17_2 = some r) ∧ Aside0 (kq ≤ kj11) ∧ Aside0 (Kd.S (Kd.slice 2 (Kd.int .i64)) 47 w' w.heap.size (fun k_ => some k_ ≠ (v314 : Value).ownBlock ∧ some k_ ≠ ((.slice Ao18 t290.length co18) : Value).ownBlock) v305 t304) ∧ Aside0 (Kd.S (Kd.slice 2 (Kd.int .i64)) 47 w' w.heap.size (fun k_ => some k_ ≠ (v305 : Value).ownBlock ∧ some k_ ≠ ((.slice Ao18 t290.length co18) : Value).ownBlock) v314 t313) ∧ Aside0 (Kd.S (Kd.slice 2 (Kd.int .i64)) 47 w' w.heap.size (fun k_ => some k_ ≠ (v305 : Value).ownBlock ∧ some k_ ≠ (v314 : Value).ownBlock) (.slice Ao18 t290.length co18) t290) ∧ Aside0 (w'.heap[gb294]? = some (.cells #[.int .i64 t289, (.slice Ao18 t290.length co18)] 28 (0, 0))) ∧ Aside0 (Below w.heap.size w w'))
                case atStart => exact ⟨(0), (by first | rfl | (simp; done) | (simp [*]; done)), H', ⟨Nat.le_refl _⟩, ⟨by (with_reducible repeat (first | apply Kd.S_alloc | apply Kd.S_drewN | apply Kd.S_drew)); exact Kd.S_mono HO_11.out (fun _ hk => ⟨hk.2, hk.1⟩)⟩, ⟨by (with_reducible repeat (first | apply Kd.S_alloc | apply Kd.S_drewN | apply Kd.S_drew)); exact Kd.S_mono HO315.out (fun _ hk => ⟨hk.1.2, hk.2⟩)⟩, ⟨by (with_reducible repeat (first | apply Kd.S_alloc | apply Kd.S_drewN | apply Kd.S_drew)); exact HO_295001.out⟩, ⟨by (with_reducible repeat (first | refine blk_drewN ?_ _ | refine blk_drew ?_ | refine blk_alloc ?_ _)); exact BK294.out⟩, ⟨by repeat (first | (with_reducible first | exact HB.out | apply below_alloc | apply pw_below_drewN | apply below_drew1 | refine below_set ?_ GE294.out) | exact HB.out)⟩⟩
                case round =>
                  clear H'
                  try clear c1
                  try clear c2
                  try clear p2
                  try clear c3
                  try clear c5
                  try clear p6
                  try clear c7
                  try clear c7b0
                  try clear c7b1
                  try clear c8
                  try clear c8b0
                  try clear c16
                  try clear c25
                  try clear c25b0
                  try clear c25b1
                  try clear c26
                  try clear c26b0
                  try clear c26b1
                  try clear c28
                  try clear c32
                  try clear c33
                  try clear c33b0
                  try clear c33b1
                  try clear hcz17_0
                  try clear hcz17_1
                  try clear hcz21_0
                  try clear hcz21_1
                  try clear hcz23_0
                  try clear hcz23_1
                  try clear hcz29_0
                  try clear hcz29_1
                  try clear hcz35_0
                  try clear hcz35_1
                  try clear hfz17_0
                  try clear hfz17_1
                  try clear hfz21_0
                  try clear hfz21_1
                  try clear hfz23_0
                  try clear hfz23_1
                  try clear hfz29_0
                  try clear hfz29_1
                  try clear hfz35_0
                  try clear hfz35_1
                  try clear p2
                  obtain ⟨x17_2, rfl, HA, HK2, HO_11, HO_15, HO_295001, BK294, HB⟩ := hrel
                  cases gk with
                  | zero => exact absurd HA.out (by simp [laws_FnRepresentations.l0])
                  | succ k2 =>
                    have H := HA.out
                    clear HA
                    simp only [laws_FnRepresentations.l0] at H
                    have HC37 := Aside0.mk H
                    clear H
                    go_upto_region 20 with (fail)
                    repeat (go_quiet (fail); go_upto_region 20 with (fail))
                    go_cut [100] (fun v100 wc => ∃ (kq : Nat) (x100_36 : Bool), v100 = .bool x100_36 ∧ Aside0 (laws_FnRepresentations.j2 kq t304 t313 t316 x17_2 x100_36 = some r) ∧ Aside0 (kq ≤ k2) ∧ Aside0 (Kd.S (Kd.slice 2 (Kd.int .i64)) 47 wc w.heap.size (fun k_ => some k_ ≠ (v314 : Value).ownBlock ∧ some k_ ≠ ((.slice Ao18 t290.length co18) : Value).ownBlock) v305 t304) ∧ Aside0 (Kd.S (Kd.slice 2 (Kd.int .i64)) 47 wc w.heap.size (fun k_ => some k_ ≠ (v305 : Value).ownBlock ∧ some k_ ≠ ((.slice Ao18 t290.length co18) : Value).ownBlock) v314 t313) ∧ Aside0 (Kd.S (Kd.slice 2 (Kd.int .i64)) 47 wc w.heap.size (fun k_ => some k_ ≠ (v305 : Value).ownBlock ∧ some k_ ≠ (v314 : Value).ownBlock) (.slice Ao18 t290.length co18) t290) ∧ Aside0 (wc.heap[gb294]? = some (.cells #[.int .i64 t289, (.slice Ao18 t290.length co18)] 28 (0, 0))) ∧ Aside0 (Below w.heap.size w wc))
                    case first =>
                      have H := HC37.out
                      clear HC37
                      by_cases c38 : x17_2 < (t304.length : Int)
                      · rw [if_pos c38] at H
                        have c38b0 : decide (x17_2 < (t304.length : Int)) = true := decide_eq_true c38
                        clear c38
                        (first | rw [c38b0] | (simp only [i64_w, i32_w]; rw [c38b0]) | skip)
                        have H' := Aside0.mk H
                        clear H
                        obtain ⟨Ao39, co39, eo39⟩ := Kd.S_slice HO_11.out
                        subst eo39
                        obtain ⟨Ao40, co40, eo40⟩ := Kd.S_slice HO_15.out
                        subst eo40
                        go_wp2
                        repeat (go_quiet (fail); try go_wp2)
                        go_meet
                        case rel => exact ⟨_, (decide (x17_2 < (t313.length : Int))), (by first | rfl | (simp; done) | (simp [*]; done)), H', ⟨by have := HJ11.out; have := HK2.out; first | omega | exact Nat.le_refl _⟩, ⟨by (with_reducible repeat (first | apply Kd.S_alloc | apply Kd.S_drewN | apply Kd.S_drew)); exact HO_11.out⟩, ⟨by (with_reducible repeat (first | apply Kd.S_alloc | apply Kd.S_drewN | apply Kd.S_drew)); exact HO_15.out⟩, ⟨by (with_reducible repeat (first | apply Kd.S_alloc | apply Kd.S_drewN | apply Kd.S_drew)); exact HO_295001.out⟩, ⟨by (with_reducible repeat (first | refine blk_drewN ?_ _ | refine blk_drew ?_ | refine blk_alloc ?_ _)); exact BK294.out⟩, ⟨by repeat (first | (with_reducible first | exact HB.out | apply below_alloc | apply pw_below_drewN | apply below_drew1 | refine below_set ?_ GE294.out) | exact HB.out)⟩⟩
                      · rw [if_neg c38] at H
                        have c38b0 : decide (x17_2 < (t304.length : Int)) = false := decide_eq_false c38
                        clear c38
                        (first | rw [c38b0] | (simp only [i64_w, i32_w]; rw [c38b0]) | skip)
                        have H' := Aside0.mk H
                        clear H
                        obtain ⟨Ao41, co41, eo41⟩ := Kd.S_slice HO_11.out
                        subst eo41
                        go_wp2
                        repeat (go_quiet (fail); try go_wp2)
                        go_meet
                        case rel => exact ⟨_, (false), (by first | rfl | (simp; done) | (simp [*]; done)), H', ⟨by have := HJ11.out; have := HK2.out; first | omega | exact Nat.le_refl _⟩, ⟨by (with_reducible repeat (first | apply Kd.S_alloc | apply Kd.S_drewN | apply Kd.S_drew)); exact HO_11.out⟩, ⟨by (with_reducible repeat (first | apply Kd.S_alloc | apply Kd.S_drewN | apply Kd.S_drew)); exact HO_15.out⟩, ⟨by (with_reducible repeat (first | apply Kd.S_alloc | apply Kd.S_drewN | apply Kd.S_drew)); exact HO_295001.out⟩, ⟨by (with_reducible repeat (first | refine blk_drewN ?_ _ | refine blk_drew ?_ | refine blk_alloc ?_ _)); exact BK294.out⟩, ⟨by repeat (first | (with_reducible first | exact HB.out | apply below_alloc | apply pw_below_drewN | apply below_drew1 | refine below_set ?_ GE294.out) | exact HB.out)⟩⟩
                    case rest =>
                      clear HC37
                      try clear c1
                      try clear c2
                      try clear p2
                      try clear c3
                      try clear c5
                      try clear p6
                      try clear c7
                      try clear c7b0
                      try clear c7b1
                      try clear c8
                      try clear c8b0
                      try clear c16
                      try clear c25
                      try clear c25b0
                      try clear c25b1
                      try clear c26
                      try clear c26b0
                      try clear c26b1
                      try clear c28
                      try clear c32
                      try clear c33
                      try clear c33b0
                      try clear c33b1
                      try clear c38
                      try clear c38b0
                      try clear hcz17_0
                      try clear hcz17_1
                      try clear hcz21_0
                      try clear hcz21_1
                      try clear hcz23_0
                      try clear hcz23_1
                      try clear hcz29_0
                      try clear hcz29_1
                      try clear hcz35_0
                      try clear hcz35_1
                      try clear hfz17_0
                      try clear hfz17_1
                      try clear hfz21_0
                      try clear hfz21_1
                      try clear hfz23_0
                      try clear hfz23_1
                      try clear hfz29_0
                      try clear hfz29_1
                      try clear hfz35_0
                      try clear hfz35_1
                      try clear p2
                      try clear p6
                      obtain ⟨kq, x100_36, rfl, HA, HJ36, HO_11, HO_15, HO_295001, BK294, HB⟩ := hcut
                      cases kq with
                      | zero => exact absurd HA.out (by simp [laws_FnRepresentations.j2])
                      | succ kj36 =>
                        have H := HA.out
                        clear HA
                        simp only [laws_FnRepresentations.j2] at H
                        by_cases c42 : x100_36 = true
                        · subst c42
                          have H1 : (laws_FnRepresentations.l1 kj36 t304 t313 t316 x17_2 0) = some r := by rw [if_pos rfl] at H; exact H
                          clear H
                          have H := H1
                          clear H1
                          have H' := Aside0.mk H
                          clear H
                          go_wp2
                          repeat (go_quiet (fail); try go_wp2)
                          go_loopg [18] kj36 (fun kq v18 w' => ∃ (x18_4 : Int), v18 = .int .i64 x18_4 ∧ Aside0 (laws_FnRepresentations.l1 kq t304 t313 t316 x17_2 x18_4 = some r) ∧ Aside0 (kq ≤ kj36) ∧ Aside0 (Kd.S (Kd.slice 2 (Kd.int .i64)) 47 w' w.heap.size (fun k_ => some k_ ≠ (v314 : Value).ownBlock ∧ some k_ ≠ ((.slice Ao18 t290.length co18) : Value).ownBlock) v305 t304) ∧ Aside0 (Kd.S (Kd.slice 2 (Kd.int .i64)) 47 w' w.heap.size (fun k_ => some k_ ≠ (v305 : Value).ownBlock ∧ some k_ ≠ ((.slice Ao18 t290.length co18) : Value).ownBlock) v314 t313) ∧ Aside0 (Kd.S (Kd.slice 2 (Kd.int .i64)) 47 w' w.heap.size (fun k_ => some k_ ≠ (v305 : Value).ownBlock ∧ some k_ ≠ (v314 : Value).ownBlock) (.slice Ao18 t290.length co18) t290) ∧ Aside0 (w'.heap[gb294]? = some (.cells #[.int .i64 t289, (.slice Ao18 t290.length co18)] 28 (0, 0))) ∧ Aside0 (Below w.heap.size w w'))
                          case atStart => exact ⟨(0), (by first | rfl | (simp; done) | (simp [*]; done)), H', ⟨Nat.le_refl _⟩, ⟨by (with_reducible repeat (first | apply Kd.S_alloc | apply Kd.S_drewN | apply Kd.S_drew)); exact HO_11.out⟩, ⟨by (with_reducible repeat (first | apply Kd.S_alloc | apply Kd.S_drewN | apply Kd.S_drew)); exact HO_15.out⟩, ⟨by (with_reducible repeat (first | apply Kd.S_alloc | apply Kd.S_drewN | apply Kd.S_drew)); exact HO_295001.out⟩, ⟨by (with_reducible repeat (first | refine blk_drewN ?_ _ | refine blk_drew ?_ | refine blk_alloc ?_ _)); exact BK294.out⟩, ⟨by repeat (first | (with_reducible first | exact HB.out | apply below_alloc | apply pw_below_drewN | apply below_drew1 | refine below_set ?_ GE294.out) | exact HB.out)⟩⟩
                          case round =>
                            clear H'
                            try clear c1
                            try clear c2
                            try clear p2
                            try clear c3
                            try clear c4
                            try clear c5
                            try clear p6
                            try clear c7
                            try clear c7b0
                            try clear c7b1
                            try clear c8
                            try clear c8b0
                            try clear c16
                            try clear c25
                            try clear c25b0
                            try clear c25b1
                            try clear c26
                            try clear c26b0
                            try clear c26b1
                            try clear c28
                            try clear c32
                            try clear c33
                            try clear c33b0
                            try clear c33b1
                            try clear c38
                            try clear c38b0
                            try clear c42
                            try clear hcz17_0
                            try clear hcz17_1
                            try clear hcz21_0
                            try clear hcz21_1
                            try clear hcz23_0
                            try clear hcz23_1
                            try clear hcz29_0
                            try clear hcz29_1
                            try clear hcz35_0
                            try clear hcz35_1
                            try clear hfz17_0
                            try clear hfz17_1
                            try clear hfz21_0
                            try clear hfz21_1
                            try clear hfz23_0
                            try clear hfz23_1
                            try clear hfz29_0
                            try clear hfz29_1
                            try clear hfz35_0
                            try clear hfz35_1
                            try clear p2
                            try clear p6
                            obtain ⟨x18_4, rfl, HA, HK4, HO_11, HO_15, HO_295001, BK294, HB⟩ := hrel
                            cases gk with
                            | zero => exact absurd HA.out (by simp [laws_FnRepresentations.l1])
                            | succ k4 =>
                              have H := HA.out
                              clear HA
                              simp only [laws_FnRepresentations.l1] at H
                              have HC43 := Aside0.mk H
                              clear H
                              go_upto_region 23 with (fail)
                              repeat (go_quiet (fail); go_upto_region 23 with (fail))
                              go_cut [118] (fun v118 wc => ∃ (kq : Nat) (x118_42 : Bool), v118 = .bool x118_42 ∧ Aside0 (laws_FnRepresentations.j4 kq t304 t313 t316 x17_2 x18_4 x118_42 = some r) ∧ Aside0 (kq ≤ k4) ∧ Aside0 (Kd.S (Kd.slice 2 (Kd.int .i64)) 47 wc w.heap.size (fun k_ => some k_ ≠ (v314 : Value).ownBlock ∧ some k_ ≠ ((.slice Ao18 t290.length co18) : Value).ownBlock) v305 t304) ∧ Aside0 (Kd.S (Kd.slice 2 (Kd.int .i64)) 47 wc w.heap.size (fun k_ => some k_ ≠ (v305 : Value).ownBlock ∧ some k_ ≠ ((.slice Ao18 t290.length co18) : Value).ownBlock) v314 t313) ∧ Aside0 (Kd.S (Kd.slice 2 (Kd.int .i64)) 47 wc w.heap.size (fun k_ => some k_ ≠ (v305 : Value).ownBlock ∧ some k_ ≠ (v314 : Value).ownBlock) (.slice Ao18 t290.length co18) t290) ∧ Aside0 (wc.heap[gb294]? = some (.cells #[.int .i64 t289, (.slice Ao18 t290.length co18)] 28 (0, 0))) ∧ Aside0 (Below w.heap.size w wc))
                              case first =>
                                have H := HC43.out
                                clear HC43
                                by_cases c44 : 0 ≤ x17_2
                                · rw [if_pos c44] at H
                                  have c44b0 : decide (0 ≤ x17_2) = true := decide_eq_true c44
                                  clear c44
                                  (first | rw [c44b0] | (simp only [i64_w, i32_w]; rw [c44b0]) | skip)
                                  by_cases c45 : x17_2 < (t304.length : Int)
                                  · rw [if_pos c45] at H
                                    have c45b0 : decide (x17_2 < (t304.length : Int)) = true := decide_eq_true c45
                                    clear c45
                                    by_cases c46 : x18_4 < ((rd_L1 t304 x17_2).length : Int)
                                    · rw [if_pos c46] at H
                                      have c46b0 : decide (x18_4 < ((rd_L1 t304 x17_2).length : Int)) = true := decide_eq_true c46
                                      clear c46
                                      by_cases c47 : x17_2 < (t313.length : Int)
                                      · rw [if_pos c47] at H
                                        have c47b0 : decide (x17_2 < (t313.length : Int)) = true := decide_eq_true c47
                                        clear c47
                                        have H' := Aside0.mk H
                                        clear H
                                        obtain ⟨Ao48, co48, eo48⟩ := Kd.S_slice HO_11.out
                                        subst eo48
                                        have p317 : 0 ≤ (x17_2 : Int) := of_decide_eq_true (by first | (with_reducible assumption) | assumption)
                                        have q317 : x17_2 < (t304.length : Int) := of_decide_eq_true (by first | (with_reducible assumption) | assumption)
                                        obtain ⟨ad317, A317_0, c317_0, e317, hx317_0, hl317_0, hi317_0⟩ := at_L1 (Kd.S_reads' HO_11.out).2.2 x17_2 p317 q317
                                        cases e317
                                        obtain ⟨ce317, hce317, hMe317, hcc317⟩ := Kd.S_get HO_11.out [] x17_2 p317 (by first | exact q317 | exact of_decide_eq_true (by first | (with_reducible assumption) | assumption) | (have e_ := (Kd.S_reads' HO_11.out).1; omega))
                                        obtain ⟨ve317_0, rfl, ge317_0⟩ := hMe317
                                        have hv317_0 := hcc317 0 _ rfl
                                        rw [Nat.add_zero, show ((Kd.slice 2 (Kd.int .i64))).sz = 1 from rfl, Nat.mul_one] at hv317_0
                                        replace hv317_0 := Option.some.inj (hv317_0.symm.trans hx317_0)
                                        rw [hv317_0] at ge317_0
                                        have HL317_0 := Aside0.mk (show Kd.R (Kd.int .i64) 2 _ _ _ _ (rd_L1 t304 x17_2) from ge317_0)
                                        clear hv317_0 ge317_0
                                        clear hcc317 hce317
                                        have HR317_0 := Aside0.mk hi317_0
                                        have HC317_0 := Aside0.mk hl317_0
                                        clear hi317_0 hl317_0
                                        replace p317 := eq_true p317
                                        replace q317 := eq_true q317
                                        obtain ⟨Ao49, co49, eo49⟩ := Kd.S_slice HO_15.out
                                        subst eo49
                                        have p318 : 0 ≤ (x17_2 : Int) := of_decide_eq_true (by first | (with_reducible assumption) | assumption)
                                        have q318 : x17_2 < (t313.length : Int) := of_decide_eq_true (by first | (with_reducible assumption) | assumption)
                                        obtain ⟨ad318, A318_0, c318_0, e318, hx318_0, hl318_0, hi318_0⟩ := at_L1 (Kd.S_reads' HO_15.out).2.2 x17_2 p318 q318
                                        cases e318
                                        obtain ⟨ce318, hce318, hMe318, hcc318⟩ := Kd.S_get HO_15.out [] x17_2 p318 (by first | exact q318 | exact of_decide_eq_true (by first | (with_reducible assumption) | assumption) | (have e_ := (Kd.S_reads' HO_15.out).1; omega))
                                        obtain ⟨ve318_0, rfl, ge318_0⟩ := hMe318
                                        have hv318_0 := hcc318 0 _ rfl
                                        rw [Nat.add_zero, show ((Kd.slice 2 (Kd.int .i64))).sz = 1 from rfl, Nat.mul_one] at hv318_0
                                        replace hv318_0 := Option.some.inj (hv318_0.symm.trans hx318_0)
                                        rw [hv318_0] at ge318_0
                                        have HL318_0 := Aside0.mk (show Kd.R (Kd.int .i64) 2 _ _ _ _ (rd_L1 t313 x17_2) from ge318_0)
                                        clear hv318_0 ge318_0
                                        clear hcc318 hce318
                                        have HR318_0 := Aside0.mk hi318_0
                                        have HC318_0 := Aside0.mk hl318_0
                                        clear hi318_0 hl318_0
                                        replace p318 := eq_true p318
                                        replace q318 := eq_true q318
                                        go_wp2
                                        repeat (go_quiet (fail); try go_wp2)
                                        go_meet
                                        case rel => exact ⟨_, (decide (x18_4 < ((rd_L1 t313 x17_2).length : Int))), (by first | rfl | (simp; done) | (simp [*]; done)), H', ⟨by have := HJ11.out; have := HK2.out; have := HJ36.out; have := HK4.out; first | omega | exact Nat.le_refl _⟩, ⟨by (with_reducible repeat (first | apply Kd.S_alloc | apply Kd.S_drewN | apply Kd.S_drew)); exact HO_11.out⟩, ⟨by (with_reducible repeat (first | apply Kd.S_alloc | apply Kd.S_drewN | apply Kd.S_drew)); exact HO_15.out⟩, ⟨by (with_reducible repeat (first | apply Kd.S_alloc | apply Kd.S_drewN | apply Kd.S_drew)); exact HO_295001.out⟩, ⟨by (with_reducible repeat (first | refine blk_drewN ?_ _ | refine blk_drew ?_ | refine blk_alloc ?_ _)); exact BK294.out⟩, ⟨by repeat (first | (with_reducible first | exact HB.out | apply below_alloc | apply pw_below_drewN | apply below_drew1 | refine below_set ?_ GE294.out) | exact HB.out)⟩⟩
                                      · rw [if_neg c47] at H
                                        exact absurd H (by simp)
                                    · rw [if_neg c46] at H
                                      have c46b0 : decide (x18_4 < ((rd_L1 t304 x17_2).length : Int)) = false := decide_eq_false c46
                                      clear c46
                                      have H' := Aside0.mk H
                                      clear H
                                      obtain ⟨Ao50, co50, eo50⟩ := Kd.S_slice HO_11.out
                                      subst eo50
                                      have p317 : 0 ≤ (x17_2 : Int) := of_decide_eq_true (by first | (with_reducible assumption) | assumption)
                                      have q317 : x17_2 < (t304.length : Int) := of_decide_eq_true (by first | (with_reducible assumption) | assumption)
                                      obtain ⟨ad317, A317_0, c317_0, e317, hx317_0, hl317_0, hi317_0⟩ := at_L1 (Kd.S_reads' HO_11.out).2.2 x17_2 p317 q317
                                      cases e317
                                      obtain ⟨ce317, hce317, hMe317, hcc317⟩ := Kd.S_get HO_11.out [] x17_2 p317 (by first | exact q317 | exact of_decide_eq_true (by first | (with_reducible assumption) | assumption) | (have e_ := (Kd.S_reads' HO_11.out).1; omega))
                                      obtain ⟨ve317_0, rfl, ge317_0⟩ := hMe317
                                      have hv317_0 := hcc317 0 _ rfl
                                      rw [Nat.add_zero, show ((Kd.slice 2 (Kd.int .i64))).sz = 1 from rfl, Nat.mul_one] at hv317_0
                                      replace hv317_0 := Option.some.inj (hv317_0.symm.trans hx317_0)
                                      rw [hv317_0] at ge317_0
                                      have HL317_0 := Aside0.mk (show Kd.R (Kd.int .i64) 2 _ _ _ _ (rd_L1 t304 x17_2) from ge317_0)
                                      clear hv317_0 ge317_0
                                      clear hcc317 hce317
                                      have HR317_0 := Aside0.mk hi317_0
                                      have HC317_0 := Aside0.mk hl317_0
                                      clear hi317_0 hl317_0
                                      replace p317 := eq_true p317
                                      replace q317 := eq_true q317
                                      go_wp2
                                      repeat (go_quiet (fail); try go_wp2)
                                      go_meet
                                      case rel => exact ⟨_, (false), (by first | rfl | (simp; done) | (simp [*]; done)), H', ⟨by have := HJ11.out; have := HK2.out; have := HJ36.out; have := HK4.out; first | omega | exact Nat.le_refl _⟩, ⟨by (with_reducible repeat (first | apply Kd.S_alloc | apply Kd.S_drewN | apply Kd.S_drew)); exact HO_11.out⟩, ⟨by (with_reducible repeat (first | apply Kd.S_alloc | apply Kd.S_drewN | apply Kd.S_drew)); exact HO_15.out⟩, ⟨by (with_reducible repeat (first | apply Kd.S_alloc | apply Kd.S_drewN | apply Kd.S_drew)); exact HO_295001.out⟩, ⟨by (with_reducible repeat (first | refine blk_drewN ?_ _ | refine blk_drew ?_ | refine blk_alloc ?_ _)); exact BK294.out⟩, ⟨by repeat (first | (with_reducible first | exact HB.out | apply below_alloc | apply pw_below_drewN | apply below_drew1 | refine below_set ?_ GE294.out) | exact HB.out)⟩⟩
                                  · rw [if_neg c45] at H
                                    exact absurd H (by simp)
                                · rw [if_neg c44] at H
                                  exact absurd H (by simp)
                              case rest =>
                                clear HC43
                                try clear c1
                                try clear c2
                                try clear p2
                                try clear c3
                                try clear p3
                                try clear q3
                                try clear hx3
                                try clear c4
                                try clear c5
                                try clear p6
                                try clear c7
                                try clear c7b0
                                try clear c7b1
                                try clear c8
                                try clear c8b0
                                try clear c16
                                try clear c25
                                try clear c25b0
                                try clear c25b1
                                try clear c26
                                try clear c26b0
                                try clear c26b1
                                try clear c28
                                try clear c31
                                try clear p31
                                try clear q31
                                try clear hx31
                                try clear c32
                                try clear c33
                                try clear c33b0
                                try clear c33b1
                                try clear c38
                                try clear c38b0
                                try clear c42
                                try clear c44
                                try clear c44b0
                                try clear c45
                                try clear c45b0
                                try clear c46
                                try clear c46b0
                                try clear c47
                                try clear c47b0
                                try clear hcz17_0
                                try clear hcz17_1
                                try clear hcz21_0
                                try clear hcz21_1
                                try clear hcz23_0
                                try clear hcz23_1
                                try clear hcz29_0
                                try clear hcz29_1
                                try clear hcz35_0
                                try clear hcz35_1
                                try clear hfz17_0
                                try clear hfz17_1
                                try clear hfz21_0
                                try clear hfz21_1
                                try clear hfz23_0
                                try clear hfz23_1
                                try clear hfz29_0
                                try clear hfz29_1
                                try clear hfz35_0
                                try clear hfz35_1
                                try clear hx317_0
                                try clear hx318_0
                                try clear p2
                                try clear p317
                                try clear p318
                                try clear p6
                                try clear q317
                                try clear q318
                                obtain ⟨kq, x118_42, rfl, HA, HJ42, HO_11, HO_15, HO_295001, BK294, HB⟩ := hcut
                                cases kq with
                                | zero => exact absurd HA.out (by simp [laws_FnRepresentations.j4])
                                | succ kj42 =>
                                  have H := HA.out
                                  clear HA
                                  simp only [laws_FnRepresentations.j4] at H
                                  by_cases c51 : x118_42 = true
                                  · subst c51
                                    have H1 : (if 0 ≤ x17_2 then (if x17_2 < (t304.length : Int) then (if 0 ≤ x18_4 then (if x18_4 < ((rd_L1 t304 x17_2).length : Int) then (if x17_2 < (t313.length : Int) then (if x18_4 < ((rd_L1 t313 x17_2).length : Int) then (if (rd (rd_L1 t304 x17_2) x18_4) = (rd (rd_L1 t313 x17_2) x18_4) then (laws_FnRepresentations.l1 kj42 t304 t313 t316 x17_2 (wrap64 (x18_4 + 1))) else (if t316 = 0 then (some (decide ((rd (rd_L1 t313 x17_2) x18_4) < (rd (rd_L1 t304 x17_2) x18_4)))) else (some false))) else (none)) else (none)) else (none)) else (none)) else (none)) else (none)) = some r := by rw [if_pos rfl] at H; exact H
                                    clear H
                                    have H := H1
                                    clear H1
                                    by_cases c52 : 0 ≤ x17_2
                                    · rw [if_pos c52] at H
                                      have c52b0 : decide (0 ≤ x17_2) = true := decide_eq_true c52
                                      clear c52
                                      by_cases c53 : x17_2 < (t304.length : Int)
                                      · rw [if_pos c53] at H
                                        have c53b0 : decide (x17_2 < (t304.length : Int)) = true := decide_eq_true c53
                                        clear c53
                                        by_cases c54 : 0 ≤ x18_4
                                        · rw [if_pos c54] at H
                                          have c54b0 : decide (0 ≤ x18_4) = true := decide_eq_true c54
                                          clear c54
                                          by_cases c55 : x18_4 < ((rd_L1 t304 x17_2).length : Int)
                                          · rw [if_pos c55] at H
                                            have c55b0 : decide (x18_4 < ((rd_L1 t304 x17_2).length : Int)) = true := decide_eq_true c55
                                            clear c55
                                            by_cases c56 : x17_2 < (t313.length : Int)
                                            · rw [if_pos c56] at H
                                              have c56b0 : decide (x17_2 < (t313.length : Int)) = true := decide_eq_true c56
                                              clear c56
                                              by_cases c57 : x18_4 < ((rd_L1 t313 x17_2).length : Int)
                                              · rw [if_pos c57] at H
                                                have c57b0 : decide (x18_4 < ((rd_L1 t313 x17_2).length : Int)) = true := decide_eq_true c57
                                                clear c57
                                                by_cases c58 : (rd (rd_L1 t304 x17_2) x18_4) = (rd (rd_L1 t313 x17_2) x18_4)
                                                · rw [if_pos c58] at H
                                                  have c58b0 : ((rd (rd_L1 t304 x17_2) x18_4) == (rd (rd_L1 t313 x17_2) x18_4)) = true := beq_iff_eq.mpr c58
                                                  have c58b1 : ((rd (rd_L1 t304 x17_2) x18_4) != (rd (rd_L1 t313 x17_2) x18_4)) = false := bne_eq_false_iff_eq.mpr c58
                                                  clear c58
                                                  have H' := Aside0.mk H
                                                  clear H
                                                  obtain ⟨Ao59, co59, eo59⟩ := Kd.S_slice HO_11.out
                                                  subst eo59
                                                  have p319 : 0 ≤ (x17_2 : Int) := of_decide_eq_true (by first | (with_reducible assumption) | assumption)
                                                  have q319 : x17_2 < (t304.length : Int) := of_decide_eq_true (by first | (with_reducible assumption) | assumption)
                                                  obtain ⟨ad319, A319_0, c319_0, e319, hx319_0, hl319_0, hi319_0⟩ := at_L1 (Kd.S_reads' HO_11.out).2.2 x17_2 p319 q319
                                                  cases e319
                                                  obtain ⟨ce319, hce319, hMe319, hcc319⟩ := Kd.S_get HO_11.out [] x17_2 p319 (by first | exact q319 | exact of_decide_eq_true (by first | (with_reducible assumption) | assumption) | (have e_ := (Kd.S_reads' HO_11.out).1; omega))
                                                  obtain ⟨ve319_0, rfl, ge319_0⟩ := hMe319
                                                  have hv319_0 := hcc319 0 _ rfl
                                                  rw [Nat.add_zero, show ((Kd.slice 2 (Kd.int .i64))).sz = 1 from rfl, Nat.mul_one] at hv319_0
                                                  replace hv319_0 := Option.some.inj (hv319_0.symm.trans hx319_0)
                                                  rw [hv319_0] at ge319_0
                                                  have HL319_0 := Aside0.mk (show Kd.R (Kd.int .i64) 2 _ _ _ _ (rd_L1 t304 x17_2) from ge319_0)
                                                  clear hv319_0 ge319_0
                                                  clear hcc319 hce319
                                                  have HR319_0 := Aside0.mk hi319_0
                                                  have HC319_0 := Aside0.mk hl319_0
                                                  clear hi319_0 hl319_0
                                                  replace p319 := eq_true p319
                                                  replace q319 := eq_true q319
                                                  have p320 : 0 ≤ (x18_4 : Int) := of_decide_eq_true (by first | (with_reducible assumption) | assumption)
                                                  have q320 : x18_4 < ((rd_L1 t304 x17_2).length : Int) := of_decide_eq_true (by first | (with_reducible assumption) | assumption)
                                                  obtain ⟨ad320, e320, hx320_0⟩ := Kd.at_int (by repeat (first | (with_reducible exact HR319_0.out) | (with_reducible refine Kd.C_alloc ?_ _) | (with_reducible refine Kd.C_drewN ?_ _) | (with_reducible refine Kd.C_drew ?_) | exact HR319_0.out)) x18_4 p320 q320
                                                  cases e320
                                                  replace p320 := eq_true p320
                                                  replace q320 := eq_true q320
                                                  obtain ⟨Ao60, co60, eo60⟩ := Kd.S_slice HO_15.out
                                                  subst eo60
                                                  have p321 : 0 ≤ (x17_2 : Int) := of_decide_eq_true (by first | (with_reducible assumption) | assumption)
                                                  have q321 : x17_2 < (t313.length : Int) := of_decide_eq_true (by first | (with_reducible assumption) | assumption)
                                                  obtain ⟨ad321, A321_0, c321_0, e321, hx321_0, hl321_0, hi321_0⟩ := at_L1 (Kd.S_reads' HO_15.out).2.2 x17_2 p321 q321
                                                  cases e321
                                                  obtain ⟨ce321, hce321, hMe321, hcc321⟩ := Kd.S_get HO_15.out [] x17_2 p321 (by first | exact q321 | exact of_decide_eq_true (by first | (with_reducible assumption) | assumption) | (have e_ := (Kd.S_reads' HO_15.out).1; omega))
                                                  obtain ⟨ve321_0, rfl, ge321_0⟩ := hMe321
                                                  have hv321_0 := hcc321 0 _ rfl
                                                  rw [Nat.add_zero, show ((Kd.slice 2 (Kd.int .i64))).sz = 1 from rfl, Nat.mul_one] at hv321_0
                                                  replace hv321_0 := Option.some.inj (hv321_0.symm.trans hx321_0)
                                                  rw [hv321_0] at ge321_0
                                                  have HL321_0 := Aside0.mk (show Kd.R (Kd.int .i64) 2 _ _ _ _ (rd_L1 t313 x17_2) from ge321_0)
                                                  clear hv321_0 ge321_0
                                                  clear hcc321 hce321
                                                  have HR321_0 := Aside0.mk hi321_0
                                                  have HC321_0 := Aside0.mk hl321_0
                                                  clear hi321_0 hl321_0
                                                  replace p321 := eq_true p321
                                                  replace q321 := eq_true q321
                                                  have p322 : 0 ≤ (x18_4 : Int) := of_decide_eq_true (by first | (with_reducible assumption) | assumption)
                                                  have q322 : x18_4 < ((rd_L1 t313 x17_2).length : Int) := of_decide_eq_true (by first | (with_reducible assumption) | assumption)
                                                  obtain ⟨ad322, e322, hx322_0⟩ := Kd.at_int (by repeat (first | (with_reducible exact HR321_0.out) | (with_reducible refine Kd.C_alloc ?_ _) | (with_reducible refine Kd.C_drewN ?_ _) | (with_reducible refine Kd.C_drew ?_) | exact HR321_0.out)) x18_4 p322 q322
                                                  cases e322
                                                  replace p322 := eq_true p322
                                                  replace q322 := eq_true q322
                                                  go_wp2
                                                  repeat (go_quiet (fail); try go_wp2)
                                                  go_roundg kj42
                                                  case measure => have := HJ11.out; have := HK2.out; have := HJ36.out; have := HK4.out; have := HJ42.out; omega
                                                  case rel => exact ⟨(wrap64 (x18_4 + 1)), (by first | rfl | (simp; done) | (simp [*]; done)), H', ⟨by have := HJ11.out; have := HK2.out; have := HJ36.out; have := HK4.out; have := HJ42.out; omega⟩, ⟨by (with_reducible repeat (first | apply Kd.S_alloc | apply Kd.S_drewN | apply Kd.S_drew)); exact HO_11.out⟩, ⟨by (with_reducible repeat (first | apply Kd.S_alloc | apply Kd.S_drewN | apply Kd.S_drew)); exact HO_15.out⟩, ⟨by (with_reducible repeat (first | apply Kd.S_alloc | apply Kd.S_drewN | apply Kd.S_drew)); exact HO_295001.out⟩, ⟨by (with_reducible repeat (first | refine blk_drewN ?_ _ | refine blk_drew ?_ | refine blk_alloc ?_ _)); exact BK294.out⟩, ⟨by repeat (first | (with_reducible first | exact HB.out | apply below_alloc | apply pw_below_drewN | apply below_drew1 | refine below_set ?_ GE294.out) | exact HB.out)⟩⟩
                                                · rw [if_neg c58] at H
                                                  have c58b0 : ((rd (rd_L1 t304 x17_2) x18_4) == (rd (rd_L1 t313 x17_2) x18_4)) = false := beq_eq_false_iff_ne.mpr c58
                                                  have c58b1 : ((rd (rd_L1 t304 x17_2) x18_4) != (rd (rd_L1 t313 x17_2) x18_4)) = true := bne_iff_ne.mpr c58
                                                  by_cases c61 : t316 = 0
                                                  · rw [if_pos c61] at H
                                                    have c61b0 : (t316 == 0) = true := beq_iff_eq.mpr c61
                                                    have c61b1 : (t316 != 0) = false := bne_eq_false_iff_eq.mpr c61
                                                    clear c61
                                                    obtain rfl := Option.some.inj H
                                                    obtain ⟨Ao62, co62, eo62⟩ := Kd.S_slice HO_11.out
                                                    subst eo62
                                                    have p319 : 0 ≤ (x17_2 : Int) := of_decide_eq_true (by first | (with_reducible assumption) | assumption)
                                                    have q319 : x17_2 < (t304.length : Int) := of_decide_eq_true (by first | (with_reducible assumption) | assumption)
                                                    obtain ⟨ad319, A319_0, c319_0, e319, hx319_0, hl319_0, hi319_0⟩ := at_L1 (Kd.S_reads' HO_11.out).2.2 x17_2 p319 q319
                                                    cases e319
                                                    obtain ⟨ce319, hce319, hMe319, hcc319⟩ := Kd.S_get HO_11.out [] x17_2 p319 (by first | exact q319 | exact of_decide_eq_true (by first | (with_reducible assumption) | assumption) | (have e_ := (Kd.S_reads' HO_11.out).1; omega))
                                                    obtain ⟨ve319_0, rfl, ge319_0⟩ := hMe319
                                                    have hv319_0 := hcc319 0 _ rfl
                                                    rw [Nat.add_zero, show ((Kd.slice 2 (Kd.int .i64))).sz = 1 from rfl, Nat.mul_one] at hv319_0
                                                    replace hv319_0 := Option.some.inj (hv319_0.symm.trans hx319_0)
                                                    rw [hv319_0] at ge319_0
                                                    have HL319_0 := Aside0.mk (show Kd.R (Kd.int .i64) 2 _ _ _ _ (rd_L1 t304 x17_2) from ge319_0)
                                                    clear hv319_0 ge319_0
                                                    clear hcc319 hce319
                                                    have HR319_0 := Aside0.mk hi319_0
                                                    have HC319_0 := Aside0.mk hl319_0
                                                    clear hi319_0 hl319_0
                                                    replace p319 := eq_true p319
                                                    replace q319 := eq_true q319
                                                    have p320 : 0 ≤ (x18_4 : Int) := of_decide_eq_true (by first | (with_reducible assumption) | assumption)
                                                    have q320 : x18_4 < ((rd_L1 t304 x17_2).length : Int) := of_decide_eq_true (by first | (with_reducible assumption) | assumption)
                                                    obtain ⟨ad320, e320, hx320_0⟩ := Kd.at_int (by repeat (first | (with_reducible exact HR319_0.out) | (with_reducible refine Kd.C_alloc ?_ _) | (with_reducible refine Kd.C_drewN ?_ _) | (with_reducible refine Kd.C_drew ?_) | exact HR319_0.out)) x18_4 p320 q320
                                                    cases e320
                                                    replace p320 := eq_true p320
                                                    replace q320 := eq_true q320
                                                    obtain ⟨Ao63, co63, eo63⟩ := Kd.S_slice HO_15.out
                                                    subst eo63
                                                    have p321 : 0 ≤ (x17_2 : Int) := of_decide_eq_true (by first | (with_reducible assumption) | assumption)
                                                    have q321 : x17_2 < (t313.length : Int) := of_decide_eq_true (by first | (with_reducible assumption) | assumption)
                                                    obtain ⟨ad321, A321_0, c321_0, e321, hx321_0, hl321_0, hi321_0⟩ := at_L1 (Kd.S_reads' HO_15.out).2.2 x17_2 p321 q321
                                                    cases e321
                                                    obtain ⟨ce321, hce321, hMe321, hcc321⟩ := Kd.S_get HO_15.out [] x17_2 p321 (by first | exact q321 | exact of_decide_eq_true (by first | (with_reducible assumption) | assumption) | (have e_ := (Kd.S_reads' HO_15.out).1; omega))
                                                    obtain ⟨ve321_0, rfl, ge321_0⟩ := hMe321
                                                    have hv321_0 := hcc321 0 _ rfl
                                                    rw [Nat.add_zero, show ((Kd.slice 2 (Kd.int .i64))).sz = 1 from rfl, Nat.mul_one] at hv321_0
                                                    replace hv321_0 := Option.some.inj (hv321_0.symm.trans hx321_0)
                                                    rw [hv321_0] at ge321_0
                                                    have HL321_0 := Aside0.mk (show Kd.R (Kd.int .i64) 2 _ _ _ _ (rd_L1 t313 x17_2) from ge321_0)
                                                    clear hv321_0 ge321_0
                                                    clear hcc321 hce321
                                                    have HR321_0 := Aside0.mk hi321_0
                                                    have HC321_0 := Aside0.mk hl321_0
                                                    clear hi321_0 hl321_0
                                                    replace p321 := eq_true p321
                                                    replace q321 := eq_true q321
                                                    have p322 : 0 ≤ (x18_4 : Int) := of_decide_eq_true (by first | (with_reducible assumption) | assumption)
                                                    have q322 : x18_4 < ((rd_L1 t313 x17_2).length : Int) := of_decide_eq_true (by first | (with_reducible assumption) | assumption)
                                                    obtain ⟨ad322, e322, hx322_0⟩ := Kd.at_int (by repeat (first | (with_reducible exact HR321_0.out) | (with_reducible refine Kd.C_alloc ?_ _) | (with_reducible refine Kd.C_drewN ?_ _) | (with_reducible refine Kd.C_drew ?_) | exact HR321_0.out)) x18_4 p322 q322
                                                    cases e322
                                                    replace p322 := eq_true p322
                                                    replace q322 := eq_true q322
                                                    have p323 : 0 ≤ (x17_2 : Int) := of_decide_eq_true (by first | (with_reducible assumption) | assumption)
                                                    have q323 : x17_2 < (t313.length : Int) := of_decide_eq_true (by first | (with_reducible assumption) | assumption)
                                                    obtain ⟨ad323, A323_0, c323_0, e323, hx323_0, hl323_0, hi323_0⟩ := at_L1 (Kd.S_reads' HO_15.out).2.2 x17_2 p323 q323
                                                    obtain rfl : ad321 = ad323 := (by injection e323)
                                                    obtain ⟨ce323, hce323, hMe323, hcc323⟩ := Kd.S_get HO_15.out [] x17_2 p323 (by first | exact q323 | exact of_decide_eq_true (by first | (with_reducible assumption) | assumption) | (have e_ := (Kd.S_reads' HO_15.out).1; omega))
                                                    obtain ⟨ve323_0, rfl, ge323_0⟩ := hMe323
                                                    have hv323_0 := hcc323 0 _ rfl
                                                    rw [Nat.add_zero, show ((Kd.slice 2 (Kd.int .i64))).sz = 1 from rfl, Nat.mul_one] at hv323_0
                                                    replace hv323_0 := Option.some.inj (hv323_0.symm.trans hx323_0)
                                                    rw [hv323_0] at ge323_0
                                                    have HL323_0 := Aside0.mk (show Kd.R (Kd.int .i64) 2 _ _ _ _ (rd_L1 t313 x17_2) from ge323_0)
                                                    clear hv323_0 ge323_0
                                                    clear hcc323 hce323
                                                    have HR323_0 := Aside0.mk hi323_0
                                                    have HC323_0 := Aside0.mk hl323_0
                                                    clear hi323_0 hl323_0
                                                    replace p323 := eq_true p323
                                                    replace q323 := eq_true q323
                                                    have ea_ := Option.some.inj (hx321_0.symm.trans hx323_0)
                                                    injection ea_ with ea_ en_ ec_
                                                    subst ea_
                                                    subst ec_
                                                    clear en_
                                                    have p324 : 0 ≤ (x18_4 : Int) := of_decide_eq_true (by first | (with_reducible assumption) | assumption)
                                                    have q324 : x18_4 < ((rd_L1 t313 x17_2).length : Int) := of_decide_eq_true (by first | (with_reducible assumption) | assumption)
                                                    obtain ⟨ad324, e324, hx324_0⟩ := Kd.at_int (by repeat (first | (with_reducible exact HR323_0.out) | (with_reducible refine Kd.C_alloc ?_ _) | (with_reducible refine Kd.C_drewN ?_ _) | (with_reducible refine Kd.C_drew ?_) | exact HR323_0.out)) x18_4 p324 q324
                                                    cases e324
                                                    replace p324 := eq_true p324
                                                    replace q324 := eq_true q324
                                                    have p325 : 0 ≤ (x17_2 : Int) := of_decide_eq_true (by first | (with_reducible assumption) | assumption)
                                                    have q325 : x17_2 < (t304.length : Int) := of_decide_eq_true (by first | (with_reducible assumption) | assumption)
                                                    obtain ⟨ad325, A325_0, c325_0, e325, hx325_0, hl325_0, hi325_0⟩ := at_L1 (Kd.S_reads' HO_11.out).2.2 x17_2 p325 q325
                                                    obtain rfl : ad319 = ad325 := (by injection e325)
                                                    obtain ⟨ce325, hce325, hMe325, hcc325⟩ := Kd.S_get HO_11.out [] x17_2 p325 (by first | exact q325 | exact of_decide_eq_true (by first | (with_reducible assumption) | assumption) | (have e_ := (Kd.S_reads' HO_11.out).1; omega))
                                                    obtain ⟨ve325_0, rfl, ge325_0⟩ := hMe325
                                                    have hv325_0 := hcc325 0 _ rfl
                                                    rw [Nat.add_zero, show ((Kd.slice 2 (Kd.int .i64))).sz = 1 from rfl, Nat.mul_one] at hv325_0
                                                    replace hv325_0 := Option.some.inj (hv325_0.symm.trans hx325_0)
                                                    rw [hv325_0] at ge325_0
                                                    have HL325_0 := Aside0.mk (show Kd.R (Kd.int .i64) 2 _ _ _ _ (rd_L1 t304 x17_2) from ge325_0)
                                                    clear hv325_0 ge325_0
                                                    clear hcc325 hce325
                                                    have HR325_0 := Aside0.mk hi325_0
                                                    have HC325_0 := Aside0.mk hl325_0
                                                    clear hi325_0 hl325_0
                                                    replace p325 := eq_true p325
                                                    replace q325 := eq_true q325
                                                    have ea_ := Option.some.inj (hx319_0.symm.trans hx325_0)
                                                    injection ea_ with ea_ en_ ec_
                                                    subst ea_
                                                    subst ec_
                                                    clear en_
                                                    have p326 : 0 ≤ (x18_4 : Int) := of_decide_eq_true (by first | (with_reducible assumption) | assumption)
                                                    have q326 : x18_4 < ((rd_L1 t304 x17_2).length : Int) := of_decide_eq_true (by first | (with_reducible assumption) | assumption)
                                                    obtain ⟨ad326, e326, hx326_0⟩ := Kd.at_int (by repeat (first | (with_reducible exact HR325_0.out) | (with_reducible refine Kd.C_alloc ?_ _) | (with_reducible refine Kd.C_drewN ?_ _) | (with_reducible refine Kd.C_drew ?_) | exact HR325_0.out)) x18_4 p326 q326
                                                    cases e326
                                                    replace p326 := eq_true p326
                                                    replace q326 := eq_true q326
                                                    go_wp2
                                                    repeat (go_quiet (fail); try go_wp2)
                                                    go_ret
                                                    exact ⟨by first | rfl | (simp [errW_none, errW_some] <;> rfl) | (simp [*, errW_none, errW_some] <;> rfl), by repeat (first | (with_reducible first | exact HB.out | apply below_alloc | apply pw_below_drewN | apply below_drew1 | refine below_set ?_ GE294.out) | exact HB.out)⟩
                                                  · rw [if_neg c61] at H
                                                    have c61b0 : (t316 == 0) = false := beq_eq_false_iff_ne.mpr c61
                                                    have c61b1 : (t316 != 0) = true := bne_iff_ne.mpr c61
                                                    exact absurd ((Option.some.inj H).trans HTRUE_.out) (by simp)
                                              · rw [if_neg c57] at H
                                                exact absurd H (by simp)
                                            · rw [if_neg c56] at H
                                              exact absurd H (by simp)
                                          · rw [if_neg c55] at H
                                            exact absurd H (by simp)
                                        · rw [if_neg c54] at H
                                          exact absurd H (by simp)
                                      · rw [if_neg c53] at H
                                        exact absurd H (by simp)
                                    · rw [if_neg c52] at H
                                      exact absurd H (by simp)
                                  · replace c51 := Bool.eq_false_iff.mpr c51
                                    subst c51
                                    have H1 : (laws_FnRepresentations.l0 kj42 t304 t313 t316 (wrap64 (x17_2 + 1))) = some r := by rw [if_neg (show ¬ (false = true) by decide)] at H; exact H
                                    clear H
                                    have H := H1
                                    clear H1
                                    have H' := Aside0.mk H
                                    clear H
                                    go_wp2
                                    repeat (go_quiet (fail); try go_wp2)
                                    go_roundg kj42
                                    case measure => have := HJ11.out; have := HK2.out; have := HJ36.out; have := HK4.out; have := HJ42.out; omega
                                    case rel => exact ⟨(wrap64 (x17_2 + 1)), (by first | rfl | (simp; done) | (simp [*]; done)), H', ⟨by have := HJ11.out; have := HK2.out; have := HJ36.out; have := HK4.out; have := HJ42.out; omega⟩, ⟨by (with_reducible repeat (first | apply Kd.S_alloc | apply Kd.S_drewN | apply Kd.S_drew)); exact HO_11.out⟩, ⟨by (with_reducible repeat (first | apply Kd.S_alloc | apply Kd.S_drewN | apply Kd.S_drew)); exact HO_15.out⟩, ⟨by (with_reducible repeat (first | apply Kd.S_alloc | apply Kd.S_drewN | apply Kd.S_drew)); exact HO_295001.out⟩, ⟨by (with_reducible repeat (first | refine blk_drewN ?_ _ | refine blk_drew ?_ | refine blk_alloc ?_ _)); exact BK294.out⟩, ⟨by repeat (first | (with_reducible first | exact HB.out | apply below_alloc | apply pw_below_drewN | apply below_drew1 | refine below_set ?_ GE294.out) | exact HB.out)⟩⟩
                        · replace c42 := Bool.eq_false_iff.mpr c42
                          subst c42
                          have H1 : (some false) = some r := by rw [if_neg (show ¬ (false = true) by decide)] at H; exact H
                          clear H
                          have H := H1
                          clear H1
                          exact absurd ((Option.some.inj H).trans HTRUE_.out) (by simp)
    · rw [if_neg c7] at H
      have c7b0 : (t296 == 0) = false := beq_eq_false_iff_ne.mpr c7
      have c7b1 : (t296 != 0) = true := bne_iff_ne.mpr c7
      replace H := Option.bind_eq_some_iff.mp H
      obtain ⟨⟨t297, t300⟩, A640, H⟩ := H
      replace H : (if t295 = 0 then (some (t300 == t296)) else (some false)) = some r := H
      have A64 := Aside0.mk A640
      clear A640
      by_cases c65 : t295 = 0
      · rw [if_pos c65] at H
        have c65b0 : (t295 == 0) = true := beq_iff_eq.mpr c65
        have c65b1 : (t295 != 0) = false := bne_eq_false_iff_eq.mpr c65
        clear c65
        obtain rfl := Option.some.inj H
        go_enter Try.func5, Try.ntmps5
        go_wp2_with (first | (go_at_call 23; (with_reducible refine (laws_big.calls _ _ l0 false _ ?side1 ?side2 A2.out).mono ?_); (case side1 => repeat (first | exact HR0.out | (with_reducible refine Kd.C_alloc ?_ _) | (with_reducible refine Kd.C_drewN ?_ _) | (with_reducible refine Kd.C_drew ?_))); (case side2 => exact HC0.out); rintro e w' ⟨rfl, ⟨nd, rfl⟩⟩; (try first | exact ⟨rfl, _, World.drewN_drewN _ _ _⟩ | exact ⟨rfl, _, Eq.trans (World.drewN_drewN _ _ _) (congrArg (World.drewN _) (Nat.add_assoc _ _ _))⟩)) | (go_at_call 24; (with_reducible refine (laws_roll.calls k _ _ l0 7003 t285 t286 t287 w _ ?side1 ?side2 ?side3 A4.out).mono ?_); (case side1 => repeat (first | (with_reducible first | exact HB.out | apply below_alloc | apply pw_below_drewN | apply below_drew1) | exact HB.out)); (case side2 => exact HR0.out); (case side3 => exact HC0.out); rintro e w66 ⟨g288, rfl, hi, hb, hb2⟩; have n0_ := Aside0.mk (hb); have n1_ := Aside0.mk (hi); clear HB; have HB := n0_; have HI288 := n1_; clear n0_ n1_; (try clear hb); (try clear hb2); (try clear hk); (try clear hi)) | (go_at_call 25; (with_reducible refine (spec_DrawRepresentationCount.calls k _ _ l0 t289 t290 t293 _ ?side1 ?side2 A5.out).mono ?_); (case side1 => repeat (first | exact (Kd.C_below HR0.out HB.out) | (with_reducible refine Kd.C_alloc ?_ _) | (with_reducible refine Kd.C_drewN ?_ _) | (with_reducible refine Kd.C_drew ?_))); (case side2 => exact HC0.out); rintro e w67 ⟨v291, rfl, ho0, hb⟩; have n0_ := Aside0.mk (Kd.S_lower ho0 (below_size (by repeat (first | (with_reducible first | exact HB.out | apply below_alloc | apply pw_below_drewN | apply below_drew1 | refine below_set ?_ (IsS64.ge HI288.out)) | exact HB.out)))); have n1_ := Aside0.mk (IsS64.below (by repeat (first | (with_reducible first | exact HI288.out | apply IsS64.alloc | apply IsS64.drewN | apply IsS64.drew | apply IsS64.set_1 | apply IsS64.set_2) | exact HI288.out)) hb); have n2_ := Aside0.mk (below_step (by repeat (first | (with_reducible first | exact HB.out | apply below_alloc | apply pw_below_drewN | apply below_drew1 | refine below_set ?_ (IsS64.ge HI288.out)) | exact HB.out)) hb); clear HI288; clear HB; have HO292 := n0_; have HI288 := n1_; have HB := n2_; clear n0_ n1_ n2_; (try clear hb); (try clear hb2); (try clear hk); (try clear hi); (try clear ho0)) | ((with_reducible refine gate_dst (N := 4) rfl ?_); (try (refine gate_guard (by rfl) ?_; dsimp only)); refine box_event ?hg (N := 4) ?hd (cs := #[.int .i64 0, .slice none 0 0]) (t := 28) ?hr ?_; (case hd => rfl); (case hg => rfl); (case hr => first | (go_simp; done) | (go_simp; rfl)); intro gb294 hg w68 hbox hb; have n0_ := Aside0.mk (Kd.S_below (by (with_reducible repeat (first | apply Kd.S_alloc | apply Kd.S_drewN | apply Kd.S_drew)); exact HO292.out) hb); have n1_ := Aside0.mk (IsS64.below (by repeat (first | (with_reducible first | exact HI288.out | apply IsS64.alloc | apply IsS64.drewN | apply IsS64.drew | apply IsS64.set_1 | apply IsS64.set_2) | exact HI288.out)) hb); have n2_ := Aside0.mk (below_step (by repeat (first | (with_reducible first | exact HB.out | apply below_alloc | apply pw_below_drewN | apply below_drew1 | refine below_set ?_ (IsS64.ge HI288.out)) | exact HB.out)) hb); have n3_ := Aside0.mk (hbox); have n4_ := Aside0.mk ((by rw [hg]; exact (below_size (by repeat (first | (with_reducible first | exact HB.out | apply below_alloc | apply pw_below_drewN | apply below_drew1 | refine below_set ?_ (IsS64.ge HI288.out)) | exact HB.out))) : w.heap.size ≤ gb294)); have n5_ := Aside0.mk ((by rw [hg]; exact (below_size (by repeat (first | (with_reducible first | exact HB.out | apply below_alloc | apply pw_below_drewN | apply below_drew1 | refine below_set ?_ (IsS64.ge HI288.out)) | exact HB.out))) : w.heap.size ≤ gb294)); have n6_ := Aside0.mk ((by rw [hg]; exact Nat.ne_of_lt (IsS64.lt (show IsS64 w _ g288 t285 t286 t287 from by repeat (first | (with_reducible first | exact HI288.out | apply IsS64.alloc | apply IsS64.drewN | apply IsS64.drew | apply IsS64.set_1 | apply IsS64.set_2) | exact HI288.out))) : g288 ≠ gb294)); have n7_ := Aside0.mk ((by rw [hg]; exact Nat.ne_of_gt (IsS64.lt (show IsS64 w _ g288 t285 t286 t287 from by repeat (first | (with_reducible first | exact HI288.out | apply IsS64.alloc | apply IsS64.drewN | apply IsS64.drew | apply IsS64.set_1 | apply IsS64.set_2) | exact HI288.out))) : gb294 ≠ g288)); clear HO292; clear HI288; clear HB; have HO292 := n0_; have HI288 := n1_; have HB := n2_; have BK294 := n3_; have GW294 := n4_; have GE294 := n5_; have NB288_294 := n6_; have NB294_288 := n7_; clear n0_ n1_ n2_ n3_ n4_ n5_ n6_ n7_; clear hb hbox hg; have hnb69 := NB294_288.out; have hnc69 := NB288_294.out; have hcz70_0 : w68.cell? ⟨gb294, 0, none⟩ = some (.int .i64 0) := (blk_cell BK294.out 0).trans rfl; have hcz70_1 : w68.cell? ⟨gb294, 1, none⟩ = some (.slice none 0 0) := (blk_cell BK294.out 1).trans rfl; have hfz70_0 := blk_frozen BK294.out 0; have hfz70_1 := blk_frozen BK294.out 1; obtain ⟨Ao71, co71, eo71⟩ := Kd.S_slice HO292.out; subst eo71) | (go_at_call 15; (with_reducible refine (impl_RepresentationCount.calls k t289 _ _ t290 t293 t295 t296 _ ?side1 ?side2 A6.out).mono ?_); (case side1 => refine (Kd.S_reads' (e := 47) (base := w.heap.size) (ok := fun k_ => True) (n := t290.length) (c := co71) ?_).2.2; exact (by (with_reducible repeat (first | apply Kd.S_alloc | apply Kd.S_drewN | apply Kd.S_drew)); exact (Kd.S_mono (Kd.S_far (p := ⟨gb294, 1, none⟩) (Kd.S_far (p := ⟨gb294, 0, none⟩) (Kd.S_types HO292.out BK294.out (by decide)) (fun _ hk => hk.2) (.int .i64 t289)) (fun _ hk => hk.2) (.slice Ao71 t290.length co71)) (fun _ h_ => h_.1)))); (case side2 => exact (Kd.S_reads' HO292.out).2.1); rintro e w72 ⟨rfl, hb⟩; have n0_ := Aside0.mk (Kd.S_below (by (with_reducible repeat (first | apply Kd.S_alloc | apply Kd.S_drewN | apply Kd.S_drew)); exact (Kd.S_mono (Kd.S_far (p := ⟨gb294, 1, none⟩) (Kd.S_far (p := ⟨gb294, 0, none⟩) (Kd.S_types HO292.out BK294.out (by decide)) (fun _ hk => hk.2) (.int .i64 t289)) (fun _ hk => hk.2) (.slice Ao71 t290.length co71)) (fun _ h_ => h_.1))) hb); have n1_ := Aside0.mk (IsS64.below (show IsS64 w ((w68.setCell ⟨gb294, 0, none⟩ (.int .i64 t289)).setCell ⟨gb294, 1, none⟩ (.slice Ao71 t290.length co71)) g288 t285 t286 t287 from by repeat (first | (with_reducible first | exact HI288.out | apply IsS64.alloc | apply IsS64.drewN | apply IsS64.drew | apply IsS64.set_1 | apply IsS64.set_2 | refine IsS64.far ?_ NB288_294.out _) | exact HI288.out)) hb); have n2_ := Aside0.mk (blk_below (g := gb294) (o := .cells #[.int .i64 t289, .slice Ao71 t290.length co71] 28 (0, 0)) (by (with_reducible repeat (first | refine blk_drewN ?_ _ | refine blk_drew ?_ | refine blk_alloc ?_ _)); refine blk_put (cs := #[.int .i64 t289, .slice none 0 0]) ?_ 1 _ rfl; (with_reducible repeat (first | refine blk_drewN ?_ _ | refine blk_drew ?_ | refine blk_alloc ?_ _)); refine blk_put (cs := #[.int .i64 0, .slice none 0 0]) ?_ 0 _ rfl; (with_reducible repeat (first | refine blk_drewN ?_ _ | refine blk_drew ?_ | refine blk_alloc ?_ _)); exact BK294.out) hb); have n3_ := Aside0.mk (below_step (by repeat (first | (with_reducible first | exact HB.out | apply below_alloc | apply pw_below_drewN | apply below_drew1 | refine below_set ?_ (IsS64.ge HI288.out) | refine below_set ?_ GE294.out) | exact HB.out)) hb); clear HO292; clear HI288; clear BK294; clear HB; have HO292 := n0_; have HI288 := n1_; have BK294 := n2_; have HB := n3_; clear n0_ n1_ n2_ n3_; (try clear hb); (try clear hb2); (try clear hk); (try clear hi); have hcz73_0 : w72.cell? ⟨gb294, 0, none⟩ = some (.int .i64 t289) := (blk_cell BK294.out 0).trans rfl; have hcz73_1 : w72.cell? ⟨gb294, 1, none⟩ = some (.slice Ao71 t290.length co71) := (blk_cell BK294.out 1).trans rfl; have hfz73_0 := blk_frozen BK294.out 0; have hfz73_1 := blk_frozen BK294.out 1) | (go_at_call 18; (with_reducible refine (impl_RepresentationAt.calls k t289 _ _ t290 t293 0 t297 t300 _ ?side1 ?side2 A64.out).mono ?_); (case side1 => repeat (first | exact (Kd.S_reads' HO292.out).2.2 | (with_reducible refine Kd.C_alloc ?_ _) | (with_reducible refine Kd.C_drewN ?_ _) | (with_reducible refine Kd.C_drew ?_))); (case side2 => exact (Kd.S_reads' HO292.out).2.1); rintro e w74 ⟨v298, rfl, ho0, hb⟩; have n0_ := Aside0.mk (Kd.S_elder' (by (with_reducible repeat (first | apply Kd.S_alloc | apply Kd.S_drewN | apply Kd.S_drew)); exact HO292.out) (Kd.S_base ho0) hb); have n1_ := Aside0.mk (Kd.S_lower (Kd.S_new' ho0 (Kd.S_lt (by (with_reducible repeat (first | apply Kd.S_alloc | apply Kd.S_drewN | apply Kd.S_drew)); exact HO292.out))) (below_size (by repeat (first | (with_reducible first | exact HB.out | apply below_alloc | apply pw_below_drewN | apply below_drew1 | refine below_set ?_ (IsS64.ge HI288.out) | refine below_set ?_ GE294.out) | exact HB.out)))); have n2_ := Aside0.mk (IsS64.below (by repeat (first | (with_reducible first | exact HI288.out | apply IsS64.alloc | apply IsS64.drewN | apply IsS64.drew | apply IsS64.set_1 | apply IsS64.set_2 | refine IsS64.far ?_ NB288_294.out _) | exact HI288.out)) hb); have n3_ := Aside0.mk (blk_below (g := gb294) (o := .cells #[.int .i64 t289, .slice Ao71 t290.length co71] 28 (0, 0)) (by (with_reducible repeat (first | refine blk_drewN ?_ _ | refine blk_drew ?_ | refine blk_alloc ?_ _)); exact BK294.out) hb); have n4_ := Aside0.mk (below_step (by repeat (first | (with_reducible first | exact HB.out | apply below_alloc | apply pw_below_drewN | apply below_drew1 | refine below_set ?_ (IsS64.ge HI288.out) | refine below_set ?_ GE294.out) | exact HB.out)) hb); clear HO292; clear HI288; clear BK294; clear HB; have HO292 := n0_; have HO299 := n1_; have HI288 := n2_; have BK294 := n3_; have HB := n4_; clear n0_ n1_ n2_ n3_ n4_; (try clear hb); (try clear hb2); (try clear hk); (try clear hi); (try clear ho0)))
        repeat (go_quiet (first | (go_at_call 23; (with_reducible refine (laws_big.calls _ _ l0 false _ ?side1 ?side2 A2.out).mono ?_); (case side1 => repeat (first | exact HR0.out | (with_reducible refine Kd.C_alloc ?_ _) | (with_reducible refine Kd.C_drewN ?_ _) | (with_reducible refine Kd.C_drew ?_))); (case side2 => exact HC0.out); rintro e w' ⟨rfl, ⟨nd, rfl⟩⟩; (try first | exact ⟨rfl, _, World.drewN_drewN _ _ _⟩ | exact ⟨rfl, _, Eq.trans (World.drewN_drewN _ _ _) (congrArg (World.drewN _) (Nat.add_assoc _ _ _))⟩)) | (go_at_call 24; (with_reducible refine (laws_roll.calls k _ _ l0 7003 t285 t286 t287 w _ ?side1 ?side2 ?side3 A4.out).mono ?_); (case side1 => repeat (first | (with_reducible first | exact HB.out | apply below_alloc | apply pw_below_drewN | apply below_drew1) | exact HB.out)); (case side2 => exact HR0.out); (case side3 => exact HC0.out); rintro e w66 ⟨g288, rfl, hi, hb, hb2⟩; have n0_ := Aside0.mk (hb); have n1_ := Aside0.mk (hi); clear HB; have HB := n0_; have HI288 := n1_; clear n0_ n1_; (try clear hb); (try clear hb2); (try clear hk); (try clear hi)) | (go_at_call 25; (with_reducible refine (spec_DrawRepresentationCount.calls k _ _ l0 t289 t290 t293 _ ?side1 ?side2 A5.out).mono ?_); (case side1 => repeat (first | exact (Kd.C_below HR0.out HB.out) | (with_reducible refine Kd.C_alloc ?_ _) | (with_reducible refine Kd.C_drewN ?_ _) | (with_reducible refine Kd.C_drew ?_))); (case side2 => exact HC0.out); rintro e w67 ⟨v291, rfl, ho0, hb⟩; have n0_ := Aside0.mk (Kd.S_lower ho0 (below_size (by repeat (first | (with_reducible first | exact HB.out | apply below_alloc | apply pw_below_drewN | apply below_drew1 | refine below_set ?_ (IsS64.ge HI288.out)) | exact HB.out)))); have n1_ := Aside0.mk (IsS64.below (by repeat (first | (with_reducible first | exact HI288.out | apply IsS64.alloc | apply IsS64.drewN | apply IsS64.drew | apply IsS64.set_1 | apply IsS64.set_2) | exact HI288.out)) hb); have n2_ := Aside0.mk (below_step (by repeat (first | (with_reducible first | exact HB.out | apply below_alloc | apply pw_below_drewN | apply below_drew1 | refine below_set ?_ (IsS64.ge HI288.out)) | exact HB.out)) hb); clear HI288; clear HB; have HO292 := n0_; have HI288 := n1_; have HB := n2_; clear n0_ n1_ n2_; (try clear hb); (try clear hb2); (try clear hk); (try clear hi); (try clear ho0)) | ((with_reducible refine gate_dst (N := 4) rfl ?_); (try (refine gate_guard (by rfl) ?_; dsimp only)); refine box_event ?hg (N := 4) ?hd (cs := #[.int .i64 0, .slice none 0 0]) (t := 28) ?hr ?_; (case hd => rfl); (case hg => rfl); (case hr => first | (go_simp; done) | (go_simp; rfl)); intro gb294 hg w68 hbox hb; have n0_ := Aside0.mk (Kd.S_below (by (with_reducible repeat (first | apply Kd.S_alloc | apply Kd.S_drewN | apply Kd.S_drew)); exact HO292.out) hb); have n1_ := Aside0.mk (IsS64.below (by repeat (first | (with_reducible first | exact HI288.out | apply IsS64.alloc | apply IsS64.drewN | apply IsS64.drew | apply IsS64.set_1 | apply IsS64.set_2) | exact HI288.out)) hb); have n2_ := Aside0.mk (below_step (by repeat (first | (with_reducible first | exact HB.out | apply below_alloc | apply pw_below_drewN | apply below_drew1 | refine below_set ?_ (IsS64.ge HI288.out)) | exact HB.out)) hb); have n3_ := Aside0.mk (hbox); have n4_ := Aside0.mk ((by rw [hg]; exact (below_size (by repeat (first | (with_reducible first | exact HB.out | apply below_alloc | apply pw_below_drewN | apply below_drew1 | refine below_set ?_ (IsS64.ge HI288.out)) | exact HB.out))) : w.heap.size ≤ gb294)); have n5_ := Aside0.mk ((by rw [hg]; exact (below_size (by repeat (first | (with_reducible first | exact HB.out | apply below_alloc | apply pw_below_drewN | apply below_drew1 | refine below_set ?_ (IsS64.ge HI288.out)) | exact HB.out))) : w.heap.size ≤ gb294)); have n6_ := Aside0.mk ((by rw [hg]; exact Nat.ne_of_lt (IsS64.lt (show IsS64 w _ g288 t285 t286 t287 from by repeat (first | (with_reducible first | exact HI288.out | apply IsS64.alloc | apply IsS64.drewN | apply IsS64.drew | apply IsS64.set_1 | apply IsS64.set_2) | exact HI288.out))) : g288 ≠ gb294)); have n7_ := Aside0.mk ((by rw [hg]; exact Nat.ne_of_gt (IsS64.lt (show IsS64 w _ g288 t285 t286 t287 from by repeat (first | (with_reducible first | exact HI288.out | apply IsS64.alloc | apply IsS64.drewN | apply IsS64.drew | apply IsS64.set_1 | apply IsS64.set_2) | exact HI288.out))) : gb294 ≠ g288)); clear HO292; clear HI288; clear HB; have HO292 := n0_; have HI288 := n1_; have HB := n2_; have BK294 := n3_; have GW294 := n4_; have GE294 := n5_; have NB288_294 := n6_; have NB294_288 := n7_; clear n0_ n1_ n2_ n3_ n4_ n5_ n6_ n7_; clear hb hbox hg; have hnb69 := NB294_288.out; have hnc69 := NB288_294.out; have hcz70_0 : w68.cell? ⟨gb294, 0, none⟩ = some (.int .i64 0) := (blk_cell BK294.out 0).trans rfl; have hcz70_1 : w68.cell? ⟨gb294, 1, none⟩ = some (.slice none 0 0) := (blk_cell BK294.out 1).trans rfl; have hfz70_0 := blk_frozen BK294.out 0; have hfz70_1 := blk_frozen BK294.out 1; obtain ⟨Ao71, co71, eo71⟩ := Kd.S_slice HO292.out; subst eo71) | (go_at_call 15; (with_reducible refine (impl_RepresentationCount.calls k t289 _ _ t290 t293 t295 t296 _ ?side1 ?side2 A6.out).mono ?_); (case side1 => refine (Kd.S_reads' (e := 47) (base := w.heap.size) (ok := fun k_ => True) (n := t290.length) (c := co71) ?_).2.2; exact (by (with_reducible repeat (first | apply Kd.S_alloc | apply Kd.S_drewN | apply Kd.S_drew)); exact (Kd.S_mono (Kd.S_far (p := ⟨gb294, 1, none⟩) (Kd.S_far (p := ⟨gb294, 0, none⟩) (Kd.S_types HO292.out BK294.out (by decide)) (fun _ hk => hk.2) (.int .i64 t289)) (fun _ hk => hk.2) (.slice Ao71 t290.length co71)) (fun _ h_ => h_.1)))); (case side2 => exact (Kd.S_reads' HO292.out).2.1); rintro e w72 ⟨rfl, hb⟩; have n0_ := Aside0.mk (Kd.S_below (by (with_reducible repeat (first | apply Kd.S_alloc | apply Kd.S_drewN | apply Kd.S_drew)); exact (Kd.S_mono (Kd.S_far (p := ⟨gb294, 1, none⟩) (Kd.S_far (p := ⟨gb294, 0, none⟩) (Kd.S_types HO292.out BK294.out (by decide)) (fun _ hk => hk.2) (.int .i64 t289)) (fun _ hk => hk.2) (.slice Ao71 t290.length co71)) (fun _ h_ => h_.1))) hb); have n1_ := Aside0.mk (IsS64.below (show IsS64 w ((w68.setCell ⟨gb294, 0, none⟩ (.int .i64 t289)).setCell ⟨gb294, 1, none⟩ (.slice Ao71 t290.length co71)) g288 t285 t286 t287 from by repeat (first | (with_reducible first | exact HI288.out | apply IsS64.alloc | apply IsS64.drewN | apply IsS64.drew | apply IsS64.set_1 | apply IsS64.set_2 | refine IsS64.far ?_ NB288_294.out _) | exact HI288.out)) hb); have n2_ := Aside0.mk (blk_below (g := gb294) (o := .cells #[.int .i64 t289, .slice Ao71 t290.length co71] 28 (0, 0)) (by (with_reducible repeat (first | refine blk_drewN ?_ _ | refine blk_drew ?_ | refine blk_alloc ?_ _)); refine blk_put (cs := #[.int .i64 t289, .slice none 0 0]) ?_ 1 _ rfl; (with_reducible repeat (first | refine blk_drewN ?_ _ | refine blk_drew ?_ | refine blk_alloc ?_ _)); refine blk_put (cs := #[.int .i64 0, .slice none 0 0]) ?_ 0 _ rfl; (with_reducible repeat (first | refine blk_drewN ?_ _ | refine blk_drew ?_ | refine blk_alloc ?_ _)); exact BK294.out) hb); have n3_ := Aside0.mk (below_step (by repeat (first | (with_reducible first | exact HB.out | apply below_alloc | apply pw_below_drewN | apply below_drew1 | refine below_set ?_ (IsS64.ge HI288.out) | refine below_set ?_ GE294.out) | exact HB.out)) hb); clear HO292; clear HI288; clear BK294; clear HB; have HO292 := n0_; have HI288 := n1_; have BK294 := n2_; have HB := n3_; clear n0_ n1_ n2_ n3_; (try clear hb); (try clear hb2); (try clear hk); (try clear hi); have hcz73_0 : w72.cell? ⟨gb294, 0, none⟩ = some (.int .i64 t289) := (blk_cell BK294.out 0).trans rfl; have hcz73_1 : w72.cell? ⟨gb294, 1, none⟩ = some (.slice Ao71 t290.length co71) := (blk_cell BK294.out 1).trans rfl; have hfz73_0 := blk_frozen BK294.out 0; have hfz73_1 := blk_frozen BK294.out 1) | (go_at_call 18; (with_reducible refine (impl_RepresentationAt.calls k t289 _ _ t290 t293 0 t297 t300 _ ?side1 ?side2 A64.out).mono ?_); (case side1 => repeat (first | exact (Kd.S_reads' HO292.out).2.2 | (with_reducible refine Kd.C_alloc ?_ _) | (with_reducible refine Kd.C_drewN ?_ _) | (with_reducible refine Kd.C_drew ?_))); (case side2 => exact (Kd.S_reads' HO292.out).2.1); rintro e w74 ⟨v298, rfl, ho0, hb⟩; have n0_ := Aside0.mk (Kd.S_elder' (by (with_reducible repeat (first | apply Kd.S_alloc | apply Kd.S_drewN | apply Kd.S_drew)); exact HO292.out) (Kd.S_base ho0) hb); have n1_ := Aside0.mk (Kd.S_lower (Kd.S_new' ho0 (Kd.S_lt (by (with_reducible repeat (first | apply Kd.S_alloc | apply Kd.S_drewN | apply Kd.S_drew)); exact HO292.out))) (below_size (by repeat (first | (with_reducible first | exact HB.out | apply below_alloc | apply pw_below_drewN | apply below_drew1 | refine below_set ?_ (IsS64.ge HI288.out) | refine below_set ?_ GE294.out) | exact HB.out)))); have n2_ := Aside0.mk (IsS64.below (by repeat (first | (with_reducible first | exact HI288.out | apply IsS64.alloc | apply IsS64.drewN | apply IsS64.drew | apply IsS64.set_1 | apply IsS64.set_2 | refine IsS64.far ?_ NB288_294.out _) | exact HI288.out)) hb); have n3_ := Aside0.mk (blk_below (g := gb294) (o := .cells #[.int .i64 t289, .slice Ao71 t290.length co71] 28 (0, 0)) (by (with_reducible repeat (first | refine blk_drewN ?_ _ | refine blk_drew ?_ | refine blk_alloc ?_ _)); exact BK294.out) hb); have n4_ := Aside0.mk (below_step (by repeat (first | (with_reducible first | exact HB.out | apply below_alloc | apply pw_below_drewN | apply below_drew1 | refine below_set ?_ (IsS64.ge HI288.out) | refine below_set ?_ GE294.out) | exact HB.out)) hb); clear HO292; clear HI288; clear BK294; clear HB; have HO292 := n0_; have HO299 := n1_; have HI288 := n2_; have BK294 := n3_; have HB := n4_; clear n0_ n1_ n2_ n3_ n4_; (try clear hb); (try clear hb2); (try clear hk); (try clear hi); (try clear ho0))); try go_wp2_with (first | (go_at_call 23; (with_reducible refine (laws_big.calls _ _ l0 false _ ?side1 ?side2 A2.out).mono ?_); (case side1 => repeat (first | exact HR0.out | (with_reducible refine Kd.C_alloc ?_ _) | (with_reducible refine Kd.C_drewN ?_ _) | (with_reducible refine Kd.C_drew ?_))); (case side2 => exact HC0.out); rintro e w' ⟨rfl, ⟨nd, rfl⟩⟩; (try first | exact ⟨rfl, _, World.drewN_drewN _ _ _⟩ | exact ⟨rfl, _, Eq.trans (World.drewN_drewN _ _ _) (congrArg (World.drewN _) (Nat.add_assoc _ _ _))⟩)) | (go_at_call 24; (with_reducible refine (laws_roll.calls k _ _ l0 7003 t285 t286 t287 w _ ?side1 ?side2 ?side3 A4.out).mono ?_); (case side1 => repeat (first | (with_reducible first | exact HB.out | apply below_alloc | apply pw_below_drewN | apply below_drew1) | exact HB.out)); (case side2 => exact HR0.out); (case side3 => exact HC0.out); rintro e w66 ⟨g288, rfl, hi, hb, hb2⟩; have n0_ := Aside0.mk (hb); have n1_ := Aside0.mk (hi); clear HB; have HB := n0_; have HI288 := n1_; clear n0_ n1_; (try clear hb); (try clear hb2); (try clear hk); (try clear hi)) | (go_at_call 25; (with_reducible refine (spec_DrawRepresentationCount.calls k _ _ l0 t289 t290 t293 _ ?side1 ?side2 A5.out).mono ?_); (case side1 => repeat (first | exact (Kd.C_below HR0.out HB.out) | (with_reducible refine Kd.C_alloc ?_ _) | (with_reducible refine Kd.C_drewN ?_ _) | (with_reducible refine Kd.C_drew ?_))); (case side2 => exact HC0.out); rintro e w67 ⟨v291, rfl, ho0, hb⟩; have n0_ := Aside0.mk (Kd.S_lower ho0 (below_size (by repeat (first | (with_reducible first | exact HB.out | apply below_alloc | apply pw_below_drewN | apply below_drew1 | refine below_set ?_ (IsS64.ge HI288.out)) | exact HB.out)))); have n1_ := Aside0.mk (IsS64.below (by repeat (first | (with_reducible first | exact HI288.out | apply IsS64.alloc | apply IsS64.drewN | apply IsS64.drew | apply IsS64.set_1 | apply IsS64.set_2) | exact HI288.out)) hb); have n2_ := Aside0.mk (below_step (by repeat (first | (with_reducible first | exact HB.out | apply below_alloc | apply pw_below_drewN | apply below_drew1 | refine below_set ?_ (IsS64.ge HI288.out)) | exact HB.out)) hb); clear HI288; clear HB; have HO292 := n0_; have HI288 := n1_; have HB := n2_; clear n0_ n1_ n2_; (try clear hb); (try clear hb2); (try clear hk); (try clear hi); (try clear ho0)) | ((with_reducible refine gate_dst (N := 4) rfl ?_); (try (refine gate_guard (by rfl) ?_; dsimp only)); refine box_event ?hg (N := 4) ?hd (cs := #[.int .i64 0, .slice none 0 0]) (t := 28) ?hr ?_; (case hd => rfl); (case hg => rfl); (case hr => first | (go_simp; done) | (go_simp; rfl)); intro gb294 hg w68 hbox hb; have n0_ := Aside0.mk (Kd.S_below (by (with_reducible repeat (first | apply Kd.S_alloc | apply Kd.S_drewN | apply Kd.S_drew)); exact HO292.out) hb); have n1_ := Aside0.mk (IsS64.below (by repeat (first | (with_reducible first | exact HI288.out | apply IsS64.alloc | apply IsS64.drewN | apply IsS64.drew | apply IsS64.set_1 | apply IsS64.set_2) | exact HI288.out)) hb); have n2_ := Aside0.mk (below_step (by repeat (first | (with_reducible first | exact HB.out | apply below_alloc | apply pw_below_drewN | apply below_drew1 | refine below_set ?_ (IsS64.ge HI288.out)) | exact HB.out)) hb); have n3_ := Aside0.mk (hbox); have n4_ := Aside0.mk ((by rw [hg]; exact (below_size (by repeat (first | (with_reducible first | exact HB.out | apply below_alloc | apply pw_below_drewN | apply below_drew1 | refine below_set ?_ (IsS64.ge HI288.out)) | exact HB.out))) : w.heap.size ≤ gb294)); have n5_ := Aside0.mk ((by rw [hg]; exact (below_size (by repeat (first | (with_reducible first | exact HB.out | apply below_alloc | apply pw_below_drewN | apply below_drew1 | refine below_set ?_ (IsS64.ge HI288.out)) | exact HB.out))) : w.heap.size ≤ gb294)); have n6_ := Aside0.mk ((by rw [hg]; exact Nat.ne_of_lt (IsS64.lt (show IsS64 w _ g288 t285 t286 t287 from by repeat (first | (with_reducible first | exact HI288.out | apply IsS64.alloc | apply IsS64.drewN | apply IsS64.drew | apply IsS64.set_1 | apply IsS64.set_2) | exact HI288.out))) : g288 ≠ gb294)); have n7_ := Aside0.mk ((by rw [hg]; exact Nat.ne_of_gt (IsS64.lt (show IsS64 w _ g288 t285 t286 t287 from by repeat (first | (with_reducible first | exact HI288.out | apply IsS64.alloc | apply IsS64.drewN | apply IsS64.drew | apply IsS64.set_1 | apply IsS64.set_2) | exact HI288.out))) : gb294 ≠ g288)); clear HO292; clear HI288; clear HB; have HO292 := n0_; have HI288 := n1_; have HB := n2_; have BK294 := n3_; have GW294 := n4_; have GE294 := n5_; have NB288_294 := n6_; have NB294_288 := n7_; clear n0_ n1_ n2_ n3_ n4_ n5_ n6_ n7_; clear hb hbox hg; have hnb69 := NB294_288.out; have hnc69 := NB288_294.out; have hcz70_0 : w68.cell? ⟨gb294, 0, none⟩ = some (.int .i64 0) := (blk_cell BK294.out 0).trans rfl; have hcz70_1 : w68.cell? ⟨gb294, 1, none⟩ = some (.slice none 0 0) := (blk_cell BK294.out 1).trans rfl; have hfz70_0 := blk_frozen BK294.out 0; have hfz70_1 := blk_frozen BK294.out 1; obtain ⟨Ao71, co71, eo71⟩ := Kd.S_slice HO292.out; subst eo71) | (go_at_call 15; (with_reducible refine (impl_RepresentationCount.calls k t289 _ _ t290 t293 t295 t296 _ ?side1 ?side2 A6.out).mono ?_); (case side1 => refine (Kd.S_reads' (e := 47) (base := w.heap.size) (ok := fun k_ => True) (n := t290.length) (c := co71) ?_).2.2; exact (by (with_reducible repeat (first | apply Kd.S_alloc | apply Kd.S_drewN | apply Kd.S_drew)); exact (Kd.S_mono (Kd.S_far (p := ⟨gb294, 1, none⟩) (Kd.S_far (p := ⟨gb294, 0, none⟩) (Kd.S_types HO292.out BK294.out (by decide)) (fun _ hk => hk.2) (.int .i64 t289)) (fun _ hk => hk.2) (.slice Ao71 t290.length co71)) (fun _ h_ => h_.1)))); (case side2 => exact (Kd.S_reads' HO292.out).2.1); rintro e w72 ⟨rfl, hb⟩; have n0_ := Aside0.mk (Kd.S_below (by (with_reducible repeat (first | apply Kd.S_alloc | apply Kd.S_drewN | apply Kd.S_drew)); exact (Kd.S_mono (Kd.S_far (p := ⟨gb294, 1, none⟩) (Kd.S_far (p := ⟨gb294, 0, none⟩) (Kd.S_types HO292.out BK294.out (by decide)) (fun _ hk => hk.2) (.int .i64 t289)) (fun _ hk => hk.2) (.slice Ao71 t290.length co71)) (fun _ h_ => h_.1))) hb); have n1_ := Aside0.mk (IsS64.below (show IsS64 w ((w68.setCell ⟨gb294, 0, none⟩ (.int .i64 t289)).setCell ⟨gb294, 1, none⟩ (.slice Ao71 t290.length co71)) g288 t285 t286 t287 from by repeat (first | (with_reducible first | exact HI288.out | apply IsS64.alloc | apply IsS64.drewN | apply IsS64.drew | apply IsS64.set_1 | apply IsS64.set_2 | refine IsS64.far ?_ NB288_294.out _) | exact HI288.out)) hb); have n2_ := Aside0.mk (blk_below (g := gb294) (o := .cells #[.int .i64 t289, .slice Ao71 t290.length co71] 28 (0, 0)) (by (with_reducible repeat (first | refine blk_drewN ?_ _ | refine blk_drew ?_ | refine blk_alloc ?_ _)); refine blk_put (cs := #[.int .i64 t289, .slice none 0 0]) ?_ 1 _ rfl; (with_reducible repeat (first | refine blk_drewN ?_ _ | refine blk_drew ?_ | refine blk_alloc ?_ _)); refine blk_put (cs := #[.int .i64 0, .slice none 0 0]) ?_ 0 _ rfl; (with_reducible repeat (first | refine blk_drewN ?_ _ | refine blk_drew ?_ | refine blk_alloc ?_ _)); exact BK294.out) hb); have n3_ := Aside0.mk (below_step (by repeat (first | (with_reducible first | exact HB.out | apply below_alloc | apply pw_below_drewN | apply below_drew1 | refine below_set ?_ (IsS64.ge HI288.out) | refine below_set ?_ GE294.out) | exact HB.out)) hb); clear HO292; clear HI288; clear BK294; clear HB; have HO292 := n0_; have HI288 := n1_; have BK294 := n2_; have HB := n3_; clear n0_ n1_ n2_ n3_; (try clear hb); (try clear hb2); (try clear hk); (try clear hi); have hcz73_0 : w72.cell? ⟨gb294, 0, none⟩ = some (.int .i64 t289) := (blk_cell BK294.out 0).trans rfl; have hcz73_1 : w72.cell? ⟨gb294, 1, none⟩ = some (.slice Ao71 t290.length co71) := (blk_cell BK294.out 1).trans rfl; have hfz73_0 := blk_frozen BK294.out 0; have hfz73_1 := blk_frozen BK294.out 1) | (go_at_call 18; (with_reducible refine (impl_RepresentationAt.calls k t289 _ _ t290 t293 0 t297 t300 _ ?side1 ?side2 A64.out).mono ?_); (case side1 => repeat (first | exact (Kd.S_reads' HO292.out).2.2 | (with_reducible refine Kd.C_alloc ?_ _) | (with_reducible refine Kd.C_drewN ?_ _) | (with_reducible refine Kd.C_drew ?_))); (case side2 => exact (Kd.S_reads' HO292.out).2.1); rintro e w74 ⟨v298, rfl, ho0, hb⟩; have n0_ := Aside0.mk (Kd.S_elder' (by (with_reducible repeat (first | apply Kd.S_alloc | apply Kd.S_drewN | apply Kd.S_drew)); exact HO292.out) (Kd.S_base ho0) hb); have n1_ := Aside0.mk (Kd.S_lower (Kd.S_new' ho0 (Kd.S_lt (by (with_reducible repeat (first | apply Kd.S_alloc | apply Kd.S_drewN | apply Kd.S_drew)); exact HO292.out))) (below_size (by repeat (first | (with_reducible first | exact HB.out | apply below_alloc | apply pw_below_drewN | apply below_drew1 | refine below_set ?_ (IsS64.ge HI288.out) | refine below_set ?_ GE294.out) | exact HB.out)))); have n2_ := Aside0.mk (IsS64.below (by repeat (first | (with_reducible first | exact HI288.out | apply IsS64.alloc | apply IsS64.drewN | apply IsS64.drew | apply IsS64.set_1 | apply IsS64.set_2 | refine IsS64.far ?_ NB288_294.out _) | exact HI288.out)) hb); have n3_ := Aside0.mk (blk_below (g := gb294) (o := .cells #[.int .i64 t289, .slice Ao71 t290.length co71] 28 (0, 0)) (by (with_reducible repeat (first | refine blk_drewN ?_ _ | refine blk_drew ?_ | refine blk_alloc ?_ _)); exact BK294.out) hb); have n4_ := Aside0.mk (below_step (by repeat (first | (with_reducible first | exact HB.out | apply below_alloc | apply pw_below_drewN | apply below_drew1 | refine below_set ?_ (IsS64.ge HI288.out) | refine below_set ?_ GE294.out) | exact HB.out)) hb); clear HO292; clear HI288; clear BK294; clear HB; have HO292 := n0_; have HO299 := n1_; have HI288 := n2_; have BK294 := n3_; have HB := n4_; clear n0_ n1_ n2_ n3_ n4_; (try clear hb); (try clear hb2); (try clear hk); (try clear hi); (try clear ho0))))
        go_ret
        exact ⟨by first | rfl | (simp [errW_none, errW_some] <;> rfl) | (simp [*, errW_none, errW_some] <;> rfl), by repeat (first | (with_reducible first | exact HB.out | apply below_alloc | apply pw_below_drewN | apply below_drew1 | refine below_set ?_ (IsS64.ge HI288.out) | refine below_set ?_ GE294.out) | exact HB.out)⟩
      · rw [if_neg c65] at H
        have c65b0 : (t295 == 0) = false := beq_eq_false_iff_ne.mpr c65
        have c65b1 : (t295 != 0) = true := bne_iff_ne.mpr c65
        exact absurd ((Option.some.inj H).trans HTRUE_.out) (by simp)

/-- THE ONE PURE STATEMENT of laws_FnRepresentations: yours. -/
def laws_FnRepresentations.Pure : Prop := ∀ (l0 : List Int), l0.length ≤ maxLen → l0.length * 1 ≤ 140737488351232 → (∀ x ∈ l0, (Lit.int .u8 x).wf = true) → ∃ k, laws_FnRepresentations.f k l0 = some true
theorem laws_FnRepresentations.walk (P : laws_FnRepresentations.Pure) (a0 : Option Addr) (len0 cap0 : Nat) (z0 : List Int) (w : World) (w0 : (a0 = none ∧ len0 = 0 ∧ cap0 = 0 ∧ z0 = []) ∨ ∃ x, a0 = some x ∧ len0 ≤ cap0 ∧ cap0 ≤ maxLen ∧ z0.length = cap0 ∧ (∀ i, i < z0.length → w.cell? (x.add i) = some (.int .u8 (z0.getD i 0))) ∧ ∀ n ∈ z0, (Lit.int .u8 n).wf = true) (y0 : len0 * 1 ≤ 140737488351232) :
    Calls Try.prog 5 #[.slice a0 len0 cap0] w fun e w' => e = .returned (.bool true) ∧ Below w.heap.size w w' := by
  obtain ⟨l0, rfl, hr0, hm0, hw0, hc0⟩ := ReadsInt.ofRowC w0
  obtain ⟨k, h⟩ := P l0 hm0 y0 hw0
  refine (laws_FnRepresentations.calls k _ _ l0 true w (Kd.C_of_reads (d := (0 : Int)) (h1 := fun _ => rfl) hr0) hc0 h ⟨rfl⟩).mono ?_
  rintro e w' ⟨rfl, hd⟩
  exact ⟨rfl, hd⟩

end Go.Proofs.Ytinpfomadogadaa.PFnRepresentations
