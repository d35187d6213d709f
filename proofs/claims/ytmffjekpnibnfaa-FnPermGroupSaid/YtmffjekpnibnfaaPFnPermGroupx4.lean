/- Written by this session's program out of the kit's print and this session's contracts. -/
import Derived.Test.YtmffjekpnibnfaaPFnPermGroupx0
import Derived.Test.YtmffjekpnibnfaaPFnPermGroupx1
import Derived.Test.YtmffjekpnibnfaaPFnPermGroupx2
import Derived.Test.YtmffjekpnibnfaaPFnPermGroupx3
namespace Go.Proofs.Ytmffjekpnibnfaa.PFnPermGroup
open Go.RowKit Go.Proofs.YtmffjekpnibnfaaW.PrintWords Go.Proofs.YtmffjekpnibnfaaW.PrintLast Go.Proofs.YtmffjekpnibnfaaW.PrintMore
attribute [local go_sem] max2_int min2_int max_two min_two max_three min_three max_four min_four   -- for this text's walks alone
set_option linter.unusedVariables false
set_option linter.unusedSimpArgs false

/-! ### laws_FnPermGroup: function 12 -/
mutual
def laws_FnPermGroup.j0 : Nat → Int → Int → Int → Bool → Bool → Option (Bool)
  | 0, _, _, _, _, _ => none
  | k + 1, x4, x5, x6, x7, x8 => (impl_ComposePerm4.f x4 x5).bind fun t145 => ((impl_SignPerm4.f t145).bind fun t146 => ((impl_SignPerm4.f x4).bind fun t147 => ((impl_SignPerm4.f x5).bind fun t148 => (if t146 = (wrap64 (t147 * t148)) then ((impl_SignPerm4.f x4).bind fun t149 => (laws_FnPermGroup.j1 k x4 x6 x7 x8 (t149 != 0))) else (laws_FnPermGroup.j1 k x4 x6 x7 x8 false)))))
def laws_FnPermGroup.j1 : Nat → Int → Int → Bool → Bool → Bool → Option (Bool)
  | 0, _, _, _, _, _ => none
  | k + 1, x4, x6, x7, x8, x9 => laws_FnPermGroup.l0 k x4 x6 x7 x8 x9 x4 1
def laws_FnPermGroup.j3 : Nat → Int → Int → Bool → Bool → Bool → Int → Option (Bool)
  | 0, _, _, _, _, _, _ => none
  | k + 1, x4, x6, x7, x8, x9, x10 => if x7 = true then (if x8 = true then (if x9 = true then (if x10 = 0 then ((impl_Perm4.f x4).bind fun t152 => ((impl_IndexOfPerm4.f k t152).bind fun t155 => (if t155 = x4 then ((impl_InvertPerm4.f x4).bind fun t156 => ((impl_ApplyPerm4.f x4 (Int.tmod x6 4)).bind fun t157 => ((impl_ApplyPerm4.f t156 t157).bind fun t158 => (some (t158 == (Int.tmod x6 4)))))) else (some false)))) else (some false)) else (some false)) else (some false)) else (some false)
def laws_FnPermGroup.l0 : Nat → Int → Int → Bool → Bool → Bool → Int → Int → Option (Bool)
  | 0, _, _, _, _, _, _, _ => none
  | k + 1, x4, x6, x7, x8, x9, x10, x11 => (impl_OrderPerm4.f k x4).bind fun t150 => (if x11 < t150 then (if x11 < 24 then ((impl_ComposePerm4.f x10 x4).bind fun t151 => (laws_FnPermGroup.l0 k x4 x6 x7 x8 x9 t151 (wrap64 (x11 + 1)))) else (laws_FnPermGroup.j3 k x4 x6 x7 x8 x9 x10)) else (laws_FnPermGroup.j3 k x4 x6 x7 x8 x9 x10))
end
def laws_FnPermGroup.f (k : Nat) (l0 : List Int) : Option (Bool) := (laws_big.f l0).bind fun t123 => (if t123 = true then (some true) else ((laws_roll.f k l0 501).bind fun bt124 => ((laws_dice_below.f bt124.1 bt124.2.1 bt124.2.2 24).bind fun bt128 => ((laws_dice_below.f bt124.1 bt128.2.1 bt128.2.2 24).bind fun bt131 => ((laws_dice_below.f bt124.1 bt131.2.1 bt131.2.2 24).bind fun bt134 => ((impl_ComposePerm4.f bt128.1 bt131.1).bind fun t137 => ((impl_ComposePerm4.f t137 bt134.1).bind fun t138 => ((impl_ComposePerm4.f bt131.1 bt134.1).bind fun t139 => ((impl_ComposePerm4.f bt128.1 t139).bind fun t140 => ((impl_InvertPerm4.f bt128.1).bind fun t141 => ((impl_ComposePerm4.f bt128.1 t141).bind fun t142 => (if t142 = 0 then ((impl_InvertPerm4.f bt128.1).bind fun t143 => ((impl_ComposePerm4.f t143 bt128.1).bind fun t144 => (laws_FnPermGroup.j0 k bt128.1 bt131.1 bt134.1 (t138 == t140) (t144 == 0)))) else (laws_FnPermGroup.j0 k bt128.1 bt131.1 bt134.1 (t138 == t140) false)))))))))))))
theorem laws_FnPermGroup.mono_l : ∀ k, (∀ y0 y1 y2 y3 y4, LeO (laws_FnPermGroup.j0 k y0 y1 y2 y3 y4) (laws_FnPermGroup.j0 (k + 1) y0 y1 y2 y3 y4)) ∧ (∀ y0 y1 y2 y3 y4, LeO (laws_FnPermGroup.j1 k y0 y1 y2 y3 y4) (laws_FnPermGroup.j1 (k + 1) y0 y1 y2 y3 y4)) ∧ (∀ y0 y1 y2 y3 y4 y5, LeO (laws_FnPermGroup.j3 k y0 y1 y2 y3 y4 y5) (laws_FnPermGroup.j3 (k + 1) y0 y1 y2 y3 y4 y5)) ∧ (∀ y0 y1 y2 y3 y4 y5 y6, LeO (laws_FnPermGroup.l0 k y0 y1 y2 y3 y4 y5 y6) (laws_FnPermGroup.l0 (k + 1) y0 y1 y2 y3 y4 y5 y6))
  | 0 => ⟨fun _ _ _ _ _ r h => by simp [laws_FnPermGroup.j0] at h, fun _ _ _ _ _ r h => by simp [laws_FnPermGroup.j1] at h, fun _ _ _ _ _ _ r h => by simp [laws_FnPermGroup.j3] at h, fun _ _ _ _ _ _ _ r h => by simp [laws_FnPermGroup.l0] at h⟩
  | k + 1 => by
    obtain ⟨ih0, ih1, ih2, ih3⟩ := laws_FnPermGroup.mono_l k
    refine ⟨?_, ?_, ?_, ?_⟩
    · intro y0 y1 y2 y3 y4
      unfold laws_FnPermGroup.j0
      repeat' first
      | (with_reducible exact ih0 _ _ _ _ _)
      | (with_reducible exact ih1 _ _ _ _ _)
      | (with_reducible exact ih2 _ _ _ _ _ _)
      | (with_reducible exact ih3 _ _ _ _ _ _ _)
      | (with_reducible exact impl_IndexOfPerm4.mono _ _)
      | (with_reducible exact impl_OrderPerm4.mono _ _)
      | (with_reducible exact laws_roll.mono _ _ _)
      | (with_reducible exact LeO.refl _)
      | (with_reducible exact LeO.none _)
      | (with_reducible refine LeO.ite ?_ ?_)
      | (with_reducible refine LeO.bind ?_ (fun _ => ?_))
      | exact ih0 _ _ _ _ _
      | exact ih1 _ _ _ _ _
      | exact ih2 _ _ _ _ _ _
      | exact ih3 _ _ _ _ _ _ _
      | exact impl_IndexOfPerm4.mono _ _
      | exact impl_OrderPerm4.mono _ _
      | exact laws_roll.mono _ _ _
      | exact LeO.none _
      | refine LeO.ite ?_ ?_
      | refine LeO.bind ?_ (fun _ => ?_)
    · intro y0 y1 y2 y3 y4
      unfold laws_FnPermGroup.j1
      repeat' first
      | (with_reducible exact ih0 _ _ _ _ _)
      | (with_reducible exact ih1 _ _ _ _ _)
      | (with_reducible exact ih2 _ _ _ _ _ _)
      | (with_reducible exact ih3 _ _ _ _ _ _ _)
      | (with_reducible exact impl_IndexOfPerm4.mono _ _)
      | (with_reducible exact impl_OrderPerm4.mono _ _)
      | (with_reducible exact laws_roll.mono _ _ _)
      | (with_reducible exact LeO.refl _)
      | (with_reducible exact LeO.none _)
      | (with_reducible refine LeO.ite ?_ ?_)
      | (with_reducible refine LeO.bind ?_ (fun _ => ?_))
      | exact ih0 _ _ _ _ _
      | exact ih1 _ _ _ _ _
      | exact ih2 _ _ _ _ _ _
      | exact ih3 _ _ _ _ _ _ _
      | exact impl_IndexOfPerm4.mono _ _
      | exact impl_OrderPerm4.mono _ _
      | exact laws_roll.mono _ _ _
      | exact LeO.none _
      | refine LeO.ite ?_ ?_
      | refine LeO.bind ?_ (fun _ => ?_)
    · intro y0 y1 y2 y3 y4 y5
      unfold laws_FnPermGroup.j3
      repeat' first
      | (with_reducible exact ih0 _ _ _ _ _)
      | (with_reducible exact ih1 _ _ _ _ _)
      | (with_reducible exact ih2 _ _ _ _ _ _)
      | (with_reducible exact ih3 _ _ _ _ _ _ _)
      | (with_reducible exact impl_IndexOfPerm4.mono _ _)
      | (with_reducible exact impl_OrderPerm4.mono _ _)
      | (with_reducible exact laws_roll.mono _ _ _)
      | (with_reducible exact LeO.refl _)
      | (with_reducible exact LeO.none _)
      | (with_reducible refine LeO.ite ?_ ?_)
      | (with_reducible refine LeO.bind ?_ (fun _ => ?_))
      | exact ih0 _ _ _ _ _
      | exact ih1 _ _ _ _ _
      | exact ih2 _ _ _ _ _ _
      | exact ih3 _ _ _ _ _ _ _
      | exact impl_IndexOfPerm4.mono _ _
      | exact impl_OrderPerm4.mono _ _
      | exact laws_roll.mono _ _ _
      | exact LeO.none _
      | refine LeO.ite ?_ ?_
      | refine LeO.bind ?_ (fun _ => ?_)
    · intro y0 y1 y2 y3 y4 y5 y6
      unfold laws_FnPermGroup.l0
      repeat' first
      | (with_reducible exact ih0 _ _ _ _ _)
      | (with_reducible exact ih1 _ _ _ _ _)
      | (with_reducible exact ih2 _ _ _ _ _ _)
      | (with_reducible exact ih3 _ _ _ _ _ _ _)
      | (with_reducible exact impl_IndexOfPerm4.mono _ _)
      | (with_reducible exact impl_OrderPerm4.mono _ _)
      | (with_reducible exact laws_roll.mono _ _ _)
      | (with_reducible exact LeO.refl _)
      | (with_reducible exact LeO.none _)
      | (with_reducible refine LeO.ite ?_ ?_)
      | (with_reducible refine LeO.bind ?_ (fun _ => ?_))
      | exact ih0 _ _ _ _ _
      | exact ih1 _ _ _ _ _
      | exact ih2 _ _ _ _ _ _
      | exact ih3 _ _ _ _ _ _ _
      | exact impl_IndexOfPerm4.mono _ _
      | exact impl_OrderPerm4.mono _ _
      | exact laws_roll.mono _ _ _
      | exact LeO.none _
      | refine LeO.ite ?_ ?_
      | refine LeO.bind ?_ (fun _ => ?_)
theorem laws_FnPermGroup.mono : ∀ a0 k, LeO (laws_FnPermGroup.f k a0) (laws_FnPermGroup.f (k + 1) a0) := by
  intro a0 k
  obtain ⟨ih0, ih1, ih2, ih3⟩ := laws_FnPermGroup.mono_l k
  unfold laws_FnPermGroup.f
  repeat' first
      | (with_reducible exact ih0 _ _ _ _ _)
      | (with_reducible exact ih1 _ _ _ _ _)
      | (with_reducible exact ih2 _ _ _ _ _ _)
      | (with_reducible exact ih3 _ _ _ _ _ _ _)
      | (with_reducible exact impl_IndexOfPerm4.mono _ _)
      | (with_reducible exact impl_OrderPerm4.mono _ _)
      | (with_reducible exact laws_roll.mono _ _ _)
      | (with_reducible exact LeO.refl _)
      | (with_reducible exact LeO.none _)
      | (with_reducible refine LeO.ite ?_ ?_)
      | (with_reducible refine LeO.bind ?_ (fun _ => ?_))
      | exact ih0 _ _ _ _ _
      | exact ih1 _ _ _ _ _
      | exact ih2 _ _ _ _ _ _
      | exact ih3 _ _ _ _ _ _ _
      | exact impl_IndexOfPerm4.mono _ _
      | exact impl_OrderPerm4.mono _ _
      | exact laws_roll.mono _ _ _
      | exact LeO.none _
      | refine LeO.ite ?_ ?_
      | refine LeO.bind ?_ (fun _ => ?_)
set_option maxHeartbeats 8000000 in
set_option maxRecDepth 100000 in
theorem laws_FnPermGroup.calls (k : Nat) (A0 : Option Addr) (c0 : Nat) (l0 : List Int) (r : Bool) (w : World) (hr0 : Kd.C (Kd.int .u8) w A0 l0.length l0) (hc0 : l0.length ≤ c0) (h : laws_FnPermGroup.f k l0 = some r) (HT_ : Aside0 (r = true)) :
    Calls Try.prog 12 #[.slice A0 l0.length c0] w fun e w' => e = .returned (.bool r) ∧ Below w.heap.size w w' := by
  have HR0 := Aside0.mk hr0
  have HC0 := Aside0.mk hc0
  clear hr0 hc0
  have HB := Aside0.mk (Below.refl w.heap.size w)
  have H : ((laws_big.f l0).bind fun t123 => (if t123 = true then (some true) else ((laws_roll.f k l0 501).bind fun bt124 => ((laws_dice_below.f bt124.1 bt124.2.1 bt124.2.2 24).bind fun bt128 => ((laws_dice_below.f bt124.1 bt128.2.1 bt128.2.2 24).bind fun bt131 => ((laws_dice_below.f bt124.1 bt131.2.1 bt131.2.2 24).bind fun bt134 => ((impl_ComposePerm4.f bt128.1 bt131.1).bind fun t137 => ((impl_ComposePerm4.f t137 bt134.1).bind fun t138 => ((impl_ComposePerm4.f bt131.1 bt134.1).bind fun t139 => ((impl_ComposePerm4.f bt128.1 t139).bind fun t140 => ((impl_InvertPerm4.f bt128.1).bind fun t141 => ((impl_ComposePerm4.f bt128.1 t141).bind fun t142 => (if t142 = 0 then ((impl_InvertPerm4.f bt128.1).bind fun t143 => ((impl_ComposePerm4.f t143 bt128.1).bind fun t144 => (laws_FnPermGroup.j0 k bt128.1 bt131.1 bt134.1 (t138 == t140) (t144 == 0)))) else (laws_FnPermGroup.j0 k bt128.1 bt131.1 bt134.1 (t138 == t140) false)))))))))))))) = some r := h
  clear h
  replace H := Option.bind_eq_some_iff.mp H
  obtain ⟨t123, A20, H⟩ := H
  replace H : (if t123 = true then (some true) else ((laws_roll.f k l0 501).bind fun bt124 => ((laws_dice_below.f bt124.1 bt124.2.1 bt124.2.2 24).bind fun bt128 => ((laws_dice_below.f bt124.1 bt128.2.1 bt128.2.2 24).bind fun bt131 => ((laws_dice_below.f bt124.1 bt131.2.1 bt131.2.2 24).bind fun bt134 => ((impl_ComposePerm4.f bt128.1 bt131.1).bind fun t137 => ((impl_ComposePerm4.f t137 bt134.1).bind fun t138 => ((impl_ComposePerm4.f bt131.1 bt134.1).bind fun t139 => ((impl_ComposePerm4.f bt128.1 t139).bind fun t140 => ((impl_InvertPerm4.f bt128.1).bind fun t141 => ((impl_ComposePerm4.f bt128.1 t141).bind fun t142 => (if t142 = 0 then ((impl_InvertPerm4.f bt128.1).bind fun t143 => ((impl_ComposePerm4.f t143 bt128.1).bind fun t144 => (laws_FnPermGroup.j0 k bt128.1 bt131.1 bt134.1 (t138 == t140) (t144 == 0)))) else (laws_FnPermGroup.j0 k bt128.1 bt131.1 bt134.1 (t138 == t140) false))))))))))))) = some r := H
  have A2 := Aside0.mk A20
  clear A20
  by_cases c3 : t123 = true
  · subst c3
    have H1 : (some true) = some r := by rw [if_pos rfl] at H; exact H
    clear H
    have H := H1
    clear H1
    obtain rfl := Option.some.inj H
    go_enter Try.func12, Try.ntmps12
    go_wp2_with (first | ((with_reducible refine gate_callee (f := 35) rfl ?_); refine goesL_ (some 13) rfl rfl Try.func35 (by kernel_rfl) rfl #[.slice A0 l0.length c0] rfl (by (try simp only [List.map_toArray, List.map_cons, List.map_nil]); first | done | rfl | (simp only [List.length_drop, List.length_take]; rfl)) ?_; (with_reducible refine (laws_big.calls _ _ l0 true _ ?side1 ?side2 A2.out).mono ?_); (case side1 => repeat (first | exact HR0.out | (with_reducible refine Kd.C_alloc ?_ _) | (with_reducible refine Kd.C_drewN ?_ _) | (with_reducible refine Kd.C_drew ?_))); (case side2 => exact HC0.out); rintro e w' ⟨rfl, ⟨nd, rfl⟩⟩; refine ⟨_, rfl, ?_⟩))
    go_ret
    exact ⟨by first | rfl | (simp [errW_none, errW_some] <;> rfl) | (simp [*, errW_none, errW_some] <;> rfl), by repeat (first | (with_reducible first | exact HB.out | apply below_alloc | apply pw_below_drewN | apply below_drew1) | exact HB.out)⟩
  · replace c3 := Bool.eq_false_iff.mpr c3
    subst c3
    have H1 : ((laws_roll.f k l0 501).bind fun bt124 => ((laws_dice_below.f bt124.1 bt124.2.1 bt124.2.2 24).bind fun bt128 => ((laws_dice_below.f bt124.1 bt128.2.1 bt128.2.2 24).bind fun bt131 => ((laws_dice_below.f bt124.1 bt131.2.1 bt131.2.2 24).bind fun bt134 => ((impl_ComposePerm4.f bt128.1 bt131.1).bind fun t137 => ((impl_ComposePerm4.f t137 bt134.1).bind fun t138 => ((impl_ComposePerm4.f bt131.1 bt134.1).bind fun t139 => ((impl_ComposePerm4.f bt128.1 t139).bind fun t140 => ((impl_InvertPerm4.f bt128.1).bind fun t141 => ((impl_ComposePerm4.f bt128.1 t141).bind fun t142 => (if t142 = 0 then ((impl_InvertPerm4.f bt128.1).bind fun t143 => ((impl_ComposePerm4.f t143 bt128.1).bind fun t144 => (laws_FnPermGroup.j0 k bt128.1 bt131.1 bt134.1 (t138 == t140) (t144 == 0)))) else (laws_FnPermGroup.j0 k bt128.1 bt131.1 bt134.1 (t138 == t140) false)))))))))))) = some r := by rw [if_neg (show ¬ (false = true) by decide)] at H; exact H
    clear H
    have H := H1
    clear H1
    replace H := Option.bind_eq_some_iff.mp H
    obtain ⟨⟨t124, t125, t126⟩, A40, H⟩ := H
    replace H : ((laws_dice_below.f t124 t125 t126 24).bind fun bt128 => ((laws_dice_below.f t124 bt128.2.1 bt128.2.2 24).bind fun bt131 => ((laws_dice_below.f t124 bt131.2.1 bt131.2.2 24).bind fun bt134 => ((impl_ComposePerm4.f bt128.1 bt131.1).bind fun t137 => ((impl_ComposePerm4.f t137 bt134.1).bind fun t138 => ((impl_ComposePerm4.f bt131.1 bt134.1).bind fun t139 => ((impl_ComposePerm4.f bt128.1 t139).bind fun t140 => ((impl_InvertPerm4.f bt128.1).bind fun t141 => ((impl_ComposePerm4.f bt128.1 t141).bind fun t142 => (if t142 = 0 then ((impl_InvertPerm4.f bt128.1).bind fun t143 => ((impl_ComposePerm4.f t143 bt128.1).bind fun t144 => (laws_FnPermGroup.j0 k bt128.1 bt131.1 bt134.1 (t138 == t140) (t144 == 0)))) else (laws_FnPermGroup.j0 k bt128.1 bt131.1 bt134.1 (t138 == t140) false))))))))))) = some r := H
    have A4 := Aside0.mk A40
    clear A40
    replace H := Option.bind_eq_some_iff.mp H
    obtain ⟨⟨t128, t129, t130⟩, A50, H⟩ := H
    replace H : ((laws_dice_below.f t124 t129 t130 24).bind fun bt131 => ((laws_dice_below.f t124 bt131.2.1 bt131.2.2 24).bind fun bt134 => ((impl_ComposePerm4.f t128 bt131.1).bind fun t137 => ((impl_ComposePerm4.f t137 bt134.1).bind fun t138 => ((impl_ComposePerm4.f bt131.1 bt134.1).bind fun t139 => ((impl_ComposePerm4.f t128 t139).bind fun t140 => ((impl_InvertPerm4.f t128).bind fun t141 => ((impl_ComposePerm4.f t128 t141).bind fun t142 => (if t142 = 0 then ((impl_InvertPerm4.f t128).bind fun t143 => ((impl_ComposePerm4.f t143 t128).bind fun t144 => (laws_FnPermGroup.j0 k t128 bt131.1 bt134.1 (t138 == t140) (t144 == 0)))) else (laws_FnPermGroup.j0 k t128 bt131.1 bt134.1 (t138 == t140) false)))))))))) = some r := H
    have A5 := Aside0.mk A50
    clear A50
    replace H := Option.bind_eq_some_iff.mp H
    obtain ⟨⟨t131, t132, t133⟩, A60, H⟩ := H
    replace H : ((laws_dice_below.f t124 t132 t133 24).bind fun bt134 => ((impl_ComposePerm4.f t128 t131).bind fun t137 => ((impl_ComposePerm4.f t137 bt134.1).bind fun t138 => ((impl_ComposePerm4.f t131 bt134.1).bind fun t139 => ((impl_ComposePerm4.f t128 t139).bind fun t140 => ((impl_InvertPerm4.f t128).bind fun t141 => ((impl_ComposePerm4.f t128 t141).bind fun t142 => (if t142 = 0 then ((impl_InvertPerm4.f t128).bind fun t143 => ((impl_ComposePerm4.f t143 t128).bind fun t144 => (laws_FnPermGroup.j0 k t128 t131 bt134.1 (t138 == t140) (t144 == 0)))) else (laws_FnPermGroup.j0 k t128 t131 bt134.1 (t138 == t140) false))))))))) = some r := H
    have A6 := Aside0.mk A60
    clear A60
    replace H := Option.bind_eq_some_iff.mp H
    obtain ⟨⟨t134, t135, t136⟩, A70, H⟩ := H
    replace H : ((impl_ComposePerm4.f t128 t131).bind fun t137 => ((impl_ComposePerm4.f t137 t134).bind fun t138 => ((impl_ComposePerm4.f t131 t134).bind fun t139 => ((impl_ComposePerm4.f t128 t139).bind fun t140 => ((impl_InvertPerm4.f t128).bind fun t141 => ((impl_ComposePerm4.f t128 t141).bind fun t142 => (if t142 = 0 then ((impl_InvertPerm4.f t128).bind fun t143 => ((impl_ComposePerm4.f t143 t128).bind fun t144 => (laws_FnPermGroup.j0 k t128 t131 t134 (t138 == t140) (t144 == 0)))) else (laws_FnPermGroup.j0 k t128 t131 t134 (t138 == t140) false)))))))) = some r := H
    have A7 := Aside0.mk A70
    clear A70
    replace H := Option.bind_eq_some_iff.mp H
    obtain ⟨t137, A80, H⟩ := H
    replace H : ((impl_ComposePerm4.f t137 t134).bind fun t138 => ((impl_ComposePerm4.f t131 t134).bind fun t139 => ((impl_ComposePerm4.f t128 t139).bind fun t140 => ((impl_InvertPerm4.f t128).bind fun t141 => ((impl_ComposePerm4.f t128 t141).bind fun t142 => (if t142 = 0 then ((impl_InvertPerm4.f t128).bind fun t143 => ((impl_ComposePerm4.f t143 t128).bind fun t144 => (laws_FnPermGroup.j0 k t128 t131 t134 (t138 == t140) (t144 == 0)))) else (laws_FnPermGroup.j0 k t128 t131 t134 (t138 == t140) false))))))) = some r := H
    have A8 := Aside0.mk A80
    clear A80
    replace H := Option.bind_eq_some_iff.mp H
    obtain ⟨t138, A90, H⟩ := H
    replace H : ((impl_ComposePerm4.f t131 t134).bind fun t139 => ((impl_ComposePerm4.f t128 t139).bind fun t140 => ((impl_InvertPerm4.f t128).bind fun t141 => ((impl_ComposePerm4.f t128 t141).bind fun t142 => (if t142 = 0 then ((impl_InvertPerm4.f t128).bind fun t143 => ((impl_ComposePerm4.f t143 t128).bind fun t144 => (laws_FnPermGroup.j0 k t128 t131 t134 (t138 == t140) (t144 == 0)))) else (laws_FnPermGroup.j0 k t128 t131 t134 (t138 == t140) false)))))) = some r := H
    have A9 := Aside0.mk A90
    clear A90
    replace H := Option.bind_eq_some_iff.mp H
    obtain ⟨t139, A100, H⟩ := H
    replace H : ((impl_ComposePerm4.f t128 t139).bind fun t140 => ((impl_InvertPerm4.f t128).bind fun t141 => ((impl_ComposePerm4.f t128 t141).bind fun t142 => (if t142 = 0 then ((impl_InvertPerm4.f t128).bind fun t143 => ((impl_ComposePerm4.f t143 t128).bind fun t144 => (laws_FnPermGroup.j0 k t128 t131 t134 (t138 == t140) (t144 == 0)))) else (laws_FnPermGroup.j0 k t128 t131 t134 (t138 == t140) false))))) = some r := H
    have A10 := Aside0.mk A100
    clear A100
    replace H := Option.bind_eq_some_iff.mp H
    obtain ⟨t140, A110, H⟩ := H
    replace H : ((impl_InvertPerm4.f t128).bind fun t141 => ((impl_ComposePerm4.f t128 t141).bind fun t142 => (if t142 = 0 then ((impl_InvertPerm4.f t128).bind fun t143 => ((impl_ComposePerm4.f t143 t128).bind fun t144 => (laws_FnPermGroup.j0 k t128 t131 t134 (t138 == t140) (t144 == 0)))) else (laws_FnPermGroup.j0 k t128 t131 t134 (t138 == t140) false)))) = some r := H
    have A11 := Aside0.mk A110
    clear A110
    have HC12 := Aside0.mk H
    clear H
    go_enter Try.func12, Try.ntmps12
    go_upto_region 8 with (first | ((with_reducible refine gate_callee (f := 35) rfl ?_); refine goesL_ (some 13) rfl rfl Try.func35 (by kernel_rfl) rfl #[.slice A0 l0.length c0] rfl (by (try simp only [List.map_toArray, List.map_cons, List.map_nil]); first | done | rfl | (simp only [List.length_drop, List.length_take]; rfl)) ?_; (with_reducible refine (laws_big.calls _ _ l0 false _ ?side1 ?side2 A2.out).mono ?_); (case side1 => repeat (first | exact HR0.out | (with_reducible refine Kd.C_alloc ?_ _) | (with_reducible refine Kd.C_drewN ?_ _) | (with_reducible refine Kd.C_drew ?_))); (case side2 => exact HC0.out); rintro e w' ⟨rfl, ⟨nd, rfl⟩⟩; refine ⟨_, rfl, ?_⟩) | ((with_reducible refine gate_callee (f := 36) rfl ?_); refine goesL_ (some 15) rfl rfl Try.func36 (by kernel_rfl) rfl #[.slice A0 l0.length c0, .int .u64 501] rfl (by (try simp only [List.map_toArray, List.map_cons, List.map_nil]); first | done | rfl | (simp only [List.length_drop, List.length_take]; rfl)) ?_; (with_reducible refine (laws_roll.calls k _ _ l0 501 t124 t125 t126 w _ ?side1 ?side2 ?side3 A4.out).mono ?_); (case side1 => repeat (first | (with_reducible first | exact HB.out | apply below_alloc | apply pw_below_drewN | apply below_drew1) | exact HB.out)); (case side2 => exact HR0.out); (case side3 => exact HC0.out); rintro e w13 ⟨g127, rfl, hi, hb, hb2⟩; refine ⟨_, rfl, ?_⟩; have n0_ := Aside0.mk (hb); have n1_ := Aside0.mk (hi); clear HB; have HB := n0_; have HI127 := n1_; clear n0_ n1_; (try clear hb); (try clear hb2); (try clear hk); (try clear hi)) | ((with_reducible refine gate_callee (f := 37) rfl ?_); refine goesL_ (some 17) rfl rfl Try.func37 (by kernel_rfl) rfl #[.pointer (some ⟨g127, 0, none⟩), .int .i64 24] rfl (by (try simp only [List.map_toArray, List.map_cons, List.map_nil]); first | done | rfl | (simp only [List.length_drop, List.length_take]; rfl)) ?_; (with_reducible refine (laws_dice_below.calls g127 t124 t125 t126 24 t128 t129 t130 w _ ?side1 ?side2 A5.out).mono ?_); (case side1 => repeat (first | (with_reducible first | exact HI127.out | apply IsS51.alloc | apply IsS51.drewN | apply IsS51.drew | apply IsS51.set_1 | apply IsS51.set_2) | exact HI127.out)); (case side2 => repeat (first | (with_reducible first | exact HB.out | apply below_alloc | apply pw_below_drewN | apply below_drew1 | refine below_set ?_ (IsS51.ge HI127.out)) | exact HB.out)); rintro e w14 ⟨rfl, hi, hb, hk⟩; refine ⟨_, rfl, ?_⟩; have n0_ := Aside0.mk (hb); have n1_ := Aside0.mk (hi); clear HB; clear HI127; have HB := n0_; have HI127 := n1_; clear n0_ n1_; (try clear hb); (try clear hb2); (try clear hk); (try clear hi)) | ((with_reducible refine gate_callee (f := 37) rfl ?_); refine goesL_ (some 19) rfl rfl Try.func37 (by kernel_rfl) rfl #[.pointer (some ⟨g127, 0, none⟩), .int .i64 24] rfl (by (try simp only [List.map_toArray, List.map_cons, List.map_nil]); first | done | rfl | (simp only [List.length_drop, List.length_take]; rfl)) ?_; (with_reducible refine (laws_dice_below.calls g127 t124 t129 t130 24 t131 t132 t133 w _ ?side1 ?side2 A6.out).mono ?_); (case side1 => repeat (first | (with_reducible first | exact HI127.out | apply IsS51.alloc | apply IsS51.drewN | apply IsS51.drew | apply IsS51.set_1 | apply IsS51.set_2) | exact HI127.out)); (case side2 => repeat (first | (with_reducible first | exact HB.out | apply below_alloc | apply pw_below_drewN | apply below_drew1 | refine below_set ?_ (IsS51.ge HI127.out)) | exact HB.out)); rintro e w15 ⟨rfl, hi, hb, hk⟩; refine ⟨_, rfl, ?_⟩; have n0_ := Aside0.mk (hb); have n1_ := Aside0.mk (hi); clear HB; clear HI127; have HB := n0_; have HI127 := n1_; clear n0_ n1_; (try clear hb); (try clear hb2); (try clear hk); (try clear hi)) | ((with_reducible refine gate_callee (f := 37) rfl ?_); refine goesL_ (some 21) rfl rfl Try.func37 (by kernel_rfl) rfl #[.pointer (some ⟨g127, 0, none⟩), .int .i64 24] rfl (by (try simp only [List.map_toArray, List.map_cons, List.map_nil]); first | done | rfl | (simp only [List.length_drop, List.length_take]; rfl)) ?_; (with_reducible refine (laws_dice_below.calls g127 t124 t132 t133 24 t134 t135 t136 w _ ?side1 ?side2 A7.out).mono ?_); (case side1 => repeat (first | (with_reducible first | exact HI127.out | apply IsS51.alloc | apply IsS51.drewN | apply IsS51.drew | apply IsS51.set_1 | apply IsS51.set_2) | exact HI127.out)); (case side2 => repeat (first | (with_reducible first | exact HB.out | apply below_alloc | apply pw_below_drewN | apply below_drew1 | refine below_set ?_ (IsS51.ge HI127.out)) | exact HB.out)); rintro e w16 ⟨rfl, hi, hb, hk⟩; refine ⟨_, rfl, ?_⟩; have n0_ := Aside0.mk (hb); have n1_ := Aside0.mk (hi); clear HB; clear HI127; have HB := n0_; have HI127 := n1_; clear n0_ n1_; (try clear hb); (try clear hb2); (try clear hk); (try clear hi)) | ((with_reducible refine gate_callee (f := 28) rfl ?_); refine goesL_ (some 24) rfl rfl Try.func28 (by kernel_rfl) rfl #[.int .i64 t128, .int .i64 t131] rfl (by (try simp only [List.map_toArray, List.map_cons, List.map_nil]); first | done | rfl | (simp only [List.length_drop, List.length_take]; rfl)) ?_; (with_reducible refine (impl_ComposePerm4.calls t128 t131 t137 _ A8.out).mono ?_); rintro e w17 ⟨rfl, hb⟩; refine ⟨_, rfl, ?_⟩; have n0_ := Aside0.mk (IsS51.below (by repeat (first | (with_reducible first | exact HI127.out | apply IsS51.alloc | apply IsS51.drewN | apply IsS51.drew | apply IsS51.set_1 | apply IsS51.set_2) | exact HI127.out)) hb); have n1_ := Aside0.mk (below_step (by repeat (first | (with_reducible first | exact HB.out | apply below_alloc | apply pw_below_drewN | apply below_drew1 | refine below_set ?_ (IsS51.ge HI127.out)) | exact HB.out)) hb); clear HI127; clear HB; have HI127 := n0_; have HB := n1_; clear n0_ n1_; (try clear hb); (try clear hb2); (try clear hk); (try clear hi)) | ((with_reducible refine gate_callee (f := 28) rfl ?_); refine goesL_ (some 26) rfl rfl Try.func28 (by kernel_rfl) rfl #[.int .i64 t137, .int .i64 t134] rfl (by (try simp only [List.map_toArray, List.map_cons, List.map_nil]); first | done | rfl | (simp only [List.length_drop, List.length_take]; rfl)) ?_; (with_reducible refine (impl_ComposePerm4.calls t137 t134 t138 _ A9.out).mono ?_); rintro e w18 ⟨rfl, hb⟩; refine ⟨_, rfl, ?_⟩; have n0_ := Aside0.mk (IsS51.below (by repeat (first | (with_reducible first | exact HI127.out | apply IsS51.alloc | apply IsS51.drewN | apply IsS51.drew | apply IsS51.set_1 | apply IsS51.set_2) | exact HI127.out)) hb); have n1_ := Aside0.mk (below_step (by repeat (first | (with_reducible first | exact HB.out | apply below_alloc | apply pw_below_drewN | apply below_drew1 | refine below_set ?_ (IsS51.ge HI127.out)) | exact HB.out)) hb); clear HI127; clear HB; have HI127 := n0_; have HB := n1_; clear n0_ n1_; (try clear hb); (try clear hb2); (try clear hk); (try clear hi)) | ((with_reducible refine gate_callee (f := 28) rfl ?_); refine goesL_ (some 30) rfl rfl Try.func28 (by kernel_rfl) rfl #[.int .i64 t131, .int .i64 t134] rfl (by (try simp only [List.map_toArray, List.map_cons, List.map_nil]); first | done | rfl | (simp only [List.length_drop, List.length_take]; rfl)) ?_; (with_reducible refine (impl_ComposePerm4.calls t131 t134 t139 _ A10.out).mono ?_); rintro e w19 ⟨rfl, hb⟩; refine ⟨_, rfl, ?_⟩; have n0_ := Aside0.mk (IsS51.below (by repeat (first | (with_reducible first | exact HI127.out | apply IsS51.alloc | apply IsS51.drewN | apply IsS51.drew | apply IsS51.set_1 | apply IsS51.set_2) | exact HI127.out)) hb); have n1_ := Aside0.mk (below_step (by repeat (first | (with_reducible first | exact HB.out | apply below_alloc | apply pw_below_drewN | apply below_drew1 | refine below_set ?_ (IsS51.ge HI127.out)) | exact HB.out)) hb); clear HI127; clear HB; have HI127 := n0_; have HB := n1_; clear n0_ n1_; (try clear hb); (try clear hb2); (try clear hk); (try clear hi)) | ((with_reducible refine gate_callee (f := 28) rfl ?_); refine goesL_ (some 31) rfl rfl Try.func28 (by kernel_rfl) rfl #[.int .i64 t128, .int .i64 t139] rfl (by (try simp only [List.map_toArray, List.map_cons, List.map_nil]); first | done | rfl | (simp only [List.length_drop, List.length_take]; rfl)) ?_; (with_reducible refine (impl_ComposePerm4.calls t128 t139 t140 _ A11.out).mono ?_); rintro e w20 ⟨rfl, hb⟩; refine ⟨_, rfl, ?_⟩; have n0_ := Aside0.mk (IsS51.below (by repeat (first | (with_reducible first | exact HI127.out | apply IsS51.alloc | apply IsS51.drewN | apply IsS51.drew | apply IsS51.set_1 | apply IsS51.set_2) | exact HI127.out)) hb); have n1_ := Aside0.mk (below_step (by repeat (first | (with_reducible first | exact HB.out | apply below_alloc | apply pw_below_drewN | apply below_drew1 | refine below_set ?_ (IsS51.ge HI127.out)) | exact HB.out)) hb); clear HI127; clear HB; have HI127 := n0_; have HB := n1_; clear n0_ n1_; (try clear hb); (try clear hb2); (try clear hk); (try clear hi)))
    (try simp only [Act.put, List.setIfInBounds_toArray, List.set_cons_zero, List.set_cons_succ])
    go_cut [8] (fun v8 wc => ∃ (kq : Nat) (x8_11 : Bool), v8 = .bool x8_11 ∧ Aside0 (laws_FnPermGroup.j0 kq t128 t131 t134 (t138 == t140) x8_11 = some r) ∧ Aside0 (kq ≤ k) ∧ Aside0 (Below w.heap.size w wc))
    case first =>
      have H := HC12.out
      clear HC12
      replace H := Option.bind_eq_some_iff.mp H
      obtain ⟨t141, A210, H⟩ := H
      replace H : ((impl_ComposePerm4.f t128 t141).bind fun t142 => (if t142 = 0 then ((impl_InvertPerm4.f t128).bind fun t143 => ((impl_ComposePerm4.f t143 t128).bind fun t144 => (laws_FnPermGroup.j0 k t128 t131 t134 (t138 == t140) (t144 == 0)))) else (laws_FnPermGroup.j0 k t128 t131 t134 (t138 == t140) false))) = some r := H
      have A21 := Aside0.mk A210
      clear A210
      replace H := Option.bind_eq_some_iff.mp H
      obtain ⟨t142, A220, H⟩ := H
      replace H : (if t142 = 0 then ((impl_InvertPerm4.f t128).bind fun t143 => ((impl_ComposePerm4.f t143 t128).bind fun t144 => (laws_FnPermGroup.j0 k t128 t131 t134 (t138 == t140) (t144 == 0)))) else (laws_FnPermGroup.j0 k t128 t131 t134 (t138 == t140) false)) = some r := H
      have A22 := Aside0.mk A220
      clear A220
      by_cases c23 : t142 = 0
      · rw [if_pos c23] at H
        have c23b0 : (t142 == 0) = true := beq_iff_eq.mpr c23
        have c23b1 : (t142 != 0) = false := bne_eq_false_iff_eq.mpr c23
        clear c23
        (first | rw [c23b0] | (simp only [i64_w, i32_w]; rw [c23b0]) | skip)
        replace H := Option.bind_eq_some_iff.mp H
        obtain ⟨t143, A240, H⟩ := H
        replace H : ((impl_ComposePerm4.f t143 t128).bind fun t144 => (laws_FnPermGroup.j0 k t128 t131 t134 (t138 == t140) (t144 == 0))) = some r := H
        have A24 := Aside0.mk A240
        clear A240
        replace H := Option.bind_eq_some_iff.mp H
        obtain ⟨t144, A250, H⟩ := H
        replace H : (laws_FnPermGroup.j0 k t128 t131 t134 (t138 == t140) (t144 == 0)) = some r := H
        have A25 := Aside0.mk A250
        clear A250
        have H' := Aside0.mk H
        clear H
        go_wp2_with (first | ((with_reducible refine gate_callee (f := 30) rfl ?_); refine goesL_ (some 35) rfl rfl Try.func30 (by kernel_rfl) rfl #[.int .i64 t128] rfl (by (try simp only [List.map_toArray, List.map_cons, List.map_nil]); first | done | rfl | (simp only [List.length_drop, List.length_take]; rfl)) ?_; (with_reducible refine (impl_InvertPerm4.calls t128 t141 _ A21.out).mono ?_); rintro e w26 ⟨rfl, hb⟩; refine ⟨_, rfl, ?_⟩; have n0_ := Aside0.mk (IsS51.below (by repeat (first | (with_reducible first | exact HI127.out | apply IsS51.alloc | apply IsS51.drewN | apply IsS51.drew | apply IsS51.set_1 | apply IsS51.set_2) | exact HI127.out)) hb); have n1_ := Aside0.mk (below_step (by repeat (first | (with_reducible first | exact HB.out | apply below_alloc | apply pw_below_drewN | apply below_drew1 | refine below_set ?_ (IsS51.ge HI127.out)) | exact HB.out)) hb); clear HI127; clear HB; have HI127 := n0_; have HB := n1_; clear n0_ n1_; (try clear hb); (try clear hb2); (try clear hk); (try clear hi)) | ((with_reducible refine gate_callee (f := 28) rfl ?_); refine goesL_ (some 36) rfl rfl Try.func28 (by kernel_rfl) rfl #[.int .i64 t128, .int .i64 t141] rfl (by (try simp only [List.map_toArray, List.map_cons, List.map_nil]); first | done | rfl | (simp only [List.length_drop, List.length_take]; rfl)) ?_; (with_reducible refine (impl_ComposePerm4.calls t128 t141 t142 _ A22.out).mono ?_); rintro e w27 ⟨rfl, hb⟩; refine ⟨_, rfl, ?_⟩; have n0_ := Aside0.mk (IsS51.below (by repeat (first | (with_reducible first | exact HI127.out | apply IsS51.alloc | apply IsS51.drewN | apply IsS51.drew | apply IsS51.set_1 | apply IsS51.set_2) | exact HI127.out)) hb); have n1_ := Aside0.mk (below_step (by repeat (first | (with_reducible first | exact HB.out | apply below_alloc | apply pw_below_drewN | apply below_drew1 | refine below_set ?_ (IsS51.ge HI127.out)) | exact HB.out)) hb); clear HI127; clear HB; have HI127 := n0_; have HB := n1_; clear n0_ n1_; (try clear hb); (try clear hb2); (try clear hk); (try clear hi)) | (go_at_call 30; (with_reducible refine (impl_InvertPerm4.calls t128 t143 _ A24.out).mono ?_); rintro e w28 ⟨rfl, hb⟩; have n0_ := Aside0.mk (IsS51.below (by repeat (first | (with_reducible first | exact HI127.out | apply IsS51.alloc | apply IsS51.drewN | apply IsS51.drew | apply IsS51.set_1 | apply IsS51.set_2) | exact HI127.out)) hb); have n1_ := Aside0.mk (below_step (by repeat (first | (with_reducible first | exact HB.out | apply below_alloc | apply pw_below_drewN | apply below_drew1 | refine below_set ?_ (IsS51.ge HI127.out)) | exact HB.out)) hb); clear HI127; clear HB; have HI127 := n0_; have HB := n1_; clear n0_ n1_; (try clear hb); (try clear hb2); (try clear hk); (try clear hi)) | (go_at_call 28; (with_reducible refine (impl_ComposePerm4.calls t143 t128 t144 _ A25.out).mono ?_); rintro e w29 ⟨rfl, hb⟩; have n0_ := Aside0.mk (IsS51.below (by repeat (first | (with_reducible first | exact HI127.out | apply IsS51.alloc | apply IsS51.drewN | apply IsS51.drew | apply IsS51.set_1 | apply IsS51.set_2) | exact HI127.out)) hb); have n1_ := Aside0.mk (below_step (by repeat (first | (with_reducible first | exact HB.out | apply below_alloc | apply pw_below_drewN | apply below_drew1 | refine below_set ?_ (IsS51.ge HI127.out)) | exact HB.out)) hb); clear HI127; clear HB; have HI127 := n0_; have HB := n1_; clear n0_ n1_; (try clear hb); (try clear hb2); (try clear hk); (try clear hi)))
        go_meet
        case rel => exact ⟨_, ((t144 == 0)), (by first | rfl | (simp; done) | (simp [*]; done)), H', ⟨by first | omega | exact Nat.le_refl _⟩, ⟨by repeat (first | (with_reducible first | exact HB.out | apply below_alloc | apply pw_below_drewN | apply below_drew1 | refine below_set ?_ (IsS51.ge HI127.out)) | exact HB.out)⟩⟩
      · rw [if_neg c23] at H
        have c23b0 : (t142 == 0) = false := beq_eq_false_iff_ne.mpr c23
        have c23b1 : (t142 != 0) = true := bne_iff_ne.mpr c23
        (first | rw [c23b0] | (simp only [i64_w, i32_w]; rw [c23b0]) | skip)
        have H' := Aside0.mk H
        clear H
        go_wp2_with (first | ((with_reducible refine gate_callee (f := 30) rfl ?_); refine goesL_ (some 35) rfl rfl Try.func30 (by kernel_rfl) rfl #[.int .i64 t128] rfl (by (try simp only [List.map_toArray, List.map_cons, List.map_nil]); first | done | rfl | (simp only [List.length_drop, List.length_take]; rfl)) ?_; (with_reducible refine (impl_InvertPerm4.calls t128 t141 _ A21.out).mono ?_); rintro e w30 ⟨rfl, hb⟩; refine ⟨_, rfl, ?_⟩; have n0_ := Aside0.mk (IsS51.below (by repeat (first | (with_reducible first | exact HI127.out | apply IsS51.alloc | apply IsS51.drewN | apply IsS51.drew | apply IsS51.set_1 | apply IsS51.set_2) | exact HI127.out)) hb); have n1_ := Aside0.mk (below_step (by repeat (first | (with_reducible first | exact HB.out | apply below_alloc | apply pw_below_drewN | apply below_drew1 | refine below_set ?_ (IsS51.ge HI127.out)) | exact HB.out)) hb); clear HI127; clear HB; have HI127 := n0_; have HB := n1_; clear n0_ n1_; (try clear hb); (try clear hb2); (try clear hk); (try clear hi)) | ((with_reducible refine gate_callee (f := 28) rfl ?_); refine goesL_ (some 36) rfl rfl Try.func28 (by kernel_rfl) rfl #[.int .i64 t128, .int .i64 t141] rfl (by (try simp only [List.map_toArray, List.map_cons, List.map_nil]); first | done | rfl | (simp only [List.length_drop, List.length_take]; rfl)) ?_; (with_reducible refine (impl_ComposePerm4.calls t128 t141 t142 _ A22.out).mono ?_); rintro e w31 ⟨rfl, hb⟩; refine ⟨_, rfl, ?_⟩; have n0_ := Aside0.mk (IsS51.below (by repeat (first | (with_reducible first | exact HI127.out | apply IsS51.alloc | apply IsS51.drewN | apply IsS51.drew | apply IsS51.set_1 | apply IsS51.set_2) | exact HI127.out)) hb); have n1_ := Aside0.mk (below_step (by repeat (first | (with_reducible first | exact HB.out | apply below_alloc | apply pw_below_drewN | apply below_drew1 | refine below_set ?_ (IsS51.ge HI127.out)) | exact HB.out)) hb); clear HI127; clear HB; have HI127 := n0_; have HB := n1_; clear n0_ n1_; (try clear hb); (try clear hb2); (try clear hk); (try clear hi)))
        go_meet
        case rel => exact ⟨_, (false), (by first | rfl | (simp; done) | (simp [*]; done)), H', ⟨by first | omega | exact Nat.le_refl _⟩, ⟨by repeat (first | (with_reducible first | exact HB.out | apply below_alloc | apply pw_below_drewN | apply below_drew1 | refine below_set ?_ (IsS51.ge HI127.out)) | exact HB.out)⟩⟩
    case rest =>
      clear HC12
      try clear c1
      try clear c2
      try clear p2
      try clear c3
      try clear c12
      try clear c23
      try clear c23b0
      try clear c23b1
      try clear c28
      try clear c30
      obtain ⟨kq, x8_11, rfl, HA, HJ11, HB⟩ := hcut
      cases kq with
      | zero => exact absurd HA.out (by simp [laws_FnPermGroup.j0])
      | succ kj11 =>
        have H := HA.out
        clear HA
        simp only [laws_FnPermGroup.j0] at H
        have HC32 := Aside0.mk H
        clear H
        go_upto_region 9 with (fail)
        go_cut [9] (fun v9 wc => ∃ (kq : Nat) (x9_31 : Bool), v9 = .bool x9_31 ∧ Aside0 (laws_FnPermGroup.j1 kq t128 t134 (t138 == t140) x8_11 x9_31 = some r) ∧ Aside0 (kq ≤ kj11) ∧ Aside0 (Below w.heap.size w wc))
        case first =>
          have H := HC32.out
          clear HC32
          replace H := Option.bind_eq_some_iff.mp H
          obtain ⟨t145, A330, H⟩ := H
          replace H : ((impl_SignPerm4.f t145).bind fun t146 => ((impl_SignPerm4.f t128).bind fun t147 => ((impl_SignPerm4.f t131).bind fun t148 => (if t146 = (wrap64 (t147 * t148)) then ((impl_SignPerm4.f t128).bind fun t149 => (laws_FnPermGroup.j1 kj11 t128 t134 (t138 == t140) x8_11 (t149 != 0))) else (laws_FnPermGroup.j1 kj11 t128 t134 (t138 == t140) x8_11 false))))) = some r := H
          have A33 := Aside0.mk A330
          clear A330
          replace H := Option.bind_eq_some_iff.mp H
          obtain ⟨t146, A340, H⟩ := H
          replace H : ((impl_SignPerm4.f t128).bind fun t147 => ((impl_SignPerm4.f t131).bind fun t148 => (if t146 = (wrap64 (t147 * t148)) then ((impl_SignPerm4.f t128).bind fun t149 => (laws_FnPermGroup.j1 kj11 t128 t134 (t138 == t140) x8_11 (t149 != 0))) else (laws_FnPermGroup.j1 kj11 t128 t134 (t138 == t140) x8_11 false)))) = some r := H
          have A34 := Aside0.mk A340
          clear A340
          replace H := Option.bind_eq_some_iff.mp H
          obtain ⟨t147, A350, H⟩ := H
          replace H : ((impl_SignPerm4.f t131).bind fun t148 => (if t146 = (wrap64 (t147 * t148)) then ((impl_SignPerm4.f t128).bind fun t149 => (laws_FnPermGroup.j1 kj11 t128 t134 (t138 == t140) x8_11 (t149 != 0))) else (laws_FnPermGroup.j1 kj11 t128 t134 (t138 == t140) x8_11 false))) = some r := H
          have A35 := Aside0.mk A350
          clear A350
          replace H := Option.bind_eq_some_iff.mp H
          obtain ⟨t148, A360, H⟩ := H
          replace H : (if t146 = (wrap64 (t147 * t148)) then ((impl_SignPerm4.f t128).bind fun t149 => (laws_FnPermGroup.j1 kj11 t128 t134 (t138 == t140) x8_11 (t149 != 0))) else (laws_FnPermGroup.j1 kj11 t128 t134 (t138 == t140) x8_11 false)) = some r := H
          have A36 := Aside0.mk A360
          clear A360
          by_cases c37 : t146 = (wrap64 (t147 * t148))
          · rw [if_pos c37] at H
            have c37b0 : (t146 == (wrap64 (t147 * t148))) = true := beq_iff_eq.mpr c37
            have c37b1 : (t146 != (wrap64 (t147 * t148))) = false := bne_eq_false_iff_eq.mpr c37
            clear c37
            (first | rw [c37b0] | (simp only [i64_w, i32_w]; rw [c37b0]) | skip)
            replace H := Option.bind_eq_some_iff.mp H
            obtain ⟨t149, A380, H⟩ := H
            replace H : (laws_FnPermGroup.j1 kj11 t128 t134 (t138 == t140) x8_11 (t149 != 0)) = some r := H
            have A38 := Aside0.mk A380
            clear A380
            have H' := Aside0.mk H
            clear H
            go_wp2_with (first | ((with_reducible refine gate_callee (f := 28) rfl ?_); refine goesL_ (some 47) rfl rfl Try.func28 (by kernel_rfl) rfl #[.int .i64 t128, .int .i64 t131] rfl (by (try simp only [List.map_toArray, List.map_cons, List.map_nil]); first | done | rfl | (simp only [List.length_drop, List.length_take]; rfl)) ?_; (with_reducible refine (impl_ComposePerm4.calls t128 t131 t145 _ A33.out).mono ?_); rintro e w39 ⟨rfl, hb⟩; refine ⟨_, rfl, ?_⟩; have n0_ := Aside0.mk (below_step (by repeat (first | (with_reducible first | exact HB.out | apply below_alloc | apply pw_below_drewN | apply below_drew1) | exact HB.out)) hb); clear HB; have HB := n0_; clear n0_; (try clear hb); (try clear hb2); (try clear hk); (try clear hi)) | ((with_reducible refine gate_callee (f := 18) rfl ?_); refine goesL_ (some 48) rfl rfl Try.func18 (by kernel_rfl) rfl #[.int .i64 t145] rfl (by (try simp only [List.map_toArray, List.map_cons, List.map_nil]); first | done | rfl | (simp only [List.length_drop, List.length_take]; rfl)) ?_; (with_reducible refine (impl_SignPerm4.calls t145 t146 _ A34.out).mono ?_); rintro e w40 ⟨rfl, hb⟩; refine ⟨_, rfl, ?_⟩; have n0_ := Aside0.mk (below_step (by repeat (first | (with_reducible first | exact HB.out | apply below_alloc | apply pw_below_drewN | apply below_drew1) | exact HB.out)) hb); clear HB; have HB := n0_; clear n0_; (try clear hb); (try clear hb2); (try clear hk); (try clear hi)) | ((with_reducible refine gate_callee (f := 18) rfl ?_); refine goesL_ (some 50) rfl rfl Try.func18 (by kernel_rfl) rfl #[.int .i64 t128] rfl (by (try simp only [List.map_toArray, List.map_cons, List.map_nil]); first | done | rfl | (simp only [List.length_drop, List.length_take]; rfl)) ?_; (with_reducible refine (impl_SignPerm4.calls t128 t147 _ A35.out).mono ?_); rintro e w41 ⟨rfl, hb⟩; refine ⟨_, rfl, ?_⟩; have n0_ := Aside0.mk (below_step (by repeat (first | (with_reducible first | exact HB.out | apply below_alloc | apply pw_below_drewN | apply below_drew1) | exact HB.out)) hb); clear HB; have HB := n0_; clear n0_; (try clear hb); (try clear hb2); (try clear hk); (try clear hi)) | ((with_reducible refine gate_callee (f := 18) rfl ?_); refine goesL_ (some 52) rfl rfl Try.func18 (by kernel_rfl) rfl #[.int .i64 t131] rfl (by (try simp only [List.map_toArray, List.map_cons, List.map_nil]); first | done | rfl | (simp only [List.length_drop, List.length_take]; rfl)) ?_; (with_reducible refine (impl_SignPerm4.calls t131 t148 _ A36.out).mono ?_); rintro e w42 ⟨rfl, hb⟩; refine ⟨_, rfl, ?_⟩; have n0_ := Aside0.mk (below_step (by repeat (first | (with_reducible first | exact HB.out | apply below_alloc | apply pw_below_drewN | apply below_drew1) | exact HB.out)) hb); clear HB; have HB := n0_; clear n0_; (try clear hb); (try clear hb2); (try clear hk); (try clear hi)) | (go_at_call 18; (with_reducible refine (impl_SignPerm4.calls t128 t149 _ A38.out).mono ?_); rintro e w43 ⟨rfl, hb⟩; have n0_ := Aside0.mk (below_step (by repeat (first | (with_reducible first | exact HB.out | apply below_alloc | apply pw_below_drewN | apply below_drew1) | exact HB.out)) hb); clear HB; have HB := n0_; clear n0_; (try clear hb); (try clear hb2); (try clear hk); (try clear hi)))
            go_meet
            case rel => exact ⟨_, ((t149 != 0)), (by first | rfl | (simp; done) | (simp [*]; done)), H', ⟨by have := HJ11.out; first | omega | exact Nat.le_refl _⟩, ⟨by repeat (first | (with_reducible first | exact HB.out | apply below_alloc | apply pw_below_drewN | apply below_drew1) | exact HB.out)⟩⟩
          · rw [if_neg c37] at H
            have c37b0 : (t146 == (wrap64 (t147 * t148))) = false := beq_eq_false_iff_ne.mpr c37
            have c37b1 : (t146 != (wrap64 (t147 * t148))) = true := bne_iff_ne.mpr c37
            (first | rw [c37b0] | (simp only [i64_w, i32_w]; rw [c37b0]) | skip)
            have H' := Aside0.mk H
            clear H
            go_wp2_with (first | ((with_reducible refine gate_callee (f := 28) rfl ?_); refine goesL_ (some 47) rfl rfl Try.func28 (by kernel_rfl) rfl #[.int .i64 t128, .int .i64 t131] rfl (by (try simp only [List.map_toArray, List.map_cons, List.map_nil]); first | done | rfl | (simp only [List.length_drop, List.length_take]; rfl)) ?_; (with_reducible refine (impl_ComposePerm4.calls t128 t131 t145 _ A33.out).mono ?_); rintro e w44 ⟨rfl, hb⟩; refine ⟨_, rfl, ?_⟩; have n0_ := Aside0.mk (below_step (by repeat (first | (with_reducible first | exact HB.out | apply below_alloc | apply pw_below_drewN | apply below_drew1) | exact HB.out)) hb); clear HB; have HB := n0_; clear n0_; (try clear hb); (try clear hb2); (try clear hk); (try clear hi)) | ((with_reducible refine gate_callee (f := 18) rfl ?_); refine goesL_ (some 48) rfl rfl Try.func18 (by kernel_rfl) rfl #[.int .i64 t145] rfl (by (try simp only [List.map_toArray, List.map_cons, List.map_nil]); first | done | rfl | (simp only [List.length_drop, List.length_take]; rfl)) ?_; (with_reducible refine (impl_SignPerm4.calls t145 t146 _ A34.out).mono ?_); rintro e w45 ⟨rfl, hb⟩; refine ⟨_, rfl, ?_⟩; have n0_ := Aside0.mk (below_step (by repeat (first | (with_reducible first | exact HB.out | apply below_alloc | apply pw_below_drewN | apply below_drew1) | exact HB.out)) hb); clear HB; have HB := n0_; clear n0_; (try clear hb); (try clear hb2); (try clear hk); (try clear hi)) | ((with_reducible refine gate_callee (f := 18) rfl ?_); refine goesL_ (some 50) rfl rfl Try.func18 (by kernel_rfl) rfl #[.int .i64 t128] rfl (by (try simp only [List.map_toArray, List.map_cons, List.map_nil]); first | done | rfl | (simp only [List.length_drop, List.length_take]; rfl)) ?_; (with_reducible refine (impl_SignPerm4.calls t128 t147 _ A35.out).mono ?_); rintro e w46 ⟨rfl, hb⟩; refine ⟨_, rfl, ?_⟩; have n0_ := Aside0.mk (below_step (by repeat (first | (with_reducible first | exact HB.out | apply below_alloc | apply pw_below_drewN | apply below_drew1) | exact HB.out)) hb); clear HB; have HB := n0_; clear n0_; (try clear hb); (try clear hb2); (try clear hk); (try clear hi)) | ((with_reducible refine gate_callee (f := 18) rfl ?_); refine goesL_ (some 52) rfl rfl Try.func18 (by kernel_rfl) rfl #[.int .i64 t131] rfl (by (try simp only [List.map_toArray, List.map_cons, List.map_nil]); first | done | rfl | (simp only [List.length_drop, List.length_take]; rfl)) ?_; (with_reducible refine (impl_SignPerm4.calls t131 t148 _ A36.out).mono ?_); rintro e w47 ⟨rfl, hb⟩; refine ⟨_, rfl, ?_⟩; have n0_ := Aside0.mk (below_step (by repeat (first | (with_reducible first | exact HB.out | apply below_alloc | apply pw_below_drewN | apply below_drew1) | exact HB.out)) hb); clear HB; have HB := n0_; clear n0_; (try clear hb); (try clear hb2); (try clear hk); (try clear hi)))
            go_meet
            case rel => exact ⟨_, (false), (by first | rfl | (simp; done) | (simp [*]; done)), H', ⟨by have := HJ11.out; first | omega | exact Nat.le_refl _⟩, ⟨by repeat (first | (with_reducible first | exact HB.out | apply below_alloc | apply pw_below_drewN | apply below_drew1) | exact HB.out)⟩⟩
        case rest =>
          clear HC32
          try clear c1
          try clear c2
          try clear p2
          try clear c3
          try clear p6
          try clear c12
          try clear c18
          try clear c23
          try clear c23b0
          try clear c23b1
          try clear c28
          try clear c30
          try clear c35
          try clear c36
          try clear c37
          try clear c37b0
          try clear c37b1
          try clear p2
          obtain ⟨kq, x9_31, rfl, HA, HJ31, HB⟩ := hcut
          cases kq with
          | zero => exact absurd HA.out (by simp [laws_FnPermGroup.j1])
          | succ kj31 =>
            have H := HA.out
            clear HA
            simp only [laws_FnPermGroup.j1] at H
            have HC48 := Aside0.mk H
            clear H
            go_upto_block 0 with (fail)
            go_cut [10] (fun v10 wc => ∃ (kq : Nat) (x10_47 : Int), v10 = .int .i64 x10_47 ∧ Aside0 (laws_FnPermGroup.j3 kq t128 t134 (t138 == t140) x8_11 x9_31 x10_47 = some r) ∧ Aside0 (kq ≤ kj31) ∧ Aside0 (Below w.heap.size w wc))
            case first =>
              have H := HC48.out
              clear HC48
              have H' := Aside0.mk H
              clear H
              go_wp2
              go_loopg [10, 11] kj31 (fun kq v10 v11 w' => ∃ (x10_3 : Int) (x11_3 : Int), v10 = .int .i64 x10_3 ∧ v11 = .int .i64 x11_3 ∧ Aside0 (laws_FnPermGroup.l0 kq t128 t134 (t138 == t140) x8_11 x9_31 x10_3 x11_3 = some r) ∧ Aside0 (kq ≤ kj31) ∧ Aside0 (Below w.heap.size w w'))
              case atStart => exact ⟨(t128), (1), (by first | rfl | (simp; done) | (simp [*]; done)), (by first | rfl | (simp; done) | (simp [*]; done)), H', ⟨Nat.le_refl _⟩, ⟨by repeat (first | (with_reducible first | exact HB.out | apply below_alloc | apply pw_below_drewN | apply below_drew1) | exact HB.out)⟩⟩
              case round =>
                clear H'
                try clear c1
                try clear c2
                try clear p2
                try clear c3
                try clear p6
                try clear c12
                try clear c18
                try clear c23
                try clear c23b0
                try clear c23b1
                try clear c28
                try clear c30
                try clear c35
                try clear c36
                try clear c37
                try clear c37b0
                try clear c37b1
                try clear p2
                try clear p6
                obtain ⟨x10_3, x11_3, rfl, rfl, HA, HK3, HB⟩ := hrel
                cases gk with
                | zero => exact absurd HA.out (by simp [laws_FnPermGroup.l0])
                | succ k3 =>
                  have H := HA.out
                  clear HA
                  simp only [laws_FnPermGroup.l0] at H
                  replace H := Option.bind_eq_some_iff.mp H
                  obtain ⟨t150, A490, H⟩ := H
                  replace H : (if x11_3 < t150 then (if x11_3 < 24 then ((impl_ComposePerm4.f x10_3 t128).bind fun t151 => (laws_FnPermGroup.l0 k3 t128 t134 (t138 == t140) x8_11 x9_31 t151 (wrap64 (x11_3 + 1)))) else (laws_FnPermGroup.j3 k3 t128 t134 (t138 == t140) x8_11 x9_31 x10_3)) else (laws_FnPermGroup.j3 k3 t128 t134 (t138 == t140) x8_11 x9_31 x10_3)) = some r := H
                  have A49 := Aside0.mk A490
                  clear A490
                  by_cases c50 : x11_3 < t150
                  · rw [if_pos c50] at H
                    have c50b0 : decide (x11_3 < t150) = true := decide_eq_true c50
                    clear c50
                    (first | rw [c50b0] | (simp only [i64_w, i32_w]; rw [c50b0]) | skip)
                    by_cases c51 : x11_3 < 24
                    · rw [if_pos c51] at H
                      have c51b0 : decide (x11_3 < 24) = true := decide_eq_true c51
                      clear c51
                      replace H := Option.bind_eq_some_iff.mp H
                      obtain ⟨t151, A520, H⟩ := H
                      replace H : (laws_FnPermGroup.l0 k3 t128 t134 (t138 == t140) x8_11 x9_31 t151 (wrap64 (x11_3 + 1))) = some r := H
                      have A52 := Aside0.mk A520
                      clear A520
                      have H' := Aside0.mk H
                      clear H
                      go_wp2_with (first | ((with_reducible refine gate_callee (f := 32) rfl ?_); refine goesL_ (some 63) rfl rfl Try.func32 (by kernel_rfl) rfl #[.int .i64 t128] rfl (by (try simp only [List.map_toArray, List.map_cons, List.map_nil]); first | done | rfl | (simp only [List.length_drop, List.length_take]; rfl)) ?_; (with_reducible refine (impl_OrderPerm4.calls k3 t128 t150 _ A49.out).mono ?_); rintro e w53 ⟨rfl, hb⟩; refine ⟨_, rfl, ?_⟩; have n0_ := Aside0.mk (below_step (by repeat (first | (with_reducible first | exact HB.out | apply below_alloc | apply pw_below_drewN | apply below_drew1) | exact HB.out)) hb); clear HB; have HB := n0_; clear n0_; (try clear hb); (try clear hb2); (try clear hk); (try clear hi)) | ((with_reducible refine gate_callee (f := 28) rfl ?_); refine goesL_ (some 73) rfl rfl Try.func28 (by kernel_rfl) rfl #[.int .i64 x10_3, .int .i64 t128] rfl (by (try simp only [List.map_toArray, List.map_cons, List.map_nil]); first | done | rfl | (simp only [List.length_drop, List.length_take]; rfl)) ?_; (with_reducible refine (impl_ComposePerm4.calls x10_3 t128 t151 _ A52.out).mono ?_); rintro e w54 ⟨rfl, hb⟩; refine ⟨_, rfl, ?_⟩; have n0_ := Aside0.mk (below_step (by repeat (first | (with_reducible first | exact HB.out | apply below_alloc | apply pw_below_drewN | apply below_drew1) | exact HB.out)) hb); clear HB; have HB := n0_; clear n0_; (try clear hb); (try clear hb2); (try clear hk); (try clear hi)))
                      go_roundg k3
                      case measure => have := HJ11.out; have := HJ31.out; have := HK3.out; omega
                      case rel => exact ⟨(t151), (wrap64 (x11_3 + 1)), (by first | rfl | (simp; done) | (simp [*]; done)), (by first | rfl | (simp; done) | (simp [*]; done)), H', ⟨by have := HJ11.out; have := HJ31.out; have := HK3.out; omega⟩, ⟨by repeat (first | (with_reducible first | exact HB.out | apply below_alloc | apply pw_below_drewN | apply below_drew1) | exact HB.out)⟩⟩
                    · rw [if_neg c51] at H
                      have c51b0 : decide (x11_3 < 24) = false := decide_eq_false c51
                      clear c51
                      have H' := Aside0.mk H
                      clear H
                      go_wp2_with (first | ((with_reducible refine gate_callee (f := 32) rfl ?_); refine goesL_ (some 63) rfl rfl Try.func32 (by kernel_rfl) rfl #[.int .i64 t128] rfl (by (try simp only [List.map_toArray, List.map_cons, List.map_nil]); first | done | rfl | (simp only [List.length_drop, List.length_take]; rfl)) ?_; (with_reducible refine (impl_OrderPerm4.calls k3 t128 t150 _ A49.out).mono ?_); rintro e w55 ⟨rfl, hb⟩; refine ⟨_, rfl, ?_⟩; have n0_ := Aside0.mk (below_step (by repeat (first | (with_reducible first | exact HB.out | apply below_alloc | apply pw_below_drewN | apply below_drew1) | exact HB.out)) hb); clear HB; have HB := n0_; clear n0_; (try clear hb); (try clear hb2); (try clear hk); (try clear hi)))
                      go_meet
                      case rel => exact ⟨_, (x10_3), (by first | rfl | (simp; done) | (simp [*]; done)), H', ⟨by have := HJ11.out; have := HJ31.out; have := HK3.out; first | omega | exact Nat.le_refl _⟩, ⟨by repeat (first | (with_reducible first | exact HB.out | apply below_alloc | apply pw_below_drewN | apply below_drew1) | exact HB.out)⟩⟩
                  · rw [if_neg c50] at H
                    have c50b0 : decide (x11_3 < t150) = false := decide_eq_false c50
                    clear c50
                    (first | rw [c50b0] | (simp only [i64_w, i32_w]; rw [c50b0]) | skip)
                    have H' := Aside0.mk H
                    clear H
                    go_wp2_with (first | ((with_reducible refine gate_callee (f := 32) rfl ?_); refine goesL_ (some 63) rfl rfl Try.func32 (by kernel_rfl) rfl #[.int .i64 t128] rfl (by (try simp only [List.map_toArray, List.map_cons, List.map_nil]); first | done | rfl | (simp only [List.length_drop, List.length_take]; rfl)) ?_; (with_reducible refine (impl_OrderPerm4.calls k3 t128 t150 _ A49.out).mono ?_); rintro e w56 ⟨rfl, hb⟩; refine ⟨_, rfl, ?_⟩; have n0_ := Aside0.mk (below_step (by repeat (first | (with_reducible first | exact HB.out | apply below_alloc | apply pw_below_drewN | apply below_drew1) | exact HB.out)) hb); clear HB; have HB := n0_; clear n0_; (try clear hb); (try clear hb2); (try clear hk); (try clear hi)))
                    go_meet
                    case rel => exact ⟨_, (x10_3), (by first | rfl | (simp; done) | (simp [*]; done)), H', ⟨by have := HJ11.out; have := HJ31.out; have := HK3.out; first | omega | exact Nat.le_refl _⟩, ⟨by repeat (first | (with_reducible first | exact HB.out | apply below_alloc | apply pw_below_drewN | apply below_drew1) | exact HB.out)⟩⟩
            case rest =>
              clear HC48
              try clear c1
              try clear c2
              try clear p2
              try clear c3
              try clear c5
              try clear p6
              try clear c12
              try clear c18
              try clear c23
              try clear c23b0
              try clear c23b1
              try clear c28
              try clear c30
              try clear c32
              try clear c35
              try clear c36
              try clear c37
              try clear c37b0
              try clear c37b1
              try clear c50
              try clear c50b0
              try clear c51
              try clear c51b0
              try clear p2
              try clear p6
              obtain ⟨kq, x10_47, rfl, HA, HJ47, HB⟩ := hcut
              cases kq with
              | zero => exact absurd HA.out (by simp [laws_FnPermGroup.j3])
              | succ kj47 =>
                have H := HA.out
                clear HA
                simp only [laws_FnPermGroup.j3] at H
                by_cases c57 : (t138 == t140) = true
                · rw [if_pos c57] at H
                  have c57b0 : (t138 == t140) = true := c57
                  (try (have c57b1 : decide (t138 = t140) = true := by simpa using c57))
                  (try (have c57b2 : (t138 == t140) = true := by simpa using c57))
                  clear c57
                  by_cases c58 : x8_11 = true
                  · subst c58
                    have H1 : (if x9_31 = true then (if x10_47 = 0 then ((impl_Perm4.f t128).bind fun t152 => ((impl_IndexOfPerm4.f kj47 t152).bind fun t155 => (if t155 = t128 then ((impl_InvertPerm4.f t128).bind fun t156 => ((impl_ApplyPerm4.f t128 (Int.tmod t134 4)).bind fun t157 => ((impl_ApplyPerm4.f t156 t157).bind fun t158 => (some (t158 == (Int.tmod t134 4)))))) else (some false)))) else (some false)) else (some false)) = some r := by rw [if_pos rfl] at H; exact H
                    clear H
                    have H := H1
                    clear H1
                    by_cases c59 : x9_31 = true
                    · subst c59
                      have H1 : (if x10_47 = 0 then ((impl_Perm4.f t128).bind fun t152 => ((impl_IndexOfPerm4.f kj47 t152).bind fun t155 => (if t155 = t128 then ((impl_InvertPerm4.f t128).bind fun t156 => ((impl_ApplyPerm4.f t128 (Int.tmod t134 4)).bind fun t157 => ((impl_ApplyPerm4.f t156 t157).bind fun t158 => (some (t158 == (Int.tmod t134 4)))))) else (some false)))) else (some false)) = some r := by rw [if_pos rfl] at H; exact H
                      clear H
                      have H := H1
                      clear H1
                      by_cases c60 : x10_47 = 0
                      · rw [if_pos c60] at H
                        have c60b0 : (x10_47 == 0) = true := beq_iff_eq.mpr c60
                        have c60b1 : (x10_47 != 0) = false := bne_eq_false_iff_eq.mpr c60
                        clear c60
                        replace H := Option.bind_eq_some_iff.mp H
                        obtain ⟨t152, A610, H⟩ := H
                        replace H : ((impl_IndexOfPerm4.f kj47 t152).bind fun t155 => (if t155 = t128 then ((impl_InvertPerm4.f t128).bind fun t156 => ((impl_ApplyPerm4.f t128 (Int.tmod t134 4)).bind fun t157 => ((impl_ApplyPerm4.f t156 t157).bind fun t158 => (some (t158 == (Int.tmod t134 4)))))) else (some false))) = some r := H
                        have A61 := Aside0.mk A610
                        clear A610
                        replace H := Option.bind_eq_some_iff.mp H
                        obtain ⟨t155, A620, H⟩ := H
                        replace H : (if t155 = t128 then ((impl_InvertPerm4.f t128).bind fun t156 => ((impl_ApplyPerm4.f t128 (Int.tmod t134 4)).bind fun t157 => ((impl_ApplyPerm4.f t156 t157).bind fun t158 => (some (t158 == (Int.tmod t134 4)))))) else (some false)) = some r := H
                        have A62 := Aside0.mk A620
                        clear A620
                        by_cases c63 : t155 = t128
                        · rw [if_pos c63] at H
                          have c63b0 : (t155 == t128) = true := beq_iff_eq.mpr c63
                          have c63b1 : (t155 != t128) = false := bne_eq_false_iff_eq.mpr c63
                          clear c63
                          replace H := Option.bind_eq_some_iff.mp H
                          obtain ⟨t156, A640, H⟩ := H
                          replace H : ((impl_ApplyPerm4.f t128 (Int.tmod t134 4)).bind fun t157 => ((impl_ApplyPerm4.f t156 t157).bind fun t158 => (some (t158 == (Int.tmod t134 4))))) = some r := H
                          have A64 := Aside0.mk A640
                          clear A640
                          replace H := Option.bind_eq_some_iff.mp H
                          obtain ⟨t157, A650, H⟩ := H
                          replace H : ((impl_ApplyPerm4.f t156 t157).bind fun t158 => (some (t158 == (Int.tmod t134 4)))) = some r := H
                          have A65 := Aside0.mk A650
                          clear A650
                          replace H := Option.bind_eq_some_iff.mp H
                          obtain ⟨t158, A660, H⟩ := H
                          replace H : (some (t158 == (Int.tmod t134 4))) = some r := H
                          have A66 := Aside0.mk A660
                          clear A660
                          obtain rfl := Option.some.inj H
                          go_wp2_with (first | (go_at_call 20; (with_reducible refine (impl_Perm4.calls t128 t152 _ A61.out).mono ?_); rintro e w67 ⟨v153, rfl, ho0, hb⟩; have n0_ := Aside0.mk (Kd.R_lower ho0 (below_size (by repeat (first | (with_reducible first | exact HB.out | apply below_alloc | apply pw_below_drewN | apply below_drew1) | exact HB.out)))); have n1_ := Aside0.mk (below_step (by repeat (first | (with_reducible first | exact HB.out | apply below_alloc | apply pw_below_drewN | apply below_drew1) | exact HB.out)) hb); clear HB; have HO154 := n0_; have HB := n1_; clear n0_ n1_; (try clear hb); (try clear hb2); (try clear hk); (try clear hi); (try clear ho0); obtain ⟨Ao68, co68, eo68⟩ := Kd.R_slice HO154.out; subst eo68) | (go_at_call 26; (with_reducible refine (impl_IndexOfPerm4.calls kj47 _ _ t152 t155 _ ?side1 ?side2 A62.out).mono ?_); (case side1 => repeat (first | exact (Kd.R_reads' HO154.out).2.2 | (with_reducible refine Kd.C_alloc ?_ _) | (with_reducible refine Kd.C_drewN ?_ _) | (with_reducible refine Kd.C_drew ?_))); (case side2 => exact (Kd.R_reads' HO154.out).2.1); rintro e w69 ⟨rfl, hb⟩; have n0_ := Aside0.mk (Kd.R_below (by (with_reducible repeat (first | apply Kd.R_alloc | apply Kd.R_drewN | apply Kd.R_drew)); exact HO154.out) hb); have n1_ := Aside0.mk (below_step (by repeat (first | (with_reducible first | exact HB.out | apply below_alloc | apply pw_below_drewN | apply below_drew1) | exact HB.out)) hb); clear HO154; clear HB; have HO154 := n0_; have HB := n1_; clear n0_ n1_; (try clear hb); (try clear hb2); (try clear hk); (try clear hi)) | (go_at_call 30; (with_reducible refine (impl_InvertPerm4.calls t128 t156 _ A64.out).mono ?_); rintro e w70 ⟨rfl, hb⟩; have n0_ := Aside0.mk (Kd.R_below (by (with_reducible repeat (first | apply Kd.R_alloc | apply Kd.R_drewN | apply Kd.R_drew)); exact HO154.out) hb); have n1_ := Aside0.mk (below_step (by repeat (first | (with_reducible first | exact HB.out | apply below_alloc | apply pw_below_drewN | apply below_drew1) | exact HB.out)) hb); clear HO154; clear HB; have HO154 := n0_; have HB := n1_; clear n0_ n1_; (try clear hb); (try clear hb2); (try clear hk); (try clear hi)) | (go_at_call 16; (with_reducible refine (impl_ApplyPerm4.calls t128 (Int.tmod t134 4) t157 _ A65.out).mono ?_); rintro e w71 ⟨rfl, hb⟩; have n0_ := Aside0.mk (Kd.R_below (by (with_reducible repeat (first | apply Kd.R_alloc | apply Kd.R_drewN | apply Kd.R_drew)); exact HO154.out) hb); have n1_ := Aside0.mk (below_step (by repeat (first | (with_reducible first | exact HB.out | apply below_alloc | apply pw_below_drewN | apply below_drew1) | exact HB.out)) hb); clear HO154; clear HB; have HO154 := n0_; have HB := n1_; clear n0_ n1_; (try clear hb); (try clear hb2); (try clear hk); (try clear hi)) | (go_at_call 16; (with_reducible refine (impl_ApplyPerm4.calls t156 t157 t158 _ A66.out).mono ?_); rintro e w72 ⟨rfl, hb⟩; have n0_ := Aside0.mk (Kd.R_below (by (with_reducible repeat (first | apply Kd.R_alloc | apply Kd.R_drewN | apply Kd.R_drew)); exact HO154.out) hb); have n1_ := Aside0.mk (below_step (by repeat (first | (with_reducible first | exact HB.out | apply below_alloc | apply pw_below_drewN | apply below_drew1) | exact HB.out)) hb); clear HO154; clear HB; have HO154 := n0_; have HB := n1_; clear n0_ n1_; (try clear hb); (try clear hb2); (try clear hk); (try clear hi)))
                          go_ret
                          exact ⟨by first | rfl | (simp [errW_none, errW_some] <;> rfl) | (simp [*, errW_none, errW_some] <;> rfl), by repeat (first | (with_reducible first | exact HB.out | apply below_alloc | apply pw_below_drewN | apply below_drew1) | exact HB.out)⟩
                        · rw [if_neg c63] at H
                          have c63b0 : (t155 == t128) = false := beq_eq_false_iff_ne.mpr c63
                          have c63b1 : (t155 != t128) = true := bne_iff_ne.mpr c63
                          exact absurd ((Option.some.inj H).trans HT_.out) (by simp)
                      · rw [if_neg c60] at H
                        have c60b0 : (x10_47 == 0) = false := beq_eq_false_iff_ne.mpr c60
                        have c60b1 : (x10_47 != 0) = true := bne_iff_ne.mpr c60
                        exact absurd ((Option.some.inj H).trans HT_.out) (by simp)
                    · replace c59 := Bool.eq_false_iff.mpr c59
                      subst c59
                      have H1 : (some false) = some r := by rw [if_neg (show ¬ (false = true) by decide)] at H; exact H
                      clear H
                      have H := H1
                      clear H1
                      exact absurd ((Option.some.inj H).trans HT_.out) (by simp)
                  · replace c58 := Bool.eq_false_iff.mpr c58
                    subst c58
                    have H1 : (some false) = some r := by rw [if_neg (show ¬ (false = true) by decide)] at H; exact H
                    clear H
                    have H := H1
                    clear H1
                    exact absurd ((Option.some.inj H).trans HT_.out) (by simp)
                · rw [if_neg c57] at H
                  have c57b0 : (t138 == t140) = false := by simpa using c57
                  (try (have c57b1 : decide (t138 = t140) = false := by simpa using c57))
                  (try (have c57b2 : (t138 == t140) = false := by simpa using c57))
                  (try (have c57b3 : ¬ (t138 = t140) := by simpa using c57))
                  clear c57
                  exact absurd ((Option.some.inj H).trans HT_.out) (by simp)

/-- THE ONE PURE STATEMENT of laws_FnPermGroup: yours. -/
def laws_FnPermGroup.Pure : Prop := ∀ (l0 : List Int), l0.length ≤ maxLen → l0.length * 1 ≤ 140737488351232 → (∀ x ∈ l0, (Lit.int .u8 x).wf = true) → ∃ k, laws_FnPermGroup.f k l0 = some true
theorem laws_FnPermGroup.walk (P : laws_FnPermGroup.Pure) (a0 : Option Addr) (len0 cap0 : Nat) (z0 : List Int) (w : World) (w0 : (a0 = none ∧ len0 = 0 ∧ cap0 = 0 ∧ z0 = []) ∨ ∃ x, a0 = some x ∧ len0 ≤ cap0 ∧ cap0 ≤ maxLen ∧ z0.length = cap0 ∧ (∀ i, i < z0.length → w.cell? (x.add i) = some (.int .u8 (z0.getD i 0))) ∧ ∀ n ∈ z0, (Lit.int .u8 n).wf = true) (y0 : len0 * 1 ≤ 140737488351232) :
    Calls Try.prog 12 #[.slice a0 len0 cap0] w fun e w' => e = .returned (.bool true) ∧ Below w.heap.size w w' := by
  obtain ⟨l0, rfl, hr0, hm0, hw0, hc0⟩ := ReadsInt.ofRowC w0
  obtain ⟨k, h⟩ := P l0 hm0 y0 hw0
  refine (laws_FnPermGroup.calls k _ _ l0 true w (Kd.C_of_reads (d := (0 : Int)) (h1 := fun _ => rfl) hr0) hc0 h ⟨rfl⟩).mono ?_
  rintro e w' ⟨rfl, hd⟩
  exact ⟨rfl, hd⟩

end Go.Proofs.Ytmffjekpnibnfaa.PFnPermGroup
