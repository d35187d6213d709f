/- Written by this session's program out of the kit's print and this session's contracts. -/
import Derived.Test.YtaibdhbccfaneaaPFnExactWordActionx0
import Derived.Test.YtaibdhbccfaneaaPFnExactWordActionx1
import Derived.Test.YtaibdhbccfaneaaPFnExactWordActionx2
import Derived.Test.YtaibdhbccfaneaaPFnExactWordActionx3
import Derived.Test.YtaibdhbccfaneaaPFnExactWordActionx4
namespace Go.Proofs.Ytaibdhbccfaneaa.PFnExactWordAction
open Go.RowKit Go.Proofs.YtaibdhbccfaneaaW.PrintWords Go.Proofs.YtaibdhbccfaneaaW.PrintLast Go.Proofs.YtaibdhbccfaneaaW.PrintMore
attribute [local go_sem] max2_int min2_int max_two min_two max_three min_three max_four min_four   -- for this text's walks alone
set_option linter.unusedVariables false
set_option linter.unusedSimpArgs false

/-! ### laws_eqInt64SS: function 34 -/
def laws_eqInt64SS.l0 : Nat → List (List Int) → List (List Int) → Int → Option (Bool)
  | 0, _, _, _ => none
  | k + 1, x0, x1, x5 => if x5 < (x0.length : Int) then (if 0 ≤ x5 then (if x5 < (x1.length : Int) then ((laws_eqInt64S.f k (rd_L1 x0 x5) (rd_L1 x1 x5)).bind fun t180 => (if t180 = true then (laws_eqInt64SS.l0 k x0 x1 (wrap64 (x5 + 1))) else (some false))) else (none)) else (none)) else (some true)
def laws_eqInt64SS.f (k : Nat) (l0 : List (List Int)) (l1 : List (List Int)) : Option (Bool) := if (l0.length : Int) = (l1.length : Int) then (laws_eqInt64SS.l0 k l0 l1 0) else (some false)
theorem laws_eqInt64SS.mono_l : ∀ k, (∀ y0 y1 y2, LeO (laws_eqInt64SS.l0 k y0 y1 y2) (laws_eqInt64SS.l0 (k + 1) y0 y1 y2))
  | 0 => fun _ _ _ r h => by simp [laws_eqInt64SS.l0] at h
  | k + 1 => by
    have ih0 := laws_eqInt64SS.mono_l k
    · intro y0 y1 y2
      unfold laws_eqInt64SS.l0
      repeat' first
      | (with_reducible exact ih0 _ _ _)
      | (with_reducible exact laws_eqInt64S.mono _ _ _)
      | (with_reducible exact LeO.refl _)
      | (with_reducible exact LeO.none _)
      | (with_reducible refine LeO.ite ?_ ?_)
      | (with_reducible refine LeO.bind ?_ (fun _ => ?_))
      | exact ih0 _ _ _
      | exact laws_eqInt64S.mono _ _ _
      | exact LeO.none _
      | refine LeO.ite ?_ ?_
      | refine LeO.bind ?_ (fun _ => ?_)
theorem laws_eqInt64SS.mono : ∀ a0 a1 k, LeO (laws_eqInt64SS.f k a0 a1) (laws_eqInt64SS.f (k + 1) a0 a1) := by
  intro a0 a1 k
  have ih0 := laws_eqInt64SS.mono_l k
  unfold laws_eqInt64SS.f
  repeat' first
      | (with_reducible exact ih0 _ _ _)
      | (with_reducible exact laws_eqInt64S.mono _ _ _)
      | (with_reducible exact LeO.refl _)
      | (with_reducible exact LeO.none _)
      | (with_reducible refine LeO.ite ?_ ?_)
      | (with_reducible refine LeO.bind ?_ (fun _ => ?_))
      | exact ih0 _ _ _
      | exact laws_eqInt64S.mono _ _ _
      | exact LeO.none _
      | refine LeO.ite ?_ ?_
      | refine LeO.bind ?_ (fun _ => ?_)
set_option maxHeartbeats 8000000 in
set_option maxRecDepth 100000 in
theorem laws_eqInt64SS.calls (k : Nat) (A0 : Option Addr) (c0 : Nat) (l0 : List (List Int)) (A1 : Option Addr) (c1 : Nat) (l1 : List (List Int)) (r : Bool) (w : World) (hr0 : Kd.C (Kd.slice 2 (Kd.int .i64)) w A0 l0.length l0) (hc0 : l0.length ≤ c0) (hr1 : Kd.C (Kd.slice 2 (Kd.int .i64)) w A1 l1.length l1) (hc1 : l1.length ≤ c1) (h : laws_eqInt64SS.f k l0 l1 = some r) :
    Calls Try.prog 34 #[.slice A0 l0.length c0, .slice A1 l1.length c1] w fun e w' => e = .returned (.bool r) ∧ Drawn0 w w' := by
  have HR0 := Aside0.mk hr0
  have HC0 := Aside0.mk hc0
  clear hr0 hc0
  have HR1 := Aside0.mk hr1
  have HC1 := Aside0.mk hc1
  clear hr1 hc1
  have H : (if (l0.length : Int) = (l1.length : Int) then (laws_eqInt64SS.l0 k l0 l1 0) else (some false)) = some r := h
  clear h
  by_cases c3 : (l0.length : Int) = (l1.length : Int)
  · rw [if_pos c3] at H
    have c3b0 : ((l0.length : Int) == (l1.length : Int)) = true := beq_iff_eq.mpr c3
    have c3b1 : ((l0.length : Int) != (l1.length : Int)) = false := bne_eq_false_iff_eq.mpr c3
    have c3b2 : (l0.length == l1.length) = true := by first | simpa using c3 | (simp at c3 ⊢; omega)
    clear c3
    have H' := Aside0.mk H
    clear H
    go_enter Try.func34, Try.ntmps34
    go_wp2
    repeat (go_quiet (fail); try go_wp2)
    go_loopg [5] k (fun kq v5 w' => ∃ (x5_1 : Int), v5 = .int .i64 x5_1 ∧ Aside0 (laws_eqInt64SS.l0 kq l0 l1 x5_1 = some r) ∧ Aside0 (kq ≤ k) ∧ Drawn0 w w')
    case atStart => exact ⟨(0), (by first | rfl | (simp; done) | (simp [*]; done)), H', ⟨Nat.le_refl _⟩, by repeat (first | exact Drawn0.refl _ | apply Drawn0.step)⟩
    case round =>
      clear H'
      try clear c1
      try clear p2
      try clear c3
      try clear c3b0
      try clear c3b1
      try clear c3b2
      obtain ⟨x5_1, rfl, HA, HK1, ⟨m1, rfl⟩⟩ := hrel
      cases gk with
      | zero => exact absurd HA.out (by simp [laws_eqInt64SS.l0])
      | succ k1 =>
        have H := HA.out
        clear HA
        simp only [laws_eqInt64SS.l0] at H
        by_cases c4 : x5_1 < (l0.length : Int)
        · rw [if_pos c4] at H
          have c4b0 : decide (x5_1 < (l0.length : Int)) = true := decide_eq_true c4
          clear c4
          by_cases c5 : 0 ≤ x5_1
          · rw [if_pos c5] at H
            have c5b0 : decide (0 ≤ x5_1) = true := decide_eq_true c5
            clear c5
            by_cases c6 : x5_1 < (l1.length : Int)
            · rw [if_pos c6] at H
              have c6b0 : decide (x5_1 < (l1.length : Int)) = true := decide_eq_true c6
              clear c6
              replace H := Option.bind_eq_some_iff.mp H
              obtain ⟨t180, A70, H⟩ := H
              replace H : (if t180 = true then (laws_eqInt64SS.l0 k1 l0 l1 (wrap64 (x5_1 + 1))) else (some false)) = some r := H
              have A7 := Aside0.mk A70
              clear A70
              by_cases c8 : t180 = true
              · subst c8
                have H1 : (laws_eqInt64SS.l0 k1 l0 l1 (wrap64 (x5_1 + 1))) = some r := by rw [if_pos rfl] at H; exact H
                clear H
                have H := H1
                clear H1
                have H' := Aside0.mk H
                clear H
                have p178 : 0 ≤ (x5_1 : Int) := of_decide_eq_true (by first | (with_reducible assumption) | assumption)
                have q178 : x5_1 < (l0.length : Int) := of_decide_eq_true (by first | (with_reducible assumption) | assumption)
                obtain ⟨ad178, A178_0, c178_0, e178, hx178_0, hl178_0, hi178_0⟩ := at_L1 HR0.out x5_1 p178 q178
                cases e178
                have HR178_0 := Aside0.mk hi178_0
                have HC178_0 := Aside0.mk hl178_0
                clear hi178_0 hl178_0
                replace p178 := eq_true p178
                replace q178 := eq_true q178
                have p179 : 0 ≤ (x5_1 : Int) := of_decide_eq_true (by first | (with_reducible assumption) | assumption)
                have q179 : x5_1 < (l1.length : Int) := of_decide_eq_true (by first | (with_reducible assumption) | assumption)
                obtain ⟨ad179, A179_0, c179_0, e179, hx179_0, hl179_0, hi179_0⟩ := at_L1 HR1.out x5_1 p179 q179
                cases e179
                have HR179_0 := Aside0.mk hi179_0
                have HC179_0 := Aside0.mk hl179_0
                clear hi179_0 hl179_0
                replace p179 := eq_true p179
                replace q179 := eq_true q179
                go_wp2_with (first | (go_at_call 33; (with_reducible refine (laws_eqInt64S.calls k1 _ _ (rd_L1 l0 x5_1) _ _ (rd_L1 l1 x5_1) true _ ?side1 ?side2 ?side3 ?side4 A7.out).mono ?_); (case side1 => repeat (first | exact HR178_0.out | (with_reducible refine Kd.C_alloc ?_ _) | (with_reducible refine Kd.C_drewN ?_ _) | (with_reducible refine Kd.C_drew ?_))); (case side2 => exact HC178_0.out); (case side3 => repeat (first | exact HR179_0.out | (with_reducible refine Kd.C_alloc ?_ _) | (with_reducible refine Kd.C_drewN ?_ _) | (with_reducible refine Kd.C_drew ?_))); (case side4 => exact HC179_0.out); rintro e w' ⟨rfl, ⟨nd, rfl⟩⟩; (try first | exact ⟨rfl, _, World.drewN_drewN _ _ _⟩ | exact ⟨rfl, _, Eq.trans (World.drewN_drewN _ _ _) (congrArg (World.drewN _) (Nat.add_assoc _ _ _))⟩)))
                repeat (go_quiet (first | (go_at_call 33; (with_reducible refine (laws_eqInt64S.calls k1 _ _ (rd_L1 l0 x5_1) _ _ (rd_L1 l1 x5_1) true _ ?side1 ?side2 ?side3 ?side4 A7.out).mono ?_); (case side1 => repeat (first | exact HR178_0.out | (with_reducible refine Kd.C_alloc ?_ _) | (with_reducible refine Kd.C_drewN ?_ _) | (with_reducible refine Kd.C_drew ?_))); (case side2 => exact HC178_0.out); (case side3 => repeat (first | exact HR179_0.out | (with_reducible refine Kd.C_alloc ?_ _) | (with_reducible refine Kd.C_drewN ?_ _) | (with_reducible refine Kd.C_drew ?_))); (case side4 => exact HC179_0.out); rintro e w' ⟨rfl, ⟨nd, rfl⟩⟩; (try first | exact ⟨rfl, _, World.drewN_drewN _ _ _⟩ | exact ⟨rfl, _, Eq.trans (World.drewN_drewN _ _ _) (congrArg (World.drewN _) (Nat.add_assoc _ _ _))⟩))); try go_wp2_with (first | (go_at_call 33; (with_reducible refine (laws_eqInt64S.calls k1 _ _ (rd_L1 l0 x5_1) _ _ (rd_L1 l1 x5_1) true _ ?side1 ?side2 ?side3 ?side4 A7.out).mono ?_); (case side1 => repeat (first | exact HR178_0.out | (with_reducible refine Kd.C_alloc ?_ _) | (with_reducible refine Kd.C_drewN ?_ _) | (with_reducible refine Kd.C_drew ?_))); (case side2 => exact HC178_0.out); (case side3 => repeat (first | exact HR179_0.out | (with_reducible refine Kd.C_alloc ?_ _) | (with_reducible refine Kd.C_drewN ?_ _) | (with_reducible refine Kd.C_drew ?_))); (case side4 => exact HC179_0.out); rintro e w' ⟨rfl, ⟨nd, rfl⟩⟩; (try first | exact ⟨rfl, _, World.drewN_drewN _ _ _⟩ | exact ⟨rfl, _, Eq.trans (World.drewN_drewN _ _ _) (congrArg (World.drewN _) (Nat.add_assoc _ _ _))⟩))))
                go_roundg k1
                case measure => have := HK1.out; omega
                case rel => exact ⟨(wrap64 (x5_1 + 1)), (by first | rfl | (simp; done) | (simp [*]; done)), H', ⟨by have := HK1.out; omega⟩, by repeat (first | exact Drawn0.refl _ | apply Drawn0.step)⟩
              · replace c8 := Bool.eq_false_iff.mpr c8
                subst c8
                have H1 : (some false) = some r := by rw [if_neg (show ¬ (false = true) by decide)] at H; exact H
                clear H
                have H := H1
                clear H1
                obtain rfl := Option.some.inj H
                have p178 : 0 ≤ (x5_1 : Int) := of_decide_eq_true (by first | (with_reducible assumption) | assumption)
                have q178 : x5_1 < (l0.length : Int) := of_decide_eq_true (by first | (with_reducible assumption) | assumption)
                obtain ⟨ad178, A178_0, c178_0, e178, hx178_0, hl178_0, hi178_0⟩ := at_L1 HR0.out x5_1 p178 q178
                cases e178
                have HR178_0 := Aside0.mk hi178_0
                have HC178_0 := Aside0.mk hl178_0
                clear hi178_0 hl178_0
                replace p178 := eq_true p178
                replace q178 := eq_true q178
                have p179 : 0 ≤ (x5_1 : Int) := of_decide_eq_true (by first | (with_reducible assumption) | assumption)
                have q179 : x5_1 < (l1.length : Int) := of_decide_eq_true (by first | (with_reducible assumption) | assumption)
                obtain ⟨ad179, A179_0, c179_0, e179, hx179_0, hl179_0, hi179_0⟩ := at_L1 HR1.out x5_1 p179 q179
                cases e179
                have HR179_0 := Aside0.mk hi179_0
                have HC179_0 := Aside0.mk hl179_0
                clear hi179_0 hl179_0
                replace p179 := eq_true p179
                replace q179 := eq_true q179
                go_wp2_with (first | (go_at_call 33; (with_reducible refine (laws_eqInt64S.calls k1 _ _ (rd_L1 l0 x5_1) _ _ (rd_L1 l1 x5_1) false _ ?side1 ?side2 ?side3 ?side4 A7.out).mono ?_); (case side1 => repeat (first | exact HR178_0.out | (with_reducible refine Kd.C_alloc ?_ _) | (with_reducible refine Kd.C_drewN ?_ _) | (with_reducible refine Kd.C_drew ?_))); (case side2 => exact HC178_0.out); (case side3 => repeat (first | exact HR179_0.out | (with_reducible refine Kd.C_alloc ?_ _) | (with_reducible refine Kd.C_drewN ?_ _) | (with_reducible refine Kd.C_drew ?_))); (case side4 => exact HC179_0.out); rintro e w' ⟨rfl, ⟨nd, rfl⟩⟩; (try first | exact ⟨rfl, _, World.drewN_drewN _ _ _⟩ | exact ⟨rfl, _, Eq.trans (World.drewN_drewN _ _ _) (congrArg (World.drewN _) (Nat.add_assoc _ _ _))⟩)))
                repeat (go_quiet (first | (go_at_call 33; (with_reducible refine (laws_eqInt64S.calls k1 _ _ (rd_L1 l0 x5_1) _ _ (rd_L1 l1 x5_1) false _ ?side1 ?side2 ?side3 ?side4 A7.out).mono ?_); (case side1 => repeat (first | exact HR178_0.out | (with_reducible refine Kd.C_alloc ?_ _) | (with_reducible refine Kd.C_drewN ?_ _) | (with_reducible refine Kd.C_drew ?_))); (case side2 => exact HC178_0.out); (case side3 => repeat (first | exact HR179_0.out | (with_reducible refine Kd.C_alloc ?_ _) | (with_reducible refine Kd.C_drewN ?_ _) | (with_reducible refine Kd.C_drew ?_))); (case side4 => exact HC179_0.out); rintro e w' ⟨rfl, ⟨nd, rfl⟩⟩; (try first | exact ⟨rfl, _, World.drewN_drewN _ _ _⟩ | exact ⟨rfl, _, Eq.trans (World.drewN_drewN _ _ _) (congrArg (World.drewN _) (Nat.add_assoc _ _ _))⟩))); try go_wp2_with (first | (go_at_call 33; (with_reducible refine (laws_eqInt64S.calls k1 _ _ (rd_L1 l0 x5_1) _ _ (rd_L1 l1 x5_1) false _ ?side1 ?side2 ?side3 ?side4 A7.out).mono ?_); (case side1 => repeat (first | exact HR178_0.out | (with_reducible refine Kd.C_alloc ?_ _) | (with_reducible refine Kd.C_drewN ?_ _) | (with_reducible refine Kd.C_drew ?_))); (case side2 => exact HC178_0.out); (case side3 => repeat (first | exact HR179_0.out | (with_reducible refine Kd.C_alloc ?_ _) | (with_reducible refine Kd.C_drewN ?_ _) | (with_reducible refine Kd.C_drew ?_))); (case side4 => exact HC179_0.out); rintro e w' ⟨rfl, ⟨nd, rfl⟩⟩; (try first | exact ⟨rfl, _, World.drewN_drewN _ _ _⟩ | exact ⟨rfl, _, Eq.trans (World.drewN_drewN _ _ _) (congrArg (World.drewN _) (Nat.add_assoc _ _ _))⟩))))
                go_ret
                exact ⟨by first | rfl | (simp; done) | (simp [*]; done), by repeat (first | exact Drawn0.refl _ | apply Drawn0.step)⟩
            · rw [if_neg c6] at H
              exact absurd H (by simp)
          · rw [if_neg c5] at H
            exact absurd H (by simp)
        · rw [if_neg c4] at H
          have c4b0 : decide (x5_1 < (l0.length : Int)) = false := decide_eq_false c4
          clear c4
          obtain rfl := Option.some.inj H
          go_wp2
          repeat (go_quiet (fail); try go_wp2)
          go_ret
          exact ⟨by first | rfl | (simp; done) | (simp [*]; done), by repeat (first | exact Drawn0.refl _ | apply Drawn0.step)⟩
  · rw [if_neg c3] at H
    have c3b0 : ((l0.length : Int) == (l1.length : Int)) = false := beq_eq_false_iff_ne.mpr c3
    have c3b1 : ((l0.length : Int) != (l1.length : Int)) = true := bne_iff_ne.mpr c3
    have c3b2 : (l0.length == l1.length) = false := by first | simpa using c3 | (simp at c3 ⊢; omega)
    obtain rfl := Option.some.inj H
    go_enter Try.func34, Try.ntmps34
    go_wp2
    repeat (go_quiet (fail); try go_wp2)
    go_ret
    exact ⟨by first | rfl | (simp; done) | (simp [*]; done), by repeat (first | exact Drawn0.refl _ | apply Drawn0.step)⟩

/-! ### laws_markInt64S: function 36 -/
def laws_markInt64S.l0 : Nat → List Int → Int → Int → Option (Int × List Int)
  | 0, _, _, _ => none
  | k + 1, x0, x1, x5 => if x5 < (x0.length : Int) then (if 0 ≤ x5 then (laws_markInt64S.l0 k (x0.set (x5 : Int).toNat x1) (wrap64 (x1 + 1)) (wrap64 (x5 + 1))) else (none)) else (some (x1, x0))
def laws_markInt64S.f (k : Nat) (l0 : List Int) (a1 : Int) : Option (Int × List Int) := laws_markInt64S.l0 k l0 a1 0
theorem laws_markInt64S.mono_l : ∀ k, (∀ y0 y1 y2, LeO (laws_markInt64S.l0 k y0 y1 y2) (laws_markInt64S.l0 (k + 1) y0 y1 y2))
  | 0 => fun _ _ _ r h => by simp [laws_markInt64S.l0] at h
  | k + 1 => by
    have ih0 := laws_markInt64S.mono_l k
    · intro y0 y1 y2
      unfold laws_markInt64S.l0
      repeat' first
      | (with_reducible exact ih0 _ _ _)
      | (with_reducible exact LeO.refl _)
      | (with_reducible exact LeO.none _)
      | (with_reducible refine LeO.ite ?_ ?_)
      | (with_reducible refine LeO.bind ?_ (fun _ => ?_))
      | exact ih0 _ _ _
      | exact LeO.none _
      | refine LeO.ite ?_ ?_
      | refine LeO.bind ?_ (fun _ => ?_)
theorem laws_markInt64S.mono : ∀ a0 a1 k, LeO (laws_markInt64S.f k a0 a1) (laws_markInt64S.f (k + 1) a0 a1) := by
  intro a0 a1 k
  have ih0 := laws_markInt64S.mono_l k
  unfold laws_markInt64S.f
  repeat' first
      | (with_reducible exact ih0 _ _ _)
      | (with_reducible exact LeO.refl _)
      | (with_reducible exact LeO.none _)
      | (with_reducible refine LeO.ite ?_ ?_)
      | (with_reducible refine LeO.bind ?_ (fun _ => ?_))
      | exact ih0 _ _ _
      | exact LeO.none _
      | refine LeO.ite ?_ ?_
      | refine LeO.bind ?_ (fun _ => ?_)
set_option maxHeartbeats 8000000 in
set_option maxRecDepth 100000 in
theorem laws_markInt64S.calls (k : Nat) (P0_ : Nat → Prop) (u9000_ : Value) (l0 : List Int) (a1 : Int) (r1 : Int) (r2 : List Int) (w0 w : World) (hB : Below w0.heap.size w0 w) (ho0 : Kd.R (Kd.int .i64) 2 w w0.heap.size P0_ u9000_ l0) (h : laws_markInt64S.f k l0 a1 = some (r1, r2)) :
    Calls Try.prog 36 #[u9000_, .int .i64 a1] w fun e w' => e = .returned (.int .i64 r1) ∧ Kd.R (Kd.int .i64) 2 w' w0.heap.size (fun k_ => (P0_ k_ ∨ w.heap.size ≤ k_)) u9000_ r2 ∧ Below w0.heap.size w0 w' ∧ Kept w w' (fun k_ => P0_ k_) := by
  have HO0 := Aside0.mk (show Kd.R (Kd.int .i64) 2 w w0.heap.size (fun k_ => (P0_ k_ ∨ w.heap.size ≤ k_)) u9000_ l0 from Kd.R_mono ho0 (fun k_ hk => (.inl hk)))
  have HK := Aside0.mk (Kept.refl w (fun k_ => P0_ k_))
  have HW0 := Aside0.mk hB.size
  have HB := Aside0.mk hB
  clear hB
  have H : (laws_markInt64S.l0 k l0 a1 0) = some (r1, r2) := h
  clear h
  have H' := Aside0.mk H
  clear H
  go_enter Try.func36, Try.ntmps36
  go_wp2
  go_loopg [1, 5] k (fun kq v1 v5 w' => ∃ (x0_1 : List Int) (x1_1 : Int) (x5_1 : Int), v1 = .int .i64 x1_1 ∧ v5 = .int .i64 x5_1 ∧ Aside0 (laws_markInt64S.l0 kq x0_1 x1_1 x5_1 = some (r1, r2)) ∧ Aside0 (kq ≤ k) ∧ Aside0 (Kd.R (Kd.int .i64) 2 w' w0.heap.size (fun k_ => (P0_ k_ ∨ w.heap.size ≤ k_)) u9000_ x0_1) ∧ Aside0 (Kept w w' (fun k_ => P0_ k_)) ∧ Aside0 (Below w0.heap.size w0 w'))
  case atStart => exact ⟨(l0), (a1), (0), (by first | rfl | (simp; done) | (simp [*]; done)), (by first | rfl | (simp; done) | (simp [*]; done)), H', ⟨Nat.le_refl _⟩, ⟨by (with_reducible repeat (first | apply Kd.R_alloc | apply Kd.R_drewN | apply Kd.R_drew)); exact HO0.out⟩, ⟨by repeat (first | (with_reducible first | exact HK.out | apply Kept.alloc | apply Kept.drewN | apply Kept.drew) | exact HK.out)⟩, ⟨by repeat (first | (with_reducible first | exact HB.out | apply below_alloc | apply pw_below_drewN | apply below_drew1) | exact HB.out)⟩⟩
  case round =>
    clear H'
    try clear p2
    obtain ⟨x0_1, x1_1, x5_1, rfl, rfl, HA, HK1, HO_0, HK, HB⟩ := hrel
    cases gk with
    | zero => exact absurd HA.out (by simp [laws_markInt64S.l0])
    | succ k1 =>
      have H := HA.out
      clear HA
      simp only [laws_markInt64S.l0] at H
      by_cases c3 : x5_1 < (x0_1.length : Int)
      · rw [if_pos c3] at H
        have c3b0 : decide (x5_1 < (x0_1.length : Int)) = true := decide_eq_true c3
        clear c3
        by_cases c4 : 0 ≤ x5_1
        · rw [if_pos c4] at H
          have c4b0 : decide (0 ≤ x5_1) = true := decide_eq_true c4
          clear c4
          obtain ⟨y181, hy181⟩ : ∃ y_ : List Int, y_ = (x0_1.set (x5_1 : Int).toNat x1_1) := ⟨_, rfl⟩
          replace H : (laws_markInt64S.l0 k1 y181 (wrap64 (x1_1 + 1)) (wrap64 (x5_1 + 1))) = some (r1, r2) := by first | (rw [hy181]; with_reducible exact H) | (have H2_ := (Option.bind_some _ _).symm.trans H; rw [hy181]; with_reducible exact H2_) | (have H2_ := (Option.bind_some _ _).symm.trans H; with_reducible exact H2_) | with_reducible exact H | (rw [hy181]; exact H) | exact H
          have Ny181 := Aside0.mk hy181
          clear hy181
          have H' := Aside0.mk H
          clear H
          obtain ⟨Ao6, co6, eo6⟩ := Kd.R_slice HO_0.out
          subst eo6
          have p5 : 0 ≤ (x5_1 : Int) := of_decide_eq_true (by first | (with_reducible assumption) | assumption)
          have q5 : (x5_1 : Int) < ((x0_1.length : Int) : Int) := of_decide_eq_true (by first | (with_reducible assumption) | assumption)
          obtain ⟨go5, co5, eo5, gb5, gl5, cl5, HG5⟩ := Kd.R_form HO_0.out (by omega)
          (first | cases eo5 | (injection eo5 with ea_ en_ ec_; (first | subst ea_ | (injection ea_ with ea_; subst ea_)); subst ec_; clear en_))
          have GB5 := Aside0.mk gb5
          have GG5 := Aside0.mk HG5
          clear gb5 gl5 HG5
          have HMgo5 := Aside0.mk (show (P0_ go5 ∨ w.heap.size ≤ go5) from (HO_0.out.1 _ rfl))
          obtain ⟨hx5_0, hf5_0⟩ := Kd.R_celln 0 HO_0.out (x5_1 : Int) p5 q5
          replace p5 := eq_true p5
          replace q5 := eq_true q5
          have HP7 := Kd.R_putg HO_0.out (x5_1 : Int) x1_1
          go_wp2_with (first | ((with_reducible refine gate_store (t := 2) (p := 15) rfl ?_); refine store_event (t := 2) (p := 15) (v := ?vo_w8) (w1 := (wr.setCell ⟨go5, (x5_1 : Int).toNat, none⟩ (.int .i64 x1_1))) ?hg ?ho ?hn ?hr ?_; (case ho => rfl); (case hg => rfl); (case hn => rfl); (case hr => first | (go_simp; done) | (go_simp; rfl)); intro w8 hw; have hg : wr.grownBy w8 (some go5) := (by rw [hw]; exact HP7.2); have hp_ : Kd.R (Kd.int .i64) 2 w8 w0.heap.size (fun k_ => (P0_ k_ ∨ w.heap.size ≤ k_)) (.slice (some ⟨go5, 0, none⟩) x0_1.length co6) y181 := (by rw [hw, Ny181.out]; exact HP7.1); clear HP7; have n0_ := Aside0.mk (hp_); have n1_ := Aside0.mk ((by rw [hw]; exact below_set (HB.out) GB5.out : Below w0.heap.size w0 w8)); have n2_ := Aside0.mk (Kept.of_grown (S := (fun k_ => P0_ k_)) hg (by repeat (first | (with_reducible first | exact HK.out | apply Kept.alloc | apply Kept.drewN | apply Kept.drew) | exact HK.out)) (fun k_ e_ => (HO_0.out.1 k_ e_))); clear HO_0; clear HB; clear HK; have HO_0 := n0_; have HB := n1_; have HK := n2_; clear n0_ n1_ n2_; clear hg hw hp_))
          go_roundg k1
          case measure => have := HK1.out; omega
          case rel => exact ⟨(y181), (wrap64 (x1_1 + 1)), (wrap64 (x5_1 + 1)), (by first | rfl | (simp; done) | (simp [*]; done)), (by first | rfl | (simp; done) | (simp [*]; done)), H', ⟨by have := HK1.out; omega⟩, ⟨by (with_reducible repeat (first | apply Kd.R_alloc | apply Kd.R_drewN | apply Kd.R_drew)); exact HO_0.out⟩, ⟨by repeat (first | (with_reducible first | exact HK.out | apply Kept.alloc | apply Kept.drewN | apply Kept.drew) | exact HK.out)⟩, ⟨by repeat (first | (with_reducible first | exact HB.out | apply below_alloc | apply pw_below_drewN | apply below_drew1) | exact HB.out)⟩⟩
        · rw [if_neg c4] at H
          exact absurd H (by simp)
      · rw [if_neg c3] at H
        have c3b0 : decide (x5_1 < (x0_1.length : Int)) = false := decide_eq_false c3
        clear c3
        simp only [Option.some.injEq, Prod.mk.injEq] at H
        obtain ⟨rfl, rfl⟩ := H
        obtain ⟨Ao9, co9, eo9⟩ := Kd.R_slice HO_0.out
        subst eo9
        go_wp2
        go_ret
        exact ⟨by first | rfl | (simp [errW_none, errW_some] <;> rfl) | (simp [*, errW_none, errW_some] <;> rfl), by (with_reducible repeat (first | apply Kd.R_alloc | apply Kd.R_drewN | apply Kd.R_drew)); exact HO_0.out, by repeat (first | (with_reducible first | exact HB.out | apply below_alloc | apply pw_below_drewN | apply below_drew1) | exact HB.out), by repeat (first | (with_reducible first | exact HK.out | apply Kept.alloc | apply Kept.drewN | apply Kept.drew) | exact HK.out)⟩

/-! ### laws_markInt64SS: function 35 -/
def laws_markInt64SS.l0 : Nat → List (List Int) → Int → Int → Option (Int × List (List Int))
  | 0, _, _, _ => none
  | k + 1, x0, x1, x5 => if x5 < (x0.length : Int) then (if 0 ≤ x5 then ((laws_markInt64S.f k (x0.getD x5.toNat []) x1).bind fun t => laws_markInt64SS.l0 k (x0.set x5.toNat t.2) t.1 (wrap64 (x5 + 1))) else none) else some (x1, x0)
def laws_markInt64SS.f (k : Nat) (l0 : List (List Int)) (a1 : Int) : Option (Int × List (List Int)) := laws_markInt64SS.l0 k l0 a1 0
theorem laws_markInt64SS.mono_l : ∀ k, (∀ y0 y1 y2, LeO (laws_markInt64SS.l0 k y0 y1 y2) (laws_markInt64SS.l0 (k + 1) y0 y1 y2))
  | 0 => fun _ _ _ r h => by simp [laws_markInt64SS.l0] at h
  | k + 1 => by
    have ih0 := laws_markInt64SS.mono_l k
    intro y0 y1 y2
    unfold laws_markInt64SS.l0
    exact LeO.ite (LeO.ite (LeO.bind (laws_markInt64S.mono _ _ _) fun _ => ih0 _ _ _) (LeO.refl _)) (LeO.refl _)
theorem laws_markInt64SS.mono : ∀ a0 a1 k, LeO (laws_markInt64SS.f k a0 a1) (laws_markInt64SS.f (k + 1) a0 a1) := fun a0 a1 k => laws_markInt64SS.mono_l k a0 a1 0
open Kd in
/-- One row is lent to its writer and comes back. -/
theorem markRow (k : Nat) (P0_ : Nat → Prop) (g : Nat) (n c : Nat) (x : List (List Int)) (i : Int) (h0 : 0 ≤ i) (h1 : i < x.length) (a1 t1 : Int) (t2 : List Int) (w0 w wr : World) (hB : Below w0.heap.size w0 wr) (hw : w.heap.size ≤ wr.heap.size)
    (hS : Kd.S (Kd.slice 2 (Kd.int .i64)) 25 wr w0.heap.size (fun k_ => P0_ k_ ∨ w.heap.size ≤ k_) (.slice (some ⟨g, 0, none⟩) n c) x) (hK : Kept w wr P0_) (h : laws_markInt64S.f k (x.getD i.toNat []) a1 = some (t1, t2)) :
    ∃ v, wr.cell? ⟨g, i.toNat, none⟩ = some v ∧ ∃ A ln c', v = .slice A ln c' ∧ ∀ wx m, wx = wr.drewN m → Calls Try.prog 36 #[v, .int .i64 a1] wx fun e w' => e = .returned (.int .i64 t1) ∧ Kd.S (Kd.slice 2 (Kd.int .i64)) 25 w' w0.heap.size (fun k_ => P0_ k_ ∨ w.heap.size ≤ k_) (.slice (some ⟨g, 0, none⟩) n c) (x.set i.toNat t2) ∧ Below w0.heap.size w0 w' ∧ Kept w w' P0_ := by
  have hn := (S_reads' hS).1
  obtain ⟨oki, cs, hcl, hM, hcc, hoki, hH⟩ := S_lend hS ([] : List Int) i h0 (by omega)
  obtain ⟨v, rfl, hR⟩ := hM
  obtain ⟨A, c', hv⟩ := R_slice hR
  have hcell := hcc 0 v rfl
  rw [show i.toNat * (Kd.slice 2 (Kd.int .i64)).sz + 0 = i.toNat by show i.toNat * 1 + 0 = i.toNat; omega] at hcell
  refine ⟨v, hcell, A, _, c', hv, fun wx m hwx => ?_⟩
  subst hwx
  have hB' : Below w0.heap.size w0 (wr.drewN m) := pw_below_drewN hB m
  have hR' := R_drewN hR m
  refine (laws_markInt64S.calls k oki v (x.getD i.toNat []) a1 t1 t2 w0 (wr.drewN m) hB' hR' h).mono fun e w' hq => ?_
  obtain ⟨he, hR2, hB2, hK2⟩ := hq
  have hH1 := H_widen (H_drewN hH m)
  have hH2 := H_kept hH1 hK2 (fun k _ hn hk => hn (.inl hk))
  have hsz : (wr.drewN m).heap.size = wr.heap.size := rfl
  refine ⟨he, H_back hH2 (x' := t2) ⟨v, rfl, hR2⟩ (fun k hk => ?_), hB2, ?_⟩
  · rcases hk with hk | hk
    · exact .inl hk
    · exact .inr ⟨.inr (by rw [hsz] at hk; omega), hk⟩
  · exact (hK.then_ (Kept.of_below (pw_below_drewN (Below.refl _ wr) m) (fun _ => False)) (fun _ h => h.elim)).then_ hK2 (fun k hk => (hoki k hk).1)
set_option maxHeartbeats 8000000 in
set_option maxRecDepth 100000 in
theorem laws_markInt64SS.calls (k : Nat) (P0_ : Nat → Prop) (u9000_ : Value) (l0 : List (List Int)) (a1 : Int) (r1 : Int) (r2 : List (List Int)) (w0 w : World) (hB : Below w0.heap.size w0 w) (ho0 : Kd.S (Kd.slice 2 (Kd.int .i64)) 25 w w0.heap.size P0_ u9000_ l0) (h : laws_markInt64SS.f k l0 a1 = some (r1, r2)) :
    Calls Try.prog 35 #[u9000_, .int .i64 a1] w fun e w' => e = .returned (.int .i64 r1) ∧ Kd.S (Kd.slice 2 (Kd.int .i64)) 25 w' w0.heap.size (fun k_ => (P0_ k_ ∨ w.heap.size ≤ k_)) u9000_ r2 ∧ Below w0.heap.size w0 w' ∧ Kept w w' (fun k_ => P0_ k_) := by
  have HO0 := Aside0.mk (show Kd.S (Kd.slice 2 (Kd.int .i64)) 25 w w0.heap.size (fun k_ => (P0_ k_ ∨ w.heap.size ≤ k_)) u9000_ l0 from Kd.S_mono ho0 (fun k_ hk => (.inl hk)))
  have HK := Aside0.mk (Kept.refl w (fun k_ => P0_ k_))
  have HB := Aside0.mk hB
  obtain ⟨Au, cu, eu⟩ := Kd.S_slice ho0
  subst eu
  clear hB ho0
  have H : (laws_markInt64SS.l0 k l0 a1 0) = some (r1, r2) := h
  clear h
  have H' := Aside0.mk H
  clear H
  generalize hnu : l0.length = nu at *
  have NU := Aside0.mk hnu
  clear hnu
  go_enter Try.func35, Try.ntmps35
  go_wp2
  go_loopg [1, 5] k (fun kq v1 v5 w' => ∃ (x0_1 : List (List Int)) (x1_1 : Int) (x5_1 : Int), v1 = .int .i64 x1_1 ∧ v5 = .int .i64 x5_1 ∧ Aside0 (laws_markInt64SS.l0 kq x0_1 x1_1 x5_1 = some (r1, r2)) ∧ Aside0 (kq ≤ k) ∧ Aside0 (Kd.S (Kd.slice 2 (Kd.int .i64)) 25 w' w0.heap.size (fun k_ => (P0_ k_ ∨ w.heap.size ≤ k_)) (.slice Au nu cu) x0_1) ∧ Aside0 (Kept w w' (fun k_ => P0_ k_)) ∧ Aside0 (Below w0.heap.size w0 w'))
  case atStart => exact ⟨l0, a1, 0, rfl, rfl, H', ⟨Nat.le_refl _⟩, HO0, HK, HB⟩
  case round =>
    clear H' HO0 HK HB NU
    obtain ⟨x0_1, x1_1, x5_1, rfl, rfl, HA, HK1, HO_0, HK, HB⟩ := hrel
    cases gk with
    | zero => exact absurd HA.out (by simp [laws_markInt64SS.l0])
    | succ k1 =>
      have H := HA.out
      clear HA
      simp only [laws_markInt64SS.l0] at H
      have hn := (Kd.S_reads' HO_0.out).1
      by_cases c3 : x5_1 < (x0_1.length : Int)
      · rw [if_pos c3] at H
        have c3b0 : decide (x5_1 < (nu : Int)) = true := decide_eq_true (by rw [hn]; exact c3)
        by_cases c4 : 0 ≤ x5_1
        · rw [if_pos c4] at H
          obtain ⟨⟨t1, t2⟩, A5, H⟩ := Option.bind_eq_some_iff.mp H
          have H' := Aside0.mk H
          clear H
          obtain ⟨g, co, eo, gb, gl, cl, HG⟩ := Kd.S_form HO_0.out (by omega)
          injection eo with ea en ec
          subst ea
          clear en ec
          obtain ⟨v, hcell, A, ln, c', hv, hC⟩ := markRow (w := w) k1 P0_ g nu cu x0_1 x5_1 c4 c3 x1_1 t1 t2 w0 wr HB.out HK.out.1 HO_0.out HK.out A5
          subst hv
          have hC0 := Aside0.mk (hC wr 0 rfl)
          clear hC
          have p5 : (0 ≤ x5_1) = True := eq_true c4
          have q5 : (x5_1 < (nu : Int)) = True := eq_true (by rw [hn]; exact c3)
          clear c3 c4 HG A5 hn
          go_wp2_with (go_at_call 36; refine hC0.out.mono ?_; rintro e w' ⟨rfl, h1, h2, h3⟩)
          go_roundg k1
          case measure => have := HK1.out; omega
          case rel => exact ⟨x0_1.set x5_1.toNat t2, t1, wrap64 (x5_1 + 1), rfl, rfl, H', ⟨by have := HK1.out; omega⟩, ⟨h1⟩, ⟨h3⟩, ⟨h2⟩⟩
        · rw [if_neg c4] at H
          exact absurd H (by simp)
      · rw [if_neg c3] at H
        have c3b0 : decide (x5_1 < (nu : Int)) = false := decide_eq_false (by rw [hn]; exact c3)
        simp only [Option.some.injEq, Prod.mk.injEq] at H
        obtain ⟨rfl, rfl⟩ := H
        clear c3 hn
        go_wp2
        go_ret
        exact ⟨rfl, HO_0.out, HB.out, HK.out⟩

/-! ### laws_heldInt64S: function 37 -/
def laws_heldInt64S.l0 : Nat → List Int → Int → Int → Option (Int)
  | 0, _, _, _ => none
  | k + 1, x0, x1, x5 => if x5 < (x0.length : Int) then (if 0 ≤ x5 then (if (rd x0 x5) = x1 then (laws_heldInt64S.l0 k x0 (wrap64 (x1 + 1)) (wrap64 (x5 + 1))) else (some (-1))) else (none)) else (some x1)
def laws_heldInt64S.f (k : Nat) (l0 : List Int) (a1 : Int) : Option (Int) := laws_heldInt64S.l0 k l0 a1 0
theorem laws_heldInt64S.mono_l : ∀ k, (∀ y0 y1 y2, LeO (laws_heldInt64S.l0 k y0 y1 y2) (laws_heldInt64S.l0 (k + 1) y0 y1 y2))
  | 0 => fun _ _ _ r h => by simp [laws_heldInt64S.l0] at h
  | k + 1 => by
    have ih0 := laws_heldInt64S.mono_l k
    · intro y0 y1 y2
      unfold laws_heldInt64S.l0
      repeat' first
      | (with_reducible exact ih0 _ _ _)
      | (with_reducible exact LeO.refl _)
      | (with_reducible exact LeO.none _)
      | (with_reducible refine LeO.ite ?_ ?_)
      | (with_reducible refine LeO.bind ?_ (fun _ => ?_))
      | exact ih0 _ _ _
      | exact LeO.none _
      | refine LeO.ite ?_ ?_
      | refine LeO.bind ?_ (fun _ => ?_)
theorem laws_heldInt64S.mono : ∀ a0 a1 k, LeO (laws_heldInt64S.f k a0 a1) (laws_heldInt64S.f (k + 1) a0 a1) := by
  intro a0 a1 k
  have ih0 := laws_heldInt64S.mono_l k
  unfold laws_heldInt64S.f
  repeat' first
      | (with_reducible exact ih0 _ _ _)
      | (with_reducible exact LeO.refl _)
      | (with_reducible exact LeO.none _)
      | (with_reducible refine LeO.ite ?_ ?_)
      | (with_reducible refine LeO.bind ?_ (fun _ => ?_))
      | exact ih0 _ _ _
      | exact LeO.none _
      | refine LeO.ite ?_ ?_
      | refine LeO.bind ?_ (fun _ => ?_)
set_option maxHeartbeats 8000000 in
set_option maxRecDepth 100000 in
theorem laws_heldInt64S.calls (k : Nat) (A0 : Option Addr) (c0 : Nat) (l0 : List Int) (a1 : Int) (r : Int) (w : World) (hr0 : Kd.C (Kd.int .i64) w A0 l0.length l0) (hc0 : l0.length ≤ c0) (h : laws_heldInt64S.f k l0 a1 = some r) :
    Calls Try.prog 37 #[.slice A0 l0.length c0, .int .i64 a1] w fun e w' => e = .returned (.int .i64 r) ∧ Drawn0 w w' := by
  have HR0 := Aside0.mk hr0
  have HC0 := Aside0.mk hc0
  clear hr0 hc0
  have H : (laws_heldInt64S.l0 k l0 a1 0) = some r := h
  clear h
  have H' := Aside0.mk H
  clear H
  go_enter Try.func37, Try.ntmps37
  go_wp2
  go_loopg [1, 5] k (fun kq v1 v5 w' => ∃ (x1_1 : Int) (x5_1 : Int), v1 = .int .i64 x1_1 ∧ v5 = .int .i64 x5_1 ∧ Aside0 (laws_heldInt64S.l0 kq l0 x1_1 x5_1 = some r) ∧ Aside0 (kq ≤ k) ∧ Drawn0 w w')
  case atStart => exact ⟨(a1), (0), (by first | rfl | (simp; done) | (simp [*]; done)), (by first | rfl | (simp; done) | (simp [*]; done)), H', ⟨Nat.le_refl _⟩, by repeat (first | exact Drawn0.refl _ | apply Drawn0.step)⟩
  case round =>
    clear H'
    try clear p2
    obtain ⟨x1_1, x5_1, rfl, rfl, HA, HK1, ⟨m1, rfl⟩⟩ := hrel
    cases gk with
    | zero => exact absurd HA.out (by simp [laws_heldInt64S.l0])
    | succ k1 =>
      have H := HA.out
      clear HA
      simp only [laws_heldInt64S.l0] at H
      by_cases c3 : x5_1 < (l0.length : Int)
      · rw [if_pos c3] at H
        have c3b0 : decide (x5_1 < (l0.length : Int)) = true := decide_eq_true c3
        clear c3
        by_cases c4 : 0 ≤ x5_1
        · rw [if_pos c4] at H
          have c4b0 : decide (0 ≤ x5_1) = true := decide_eq_true c4
          clear c4
          by_cases c5 : (rd l0 x5_1) = x1_1
          · rw [if_pos c5] at H
            have c5b0 : ((rd l0 x5_1) == x1_1) = true := beq_iff_eq.mpr c5
            have c5b1 : ((rd l0 x5_1) != x1_1) = false := bne_eq_false_iff_eq.mpr c5
            clear c5
            have H' := Aside0.mk H
            clear H
            have p182 : 0 ≤ (x5_1 : Int) := of_decide_eq_true (by first | (with_reducible assumption) | assumption)
            have q182 : x5_1 < (l0.length : Int) := of_decide_eq_true (by first | (with_reducible assumption) | assumption)
            obtain ⟨ad182, e182, hx182_0⟩ := Kd.at_int HR0.out x5_1 p182 q182
            cases e182
            replace p182 := eq_true p182
            replace q182 := eq_true q182
            go_wp2
            go_roundg k1
            case measure => have := HK1.out; omega
            case rel => exact ⟨(wrap64 (x1_1 + 1)), (wrap64 (x5_1 + 1)), (by first | rfl | (simp; done) | (simp [*]; done)), (by first | rfl | (simp; done) | (simp [*]; done)), H', ⟨by have := HK1.out; omega⟩, by repeat (first | exact Drawn0.refl _ | apply Drawn0.step)⟩
          · rw [if_neg c5] at H
            have c5b0 : ((rd l0 x5_1) == x1_1) = false := beq_eq_false_iff_ne.mpr c5
            have c5b1 : ((rd l0 x5_1) != x1_1) = true := bne_iff_ne.mpr c5
            obtain rfl := Option.some.inj H
            have p182 : 0 ≤ (x5_1 : Int) := of_decide_eq_true (by first | (with_reducible assumption) | assumption)
            have q182 : x5_1 < (l0.length : Int) := of_decide_eq_true (by first | (with_reducible assumption) | assumption)
            obtain ⟨ad182, e182, hx182_0⟩ := Kd.at_int HR0.out x5_1 p182 q182
            cases e182
            replace p182 := eq_true p182
            replace q182 := eq_true q182
            go_wp2
            go_ret
            exact ⟨by first | rfl | (simp; done) | (simp [*]; done), by repeat (first | exact Drawn0.refl _ | apply Drawn0.step)⟩
        · rw [if_neg c4] at H
          exact absurd H (by simp)
      · rw [if_neg c3] at H
        have c3b0 : decide (x5_1 < (l0.length : Int)) = false := decide_eq_false c3
        clear c3
        obtain rfl := Option.some.inj H
        go_wp2
        go_ret
        exact ⟨by first | rfl | (simp; done) | (simp [*]; done), by repeat (first | exact Drawn0.refl _ | apply Drawn0.step)⟩

/-! ### laws_FnExactWordAction: function 6 -/
def laws_FnExactWordAction.f (k : Nat) (a0 : Int) (l1 : List (List Int)) (l2 : List Int) : Option Bool :=
  if 1048576 < (l2.length : Int) then some true else
  (laws_szInt64SS.f k l1 1048576).bind fun z => if z < 0 then some true else
  (laws_toInt64SS.f k l1).bind fun b => (laws_toInt64S.f k l2).bind fun v => (spec_WordAction.f k a0 b v).bind fun s => (impl_WordAction.f k a0 b v).bind fun r =>
  (laws_eqInt64S.f k r.1 s.1).bind fun e1 => if e1 = true then (if r.2 = s.2 then
  (laws_eqInt64SS.f k b b).bind fun e2 => if e2 = true then
  (laws_eqInt64S.f k v v).bind fun e3 => if e3 = true then
  (laws_markInt64SS.f k b 1).bind fun m1 => (laws_markInt64S.f k v m1.1).bind fun m2 => if 0 ≤ m2.1 then
  (laws_markInt64S.f k r.1 1).bind fun m3 => (laws_heldInt64S.f k m3.2 1).bind fun h => if 0 ≤ h then (if h = m3.1 then some true
  else some false) else some false else some false else some false else some false else some false) else some false
theorem laws_FnExactWordAction.mono : ∀ a0 l1 l2 k, LeO (laws_FnExactWordAction.f k a0 l1 l2) (laws_FnExactWordAction.f (k + 1) a0 l1 l2) := by
  intro a0 l1 l2 k
  unfold laws_FnExactWordAction.f
  exact LeO.ite (LeO.refl _) (LeO.bind (laws_szInt64SS.mono _ _ _) fun _ => LeO.ite (LeO.refl _) (LeO.bind (laws_toInt64SS.mono _ _) fun _ => LeO.bind (laws_toInt64S.mono _ _) fun _ => LeO.bind (spec_WordAction.mono _ _ _ _) fun _ => LeO.bind (impl_WordAction.mono _ _ _ _) fun _ =>
    LeO.bind (laws_eqInt64S.mono _ _ _) fun _ => LeO.ite (LeO.ite (LeO.bind (laws_eqInt64SS.mono _ _ _) fun _ => LeO.ite (LeO.bind (laws_eqInt64S.mono _ _ _) fun _ => LeO.ite (LeO.bind (laws_markInt64SS.mono _ _ _) fun _ => LeO.bind (laws_markInt64S.mono _ _ _) fun _ => LeO.ite (LeO.bind (laws_markInt64S.mono _ _ _) fun _ => LeO.bind (laws_heldInt64S.mono _ _ _) fun _ => LeO.refl _) (LeO.refl _)) (LeO.refl _)) (LeO.refl _)) (LeO.refl _)) (LeO.refl _)))
theorem if_true_ {c : Prop} [Decidable c] {x : Option Bool} (h : (if c then x else some false) = some true) : c ∧ x = some true := by
  by_cases hc : c
  · rw [if_pos hc] at h
    exact ⟨hc, h⟩
  · rw [if_neg hc] at h
    exact absurd h (by simp)
/-- Rows whose blocks all lie in a part of the heap. -/
def Seg (w W : World) (lo hi : Nat) (v : Value) (xs : List (List Int)) : Prop := Kd.S (Kd.slice 2 (Kd.int .i64)) 25 W w.heap.size (fun k_ => lo ≤ k_ ∧ k_ < hi) v xs
theorem Seg.new {w W W' : World} {v : Value} {xs : List (List Int)} (h : Kd.S (Kd.slice 2 (Kd.int .i64)) 25 W' W.heap.size (fun _ => True) v xs) (hw : w.heap.size ≤ W.heap.size) : Seg w W' W.heap.size W'.heap.size v xs :=
  Kd.S_mono (Kd.S_lower (Kd.S_bound h) hw) fun _ hk => ⟨hk.2.1, hk.2.2.1⟩
theorem Seg.below {w W W' : World} {lo hi : Nat} {v : Value} {xs : List (List Int)} (h : Seg w W lo hi v xs) (hb : Below W.heap.size W W') : Seg w W' lo hi v xs := Kd.S_below h hb
theorem Seg.kept {w W W' : World} {lo hi lo' hi' : Nat} {v : Value} {xs : List (List Int)} (h : Seg w W lo hi v xs) (hk : Kept W W' fun k_ => lo' ≤ k_ ∧ k_ < hi') (hd : hi ≤ lo' ∨ hi' ≤ lo) : Seg w W' lo hi v xs := Kd.S_kept h hk fun k h1 h2 => by omega
theorem Seg.reads {w W : World} {lo hi : Nat} {A : Option Addr} {n c : Nat} {xs : List (List Int)} (h : Seg w W lo hi (.slice A n c) xs) : n = xs.length ∧ n ≤ c ∧ (Kd.slice 2 (Kd.int .i64)).C W A xs.length xs := Kd.S_reads' h
/-- Rows whose blocks all lie in a part of the heap. -/
def SegR (w W : World) (lo hi : Nat) (v : Value) (xs : List Int) : Prop := Kd.R (Kd.int .i64) 2 W w.heap.size (fun k_ => lo ≤ k_ ∧ k_ < hi) v xs
theorem SegR.new {w W W' : World} {v : Value} {xs : List Int} (h : Kd.R (Kd.int .i64) 2 W' W.heap.size (fun _ => True) v xs) (hw : w.heap.size ≤ W.heap.size) : SegR w W' W.heap.size W'.heap.size v xs :=
  Kd.R_mono (Kd.R_lower (Kd.R_bound h) hw) fun _ hk => ⟨hk.2.1, hk.2.2.1⟩
theorem SegR.below {w W W' : World} {lo hi : Nat} {v : Value} {xs : List Int} (h : SegR w W lo hi v xs) (hb : Below W.heap.size W W') : SegR w W' lo hi v xs := Kd.R_below h hb
theorem SegR.kept {w W W' : World} {lo hi lo' hi' : Nat} {v : Value} {xs : List Int} (h : SegR w W lo hi v xs) (hk : Kept W W' fun k_ => lo' ≤ k_ ∧ k_ < hi') (hd : hi ≤ lo' ∨ hi' ≤ lo) : SegR w W' lo hi v xs := Kd.R_kept h hk fun k h1 h2 => by omega
theorem SegR.reads {w W : World} {lo hi : Nat} {A : Option Addr} {n c : Nat} {xs : List Int} (h : SegR w W lo hi (.slice A n c) xs) : n = xs.length ∧ n ≤ c ∧ (Kd.int .i64).C W A xs.length xs := Kd.R_reads' h
theorem drawn_below {W W' : World} (h : Drawn0 W W') : Below W.heap.size W W' := by
  obtain ⟨n, rfl⟩ := h
  exact pw_below_drewN (Below.refl _ W) n
theorem am2_ {P : Prop} (h : P) : Aside0 P := ⟨h⟩
/-- A row whose elements were written: it is called by the length that it had. -/
theorem heldAtS {f : FuncId} {W : World} {base n c : Nat} {ok : Nat → Prop} {A : Option Addr} {xs : List (List Int)} {a : Int} {Q : Ending → World → Prop} (hS : Kd.S (Kd.slice 2 (Kd.int .i64)) 25 W base ok (.slice A n c) xs)
    (h : (Kd.slice 2 (Kd.int .i64)).C W A xs.length xs → xs.length ≤ c → Calls Try.prog f #[.slice A xs.length c, .int .i64 a] W Q) : Calls Try.prog f #[.slice A n c, .int .i64 a] W Q := by
  obtain ⟨h1, h2, h3⟩ := Kd.S_reads' hS
  subst h1
  exact h h3 h2
theorem heldAtP {f : FuncId} {W : World} {base n c : Nat} {ok : Nat → Prop} {A : Option Addr} {xs : List (List Int)} {a g : Int} {Q : Ending → World → Prop} (hS : Kd.S (Kd.slice 2 (Kd.int .i64)) 25 W base ok (.slice A n c) xs)
    (h : (Kd.slice 2 (Kd.int .i64)).C W A xs.length xs → xs.length ≤ c → Calls Try.prog f #[.agg #[.int .i64 g, .slice A xs.length c], .int .i64 a] W Q) : Calls Try.prog f #[.agg #[.int .i64 g, .slice A n c], .int .i64 a] W Q := by
  obtain ⟨h1, h2, h3⟩ := Kd.S_reads' hS
  subst h1
  exact h h3 h2
theorem heldAtR {f : FuncId} {W : World} {base n c : Nat} {ok : Nat → Prop} {A : Option Addr} {xs : List Int} {a : Int} {Q : Ending → World → Prop} (hS : Kd.R (Kd.int .i64) 2 W base ok (.slice A n c) xs)
    (h : (Kd.int .i64).C W A xs.length xs → xs.length ≤ c → Calls Try.prog f #[.slice A xs.length c, .int .i64 a] W Q) : Calls Try.prog f #[.slice A n c, .int .i64 a] W Q := by
  obtain ⟨h1, h2, h3⟩ := Kd.R_reads' hS
  subst h1
  exact h h3 h2
set_option maxHeartbeats 16000000 in
set_option maxRecDepth 100000 in
theorem laws_FnExactWordAction.calls (k : Nat) (a0 : Int) (A1 : Option Addr) (c1 : Nat) (l1 : List (List Int)) (A2 : Option Addr) (c2 : Nat) (l2 : List Int) (r : Bool) (w : World) (hr1 : Kd.C (Kd.slice 2 (Kd.int .i64)) w A1 l1.length l1) (hc1 : l1.length ≤ c1) (hr2 : Kd.C (Kd.int .i64) w A2 l2.length l2) (hc2 : l2.length ≤ c2) (h : laws_FnExactWordAction.f k a0 l1 l2 = some r) (HTRUE_ : Aside0 (r = true)) :
    Calls Try.prog 6 #[.int .i64 a0, .slice A1 l1.length c1, .slice A2 l2.length c2] w fun e w' => e = .returned (.bool r) ∧ Below w.heap.size w w' := by
  obtain rfl := HTRUE_.out
  clear HTRUE_
  have HR1 := Aside0.mk hr1
  have HC1 := Aside0.mk hc1
  have HR2 := Aside0.mk hr2
  have HC2 := Aside0.mk hc2
  clear hr1 hc1 hr2 hc2
  unfold laws_FnExactWordAction.f at h
  by_cases cl : (1048576 : Int) < (l2.length : Int)
  · clear h HR1 HC1 HR2 HC2
    have clb : decide ((1048576 : Int) < (l2.length : Int)) = true := decide_eq_true cl
    go_enter Try.func6, Try.ntmps6
    go_wp2_with fail
    go_ret
    exact ⟨rfl, by repeat (first | exact Below.refl _ _ | apply pw_below_drewN | apply below_alloc)⟩
  rw [if_neg cl] at h
  have clb : decide ((1048576 : Int) < (l2.length : Int)) = false := decide_eq_false cl
  obtain ⟨z, Z, h⟩ := Option.bind_eq_some_iff.mp h
  by_cases c0 : z < 0
  · have c0b : decide (z < 0) = true := decide_eq_true c0
    have F1 := Aside0.mk fun W (hW : Below w.heap.size w W) => laws_szInt64SS.calls k A1 c1 l1 1048576 z W (Kd.C_below HR1.out hW) HC1.out Z
    clear c0 h Z
    go_enter Try.func6, Try.ntmps6
    go_wp2_with (go_at_call 28; refine (F1.out _ (Below.refl _ _)).mono ?_; rintro e w' ⟨rfl, hd⟩)
    go_ret
    exact ⟨rfl, drawn_below hd⟩
  · have c0b : decide (z < 0) = false := decide_eq_false c0
    rw [if_neg c0] at h
    have hx_ := Option.bind_eq_some_iff.mp h
    clear h
    obtain ⟨b, B, h⟩ := hx_
    have hx_ := Option.bind_eq_some_iff.mp h
    clear h
    obtain ⟨v, V, h⟩ := hx_
    have hx_ := Option.bind_eq_some_iff.mp h
    clear h
    obtain ⟨⟨s1, s2⟩, S, h⟩ := hx_
    have hx_ := Option.bind_eq_some_iff.mp h
    clear h
    obtain ⟨⟨r1, r2⟩, R, h⟩ := hx_
    have hx_ := Option.bind_eq_some_iff.mp h
    clear h
    obtain ⟨e1, E1, h⟩ := hx_
    have hx_ := if_true_ h
    clear h
    obtain ⟨rfl, h⟩ := hx_
    have hx_ := if_true_ h
    clear h
    obtain ⟨hrs, h⟩ := hx_
    simp only at E1
    have hrs2 : r2 = s2 := hrs
    clear hrs
    subst hrs2
    have hx_ := Option.bind_eq_some_iff.mp h
    clear h
    obtain ⟨e2, E2, h⟩ := hx_
    have hx_ := if_true_ h
    clear h
    obtain ⟨rfl, h⟩ := hx_
    have hx_ := Option.bind_eq_some_iff.mp h
    clear h
    obtain ⟨e3, E3, h⟩ := hx_
    have hx_ := if_true_ h
    clear h
    obtain ⟨rfl, h⟩ := hx_
    have hx_ := Option.bind_eq_some_iff.mp h
    clear h
    obtain ⟨⟨n1, b'⟩, M1, h⟩ := hx_
    have hx_ := Option.bind_eq_some_iff.mp h
    clear h
    obtain ⟨⟨n2, v'⟩, M2, h⟩ := hx_
    have hx_ := if_true_ h
    clear h
    obtain ⟨hn2, h⟩ := hx_
    have hx_ := Option.bind_eq_some_iff.mp h
    clear h
    obtain ⟨⟨n3, r'⟩, M3, h⟩ := hx_
    have hx_ := Option.bind_eq_some_iff.mp h
    clear h
    obtain ⟨h1, G, h⟩ := hx_
    have hx_ := if_true_ h
    clear h
    obtain ⟨hh, h⟩ := hx_
    have hx_ := if_true_ h
    clear h
    obtain ⟨hz_, _⟩ := hx_
    have hz2_ : h1 = n3 := hz_
    clear hz_
    subst hz2_
    have c1b : decide (n2 < 0) = false := decide_eq_false (by simpa using hn2)
    have c2b : decide (h1 < 0) = false := decide_eq_false (by simpa using hh)
    simp only at M2 M3 G
    have F1 := Aside0.mk fun  (W : World) (hW : Below w.heap.size w W)  => laws_szInt64SS.calls k A1 c1 l1 1048576 z W (Kd.C_below HR1.out hW) HC1.out Z
    have F2 := Aside0.mk fun  (W : World) (hW : Below w.heap.size w W)  => laws_toInt64SS.calls k A1 c1 l1 b W (Kd.C_below HR1.out hW) HC1.out B
    have F3 := Aside0.mk fun  (W : World) (hW : Below w.heap.size w W)  => laws_toInt64S.calls k A2 c2 l2 v W (Kd.C_below HR2.out hW) HC2.out V
    have F4 := Aside0.mk fun A1_ c1_ A2_ c2_ (W : World)  h1_ g1_ h2_ g2_ => spec_WordAction.calls k a0 A1_ c1_ b A2_ c2_ v s1 r2 W h1_ g1_ h2_ g2_ S
    have F5 := Aside0.mk fun  (W : World) (hW : Below w.heap.size w W)  => laws_toInt64SS.calls k A1 c1 l1 b W (Kd.C_below HR1.out hW) HC1.out B
    have F6 := Aside0.mk fun  (W : World) (hW : Below w.heap.size w W)  => laws_toInt64S.calls k A2 c2 l2 v W (Kd.C_below HR2.out hW) HC2.out V
    have F7 := Aside0.mk fun A1_ c1_ A2_ c2_ (W : World)  h1_ g1_ h2_ g2_ => impl_WordAction.calls k a0 A1_ c1_ b A2_ c2_ v r1 r2 W h1_ g1_ h2_ g2_ R
    have F8 := Aside0.mk fun A0_ c0_ A1_ c1_ (W : World)  h0_ g0_ h1_ g1_ => laws_eqInt64S.calls k A0_ c0_ r1 A1_ c1_ s1 true W h0_ g0_ h1_ g1_ E1
    have F9 := Aside0.mk fun  (W : World) (hW : Below w.heap.size w W)  => laws_toInt64SS.calls k A1 c1 l1 b W (Kd.C_below HR1.out hW) HC1.out B
    have F10 := Aside0.mk fun A0_ c0_ A1_ c1_ (W : World)  h0_ g0_ h1_ g1_ => laws_eqInt64SS.calls k A0_ c0_ b A1_ c1_ b true W h0_ g0_ h1_ g1_ E2
    have F11 := Aside0.mk fun  (W : World) (hW : Below w.heap.size w W)  => laws_toInt64S.calls k A2 c2 l2 v W (Kd.C_below HR2.out hW) HC2.out V
    have F12 := Aside0.mk fun A0_ c0_ A1_ c1_ (W : World)  h0_ g0_ h1_ g1_ => laws_eqInt64S.calls k A0_ c0_ v A1_ c1_ v true W h0_ g0_ h1_ g1_ E3
    have F13 := Aside0.mk fun P0_ u W hB ho => laws_markInt64SS.calls k P0_ u b 1 n1 b' w W hB ho M1
    have F14 := Aside0.mk fun P0_ u W hB ho => laws_markInt64S.calls k P0_ u v n1 n2 v' w W hB ho M2
    have F15 := Aside0.mk fun A0_ c0_ A1_ c1_ (W : World)  h0_ g0_ h1_ g1_ => laws_eqInt64S.calls k A0_ c0_ r1 A1_ c1_ s1 true W h0_ g0_ h1_ g1_ E1
    have F16 := Aside0.mk fun P0_ u W hB ho => laws_markInt64S.calls k P0_ u r1 1 h1 r' w W hB ho M3
    have F17 := Aside0.mk fun A0_ c0_ (W : World)  h0_ g0_ => laws_heldInt64S.calls k A0_ c0_ r' 1 h1 W h0_ g0_ G
    have F18 := Aside0.mk fun  (W : World) (hW : Below w.heap.size w W)  => laws_toInt64SS.calls k A1 c1 l1 b W (Kd.C_below HR1.out hW) HC1.out B
    have F19 := Aside0.mk fun  (W : World) (hW : Below w.heap.size w W)  => laws_toInt64S.calls k A2 c2 l2 v W (Kd.C_below HR2.out hW) HC2.out V
    have F20 := Aside0.mk fun A1_ c1_ A2_ c2_ (W : World)  h1_ g1_ h2_ g2_ => impl_WordAction.calls k a0 A1_ c1_ b A2_ c2_ v r1 r2 W h1_ g1_ h2_ g2_ R
    have F21 := Aside0.mk fun A0_ c0_ A1_ c1_ (W : World)  h0_ g0_ h1_ g1_ => laws_eqInt64S.calls k A0_ c0_ r1 A1_ c1_ s1 true W h0_ g0_ h1_ g1_ E1
    have F22 := Aside0.mk fun A0_ c0_ (W : World)  h0_ g0_ => laws_heldInt64S.calls k A0_ c0_ r' 1 h1 W h0_ g0_ G
    clear c0 cl Z B V S R E1 E2 E3 M1 M2 M3 G hn2 hh
    go_enter Try.func6, Try.ntmps6
    go_wp2_with (first
      | (go_at_call 28; refine (F1.out  _ (Below.refl _ _) ).mono ?_; rintro e W1 ⟨rfl, hd⟩; have hb := drawn_below hd; have HB1 := am2_ hb; have HL1 := am2_ (below_size hb); clear F1  hb hd  )
      | (go_at_call 30; refine (F2.out  _ HB1.out ).mono ?_; rintro e W2 ⟨v2_0, rfl, hS0, hb⟩; have HB2 := am2_ (below_then HB1.out (below_size HB1.out) hb); have HL2 := am2_ (below_size hb); have X1 := am2_ (Seg.new hS0 (below_size HB1.out)); obtain ⟨A2_0, d2_0, e2_0⟩ := Kd.S_slice hS0; subst e2_0; clear F2 hS0 hb  HB1 )
      | (go_at_call 31; refine (F3.out  _ HB2.out ).mono ?_; rintro e W3 ⟨v3_0, rfl, hS0, hb⟩; have HB3 := am2_ (below_then HB2.out (below_size HB2.out) hb); have HL3 := am2_ (below_size hb); have n_ := am2_ (X1.out.below hb); clear X1; have X1 := n_; clear n_; have X2 := am2_ (SegR.new hS0 (below_size HB2.out)); obtain ⟨A3_0, d3_0, e3_0⟩ := Kd.R_slice hS0; subst e3_0; clear F3 hS0 hb  HB2 )
      | (go_at_call 29; refine (F4.out _ _ _ _ _  X1.out.reads.2.2 X1.out.reads.2.1 X2.out.reads.2.2 X2.out.reads.2.1).mono ?_; rintro e W4 ⟨v4_0, rfl, hS0, hb⟩; have HB4 := am2_ (below_then HB3.out (below_size HB3.out) hb); have HL4 := am2_ (below_size hb); have XS := am2_ (SegR.new hS0 (below_size HB3.out)); obtain ⟨A4_0, d4_0, e4_0⟩ := Kd.R_slice hS0; subst e4_0; clear F4 hS0 hb  HB3 X1 X2)
      | (go_at_call 30; refine (F5.out  _ HB4.out ).mono ?_; rintro e W5 ⟨v5_0, rfl, hS0, hb⟩; have HB5 := am2_ (below_then HB4.out (below_size HB4.out) hb); have HL5 := am2_ (below_size hb); have n_ := am2_ (XS.out.below hb); clear XS; have XS := n_; clear n_; have XB := am2_ (Seg.new hS0 (below_size HB4.out)); obtain ⟨A5_0, d5_0, e5_0⟩ := Kd.S_slice hS0; subst e5_0; clear F5 hS0 hb  HB4 )
      | (go_at_call 31; refine (F6.out  _ HB5.out ).mono ?_; rintro e W6 ⟨v6_0, rfl, hS0, hb⟩; have HB6 := am2_ (below_then HB5.out (below_size HB5.out) hb); have HL6 := am2_ (below_size hb); have n_ := am2_ (XS.out.below hb); clear XS; have XS := n_; clear n_; have n_ := am2_ (XB.out.below hb); clear XB; have XB := n_; clear n_; have XV := am2_ (SegR.new hS0 (below_size HB5.out)); obtain ⟨A6_0, d6_0, e6_0⟩ := Kd.R_slice hS0; subst e6_0; clear F6 hS0 hb  HB5 )
      | (go_at_call 32; refine (F7.out _ _ _ _ _  XB.out.reads.2.2 XB.out.reads.2.1 XV.out.reads.2.2 XV.out.reads.2.1).mono ?_; rintro e W7 ⟨v7_0, rfl, hS0, hb⟩; have HB7 := am2_ (below_then HB6.out (below_size HB6.out) hb); have HL7 := am2_ (below_size hb); have n_ := am2_ (XS.out.below hb); clear XS; have XS := n_; clear n_; have n_ := am2_ (XB.out.below hb); clear XB; have XB := n_; clear n_; have n_ := am2_ (XV.out.below hb); clear XV; have XV := n_; clear n_; have XR := am2_ (SegR.new hS0 (below_size HB6.out)); obtain ⟨A7_0, d7_0, e7_0⟩ := Kd.R_slice hS0; subst e7_0; clear F7 hS0 hb  HB6 )
      | (go_at_call 33; refine (F8.out _ _ _ _ _  XR.out.reads.2.2 XR.out.reads.2.1 XS.out.reads.2.2 XS.out.reads.2.1).mono ?_; rintro e W8 ⟨rfl, hd⟩; have hb := drawn_below hd; have HB8 := am2_ (below_then HB7.out (below_size HB7.out) hb); have HL8 := am2_ (below_size hb); have n_ := am2_ (XS.out.below hb); clear XS; have XS := n_; clear n_; have n_ := am2_ (XB.out.below hb); clear XB; have XB := n_; clear n_; have n_ := am2_ (XV.out.below hb); clear XV; have XV := n_; clear n_; have n_ := am2_ (XR.out.below hb); clear XR; have XR := n_; clear n_; clear F8  hb hd HB7 )
      | (go_at_call 30; refine (F9.out  _ HB8.out ).mono ?_; rintro e W9 ⟨v9_0, rfl, hS0, hb⟩; have HB9 := am2_ (below_then HB8.out (below_size HB8.out) hb); have HL9 := am2_ (below_size hb); have n_ := am2_ (XS.out.below hb); clear XS; have XS := n_; clear n_; have n_ := am2_ (XB.out.below hb); clear XB; have XB := n_; clear n_; have n_ := am2_ (XV.out.below hb); clear XV; have XV := n_; clear n_; have n_ := am2_ (XR.out.below hb); clear XR; have XR := n_; clear n_; have XC := am2_ (Seg.new hS0 (below_size HB8.out)); obtain ⟨A9_0, d9_0, e9_0⟩ := Kd.S_slice hS0; subst e9_0; clear F9 hS0 hb  HB8 )
      | (go_at_call 34; refine (F10.out _ _ _ _ _  XB.out.reads.2.2 XB.out.reads.2.1 XC.out.reads.2.2 XC.out.reads.2.1).mono ?_; rintro e W10 ⟨rfl, hd⟩; have hb := drawn_below hd; have HB10 := am2_ (below_then HB9.out (below_size HB9.out) hb); have HL10 := am2_ (below_size hb); have n_ := am2_ (XS.out.below hb); clear XS; have XS := n_; clear n_; have n_ := am2_ (XB.out.below hb); clear XB; have XB := n_; clear n_; have n_ := am2_ (XV.out.below hb); clear XV; have XV := n_; clear n_; have n_ := am2_ (XR.out.below hb); clear XR; have XR := n_; clear n_; clear F10  hb hd HB9 XC)
      | (go_at_call 31; refine (F11.out  _ HB10.out ).mono ?_; rintro e W11 ⟨v11_0, rfl, hS0, hb⟩; have HB11 := am2_ (below_then HB10.out (below_size HB10.out) hb); have HL11 := am2_ (below_size hb); have n_ := am2_ (XS.out.below hb); clear XS; have XS := n_; clear n_; have n_ := am2_ (XB.out.below hb); clear XB; have XB := n_; clear n_; have n_ := am2_ (XV.out.below hb); clear XV; have XV := n_; clear n_; have n_ := am2_ (XR.out.below hb); clear XR; have XR := n_; clear n_; have XD := am2_ (SegR.new hS0 (below_size HB10.out)); obtain ⟨A11_0, d11_0, e11_0⟩ := Kd.R_slice hS0; subst e11_0; clear F11 hS0 hb  HB10 )
      | (go_at_call 33; refine (F12.out _ _ _ _ _  XV.out.reads.2.2 XV.out.reads.2.1 XD.out.reads.2.2 XD.out.reads.2.1).mono ?_; rintro e W12 ⟨rfl, hd⟩; have hb := drawn_below hd; have HB12 := am2_ (below_then HB11.out (below_size HB11.out) hb); have HL12 := am2_ (below_size hb); have n_ := am2_ (XS.out.below hb); clear XS; have XS := n_; clear n_; have n_ := am2_ (XB.out.below hb); clear XB; have XB := n_; clear n_; have n_ := am2_ (XV.out.below hb); clear XV; have XV := n_; clear n_; have n_ := am2_ (XR.out.below hb); clear XR; have XR := n_; clear n_; clear F12  hb hd HB11 XD)
      | (go_at_call 35; refine (F13.out (fun k_ => W4.heap.size ≤ k_ ∧ k_ < W5.heap.size) _ _ HB12.out XB.out).mono ?_; rintro e W13 ⟨rfl, hS, hB2, hK⟩; have HB13 := am2_ hB2; have HL13 := am2_ hK.1; have n_ := am2_ (XS.out.kept hK (.inl (Nat.le_refl _))); clear XS; have XS := n_; clear n_; have n_ := am2_ (XV.out.kept hK (.inr (Nat.le_refl _))); clear XV; have XV := n_; clear n_; have n_ := am2_ (XR.out.kept hK (.inr HL6.out)); clear XR; have XR := n_; clear n_; clear F13 hS hB2 hK HB12 XB)
      | (go_at_call 36; refine (F14.out (fun k_ => W5.heap.size ≤ k_ ∧ k_ < W6.heap.size) _ _ HB13.out XV.out).mono ?_; rintro e W14 ⟨rfl, hS, hB2, hK⟩; have HB14 := am2_ hB2; have HL14 := am2_ hK.1; have n_ := am2_ (XS.out.kept hK (.inl HL5.out)); clear XS; have XS := n_; clear n_; have n_ := am2_ (XR.out.kept hK (.inr (Nat.le_refl _))); clear XR; have XR := n_; clear n_; clear F14 hS hB2 hK HB13 XV)
      | (go_at_call 33; refine (F15.out _ _ _ _ _  XR.out.reads.2.2 XR.out.reads.2.1 XS.out.reads.2.2 XS.out.reads.2.1).mono ?_; rintro e W15 ⟨rfl, hd⟩; have hb := drawn_below hd; have HB15 := am2_ (below_then HB14.out (below_size HB14.out) hb); have HL15 := am2_ (below_size hb); have n_ := am2_ (XS.out.below hb); clear XS; have XS := n_; clear n_; have n_ := am2_ (XR.out.below hb); clear XR; have XR := n_; clear n_; clear F15  hb hd HB14 )
      | (go_at_call 36; refine (F16.out (fun k_ => W6.heap.size ≤ k_ ∧ k_ < W7.heap.size) _ _ HB15.out XR.out).mono ?_; rintro e W16 ⟨rfl, hS, hB2, hK⟩; have HB16 := am2_ hB2; have HL16 := am2_ hK.1; have n_ := am2_ (XS.out.kept hK (.inl (Nat.le_trans HL5.out HL6.out))); clear XS; have XS := n_; clear n_; have YXR := am2_ hS; clear F16 hS hB2 hK HB15 XR)
      | (go_at_call 37; refine (heldAtR YXR.out fun h2_ h3_ => F17.out _ _ _  h2_ h3_).mono ?_; rintro e W17 ⟨rfl, hd⟩; have hb := drawn_below hd; have HB17 := am2_ (below_then HB16.out (below_size HB16.out) hb); have HL17 := am2_ (below_size hb); have n_ := am2_ (XS.out.below hb); clear XS; have XS := n_; clear n_; have n_ := am2_ (Kd.R_below YXR.out hb); clear YXR; have YXR := n_; clear n_; clear F17  hb hd HB16 )
      | (go_at_call 30; refine (F18.out  _ HB17.out ).mono ?_; rintro e W18 ⟨v18_0, rfl, hS0, hb⟩; have HB18 := am2_ (below_then HB17.out (below_size HB17.out) hb); have HL18 := am2_ (below_size hb); have n_ := am2_ (XS.out.below hb); clear XS; have XS := n_; clear n_; have n_ := am2_ (Kd.R_below YXR.out hb); clear YXR; have YXR := n_; clear n_; have XE := am2_ (Seg.new hS0 (below_size HB17.out)); obtain ⟨A18_0, d18_0, e18_0⟩ := Kd.S_slice hS0; subst e18_0; clear F18 hS0 hb  HB17 )
      | (go_at_call 31; refine (F19.out  _ HB18.out ).mono ?_; rintro e W19 ⟨v19_0, rfl, hS0, hb⟩; have HB19 := am2_ (below_then HB18.out (below_size HB18.out) hb); have HL19 := am2_ (below_size hb); have n_ := am2_ (XS.out.below hb); clear XS; have XS := n_; clear n_; have n_ := am2_ (Kd.R_below YXR.out hb); clear YXR; have YXR := n_; clear n_; have n_ := am2_ (XE.out.below hb); clear XE; have XE := n_; clear n_; have XF := am2_ (SegR.new hS0 (below_size HB18.out)); obtain ⟨A19_0, d19_0, e19_0⟩ := Kd.R_slice hS0; subst e19_0; clear F19 hS0 hb  HB18 )
      | (go_at_call 32; refine (F20.out _ _ _ _ _  XE.out.reads.2.2 XE.out.reads.2.1 XF.out.reads.2.2 XF.out.reads.2.1).mono ?_; rintro e W20 ⟨v20_0, rfl, hS0, hb⟩; have HB20 := am2_ (below_then HB19.out (below_size HB19.out) hb); have HL20 := am2_ (below_size hb); have n_ := am2_ (XS.out.below hb); clear XS; have XS := n_; clear n_; have n_ := am2_ (Kd.R_below YXR.out hb); clear YXR; have YXR := n_; clear n_; have XG := am2_ (SegR.new hS0 (below_size HB19.out)); obtain ⟨A20_0, d20_0, e20_0⟩ := Kd.R_slice hS0; subst e20_0; clear F20 hS0 hb  HB19 XE XF)
      | (go_at_call 33; refine (F21.out _ _ _ _ _  XG.out.reads.2.2 XG.out.reads.2.1 XS.out.reads.2.2 XS.out.reads.2.1).mono ?_; rintro e W21 ⟨rfl, hd⟩; have hb := drawn_below hd; have HB21 := am2_ (below_then HB20.out (below_size HB20.out) hb); have HL21 := am2_ (below_size hb); have n_ := am2_ (Kd.R_below YXR.out hb); clear YXR; have YXR := n_; clear n_; clear F21  hb hd HB20 XG XS)
      | (go_at_call 37; refine (heldAtR YXR.out fun h2_ h3_ => F22.out _ _ _  h2_ h3_).mono ?_; rintro e W22 ⟨rfl, hd⟩; have hb := drawn_below hd; have HB22 := am2_ (below_then HB21.out (below_size HB21.out) hb); have HL22 := am2_ (below_size hb); clear F22  hb hd HB21 YXR))
    go_ret
    exact ⟨rfl, HB22.out⟩

end Go.Proofs.Ytaibdhbccfaneaa.PFnExactWordAction
