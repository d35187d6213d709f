/- Written by this session's program out of the kit's print and this session's contracts. -/
import Derived.Test.YtbcdngjajjgmkaaVFnExactRepresentationAtPx0
import Derived.Test.YtbcdngjajjgmkaaVFnExactRepresentationAtPx1
import Derived.Test.YtbcdngjajjgmkaaVFnExactRepresentationAtPx8
import Derived.Test.YtbcdngjajjgmkaaVFnExactRepresentationAtPx12
namespace Go.Proofs.Ytbcdngjajjgmkaa.PFnExactRepresentationAt
open Go.RowKit Go.Proofs.YtbcdngjajjgmkaaW.PrintWords Go.Proofs.YtbcdngjajjgmkaaW.PrintLast Go.Proofs.YtbcdngjajjgmkaaW.PrintMore
attribute [local go_sem] max2_int min2_int max_two min_two max_three min_three max_four min_four   -- for this text's walks alone
set_option linter.unusedVariables false
set_option linter.unusedSimpArgs false

/-! ### laws_heldInt64S: function 47 -/
def laws_heldInt64S.l0 : Nat → List Int → Int → Int → Option (Int)
  | 0, _, _, _ => none
  | k + 1, x0, x1, x5 => if x5 < (x0.length : Int) then (if 0 ≤ x5 then (if (rd x0 x5) = x1 then (laws_heldInt64S.l0 k x0 (wrap64 (x1 + 1)) (wrap64 (x5 + 1))) else (some (-1))) else (none)) else (some x1)
def laws_heldInt64S.f (k : Nat) (l0 : List Int) (a1 : Int) : Option (Int) := laws_heldInt64S.l0 k l0 a1 0
theorem laws_heldInt64S.mono_l : ∀ k, (∀ y0 y1 y2, LeO (laws_heldInt64S.l0 k y0 y1 y2) (laws_heldInt64S.l0 (k + 1) y0 y1 y2))
  | 0 => fun _ _ _ r h => by simp [laws_heldInt64S.l0] at h
  | k + 1 => by
    have ih0 := laws_heldInt64S.mono_l k
    · intro y0 y1 y2
      unfold laws_heldInt64S.l0
      repeat' first
      | (with_reducible exact ih0 _ _ _)
      | (with_reducible exact LeO.refl _)
      | (with_reducible exact LeO.none _)
      | (with_reducible refine LeO.ite ?_ ?_)
      | (with_reducible refine LeO.bind ?_ (fun _ => ?_))
      | exact ih0 _ _ _
      | exact LeO.none _
      | refine LeO.ite ?_ ?_
      | refine LeO.bind ?_ (fun _ => ?_)
theorem laws_heldInt64S.mono : ∀ a0 a1 k, LeO (laws_heldInt64S.f k a0 a1) (laws_heldInt64S.f (k + 1) a0 a1) := by
  intro a0 a1 k
  have ih0 := laws_heldInt64S.mono_l k
  unfold laws_heldInt64S.f
  repeat' first
      | (with_reducible exact ih0 _ _ _)
      | (with_reducible exact LeO.refl _)
      | (with_reducible exact LeO.none _)
      | (with_reducible refine LeO.ite ?_ ?_)
      | (with_reducible refine LeO.bind ?_ (fun _ => ?_))
      | exact ih0 _ _ _
      | exact LeO.none _
      | refine LeO.ite ?_ ?_
      | refine LeO.bind ?_ (fun _ => ?_)
set_option maxHeartbeats 8000000 in
set_option maxRecDepth 100000 in
theorem laws_heldInt64S.calls (k : Nat) (A0 : Option Addr) (c0 : Nat) (l0 : List Int) (a1 : Int) (r : Int) (w : World) (hr0 : Kd.C (Kd.int .i64) w A0 l0.length l0) (hc0 : l0.length ≤ c0) (h : laws_heldInt64S.f k l0 a1 = some r) :
    Calls Try.prog 47 #[.slice A0 l0.length c0, .int .i64 a1] w fun e w' => e = .returned (.int .i64 r) ∧ Drawn0 w w' := by
  have HR0 := Aside0.mk hr0
  have HC0 := Aside0.mk hc0
  clear hr0 hc0
  have H : (laws_heldInt64S.l0 k l0 a1 0) = some r := h
  clear h
  have H' := Aside0.mk H
  clear H
  go_enter Try.func47, Try.ntmps47
  go_wp2
  go_loopg [1, 5] k (fun kq v1 v5 w' => ∃ (x1_1 : Int) (x5_1 : Int), v1 = .int .i64 x1_1 ∧ v5 = .int .i64 x5_1 ∧ Aside0 (laws_heldInt64S.l0 kq l0 x1_1 x5_1 = some r) ∧ Aside0 (kq ≤ k) ∧ Drawn0 w w')
  case atStart => exact ⟨(a1), (0), (by first | rfl | (simp; done) | (simp [*]; done)), (by first | rfl | (simp; done) | (simp [*]; done)), H', ⟨Nat.le_refl _⟩, by repeat (first | exact Drawn0.refl _ | apply Drawn0.step)⟩
  case round =>
    clear H'
    try clear p2
    obtain ⟨x1_1, x5_1, rfl, rfl, HA, HK1, ⟨m1, rfl⟩⟩ := hrel
    cases gk with
    | zero => exact absurd HA.out (by simp [laws_heldInt64S.l0])
    | succ k1 =>
      have H := HA.out
      clear HA
      simp only [laws_heldInt64S.l0] at H
      by_cases c3 : x5_1 < (l0.length : Int)
      · rw [if_pos c3] at H
        have c3b0 : decide (x5_1 < (l0.length : Int)) = true := decide_eq_true c3
        clear c3
        by_cases c4 : 0 ≤ x5_1
        · rw [if_pos c4] at H
          have c4b0 : decide (0 ≤ x5_1) = true := decide_eq_true c4
          clear c4
          by_cases c5 : (rd l0 x5_1) = x1_1
          · rw [if_pos c5] at H
            have c5b0 : ((rd l0 x5_1) == x1_1) = true := beq_iff_eq.mpr c5
            have c5b1 : ((rd l0 x5_1) != x1_1) = false := bne_eq_false_iff_eq.mpr c5
            clear c5
            have H' := Aside0.mk H
            clear H
            have p304 : 0 ≤ (x5_1 : Int) := of_decide_eq_true (by first | (with_reducible assumption) | assumption)
            have q304 : x5_1 < (l0.length : Int) := of_decide_eq_true (by first | (with_reducible assumption) | assumption)
            obtain ⟨ad304, e304, hx304_0⟩ := Kd.at_int HR0.out x5_1 p304 q304
            cases e304
            replace p304 := eq_true p304
            replace q304 := eq_true q304
            go_wp2
            go_roundg k1
            case measure => have := HK1.out; omega
            case rel => exact ⟨(wrap64 (x1_1 + 1)), (wrap64 (x5_1 + 1)), (by first | rfl | (simp; done) | (simp [*]; done)), (by first | rfl | (simp; done) | (simp [*]; done)), H', ⟨by have := HK1.out; omega⟩, by repeat (first | exact Drawn0.refl _ | apply Drawn0.step)⟩
          · rw [if_neg c5] at H
            have c5b0 : ((rd l0 x5_1) == x1_1) = false := beq_eq_false_iff_ne.mpr c5
            have c5b1 : ((rd l0 x5_1) != x1_1) = true := bne_iff_ne.mpr c5
            obtain rfl := Option.some.inj H
            have p304 : 0 ≤ (x5_1 : Int) := of_decide_eq_true (by first | (with_reducible assumption) | assumption)
            have q304 : x5_1 < (l0.length : Int) := of_decide_eq_true (by first | (with_reducible assumption) | assumption)
            obtain ⟨ad304, e304, hx304_0⟩ := Kd.at_int HR0.out x5_1 p304 q304
            cases e304
            replace p304 := eq_true p304
            replace q304 := eq_true q304
            go_wp2
            go_ret
            exact ⟨by first | rfl | (simp; done) | (simp [*]; done), by repeat (first | exact Drawn0.refl _ | apply Drawn0.step)⟩
        · rw [if_neg c4] at H
          exact absurd H (by simp)
      · rw [if_neg c3] at H
        have c3b0 : decide (x5_1 < (l0.length : Int)) = false := decide_eq_false c3
        clear c3
        obtain rfl := Option.some.inj H
        go_wp2
        go_ret
        exact ⟨by first | rfl | (simp; done) | (simp [*]; done), by repeat (first | exact Drawn0.refl _ | apply Drawn0.step)⟩

/-! ### laws_heldInt64SS: function 16 -/
def laws_heldInt64SS.l0 : Nat → List (List Int) → Int → Int → Option (Int)
  | 0, _, _, _ => none
  | k + 1, x0, x1, x5 => if x5 < (x0.length : Int) then (if 0 ≤ x5 then ((laws_heldInt64S.f k (rd_L1 x0 x5) x1).bind fun t306 => (if t306 < 0 then (some (-1)) else (laws_heldInt64SS.l0 k x0 t306 (wrap64 (x5 + 1))))) else (none)) else (some x1)
def laws_heldInt64SS.f (k : Nat) (l0 : List (List Int)) (a1 : Int) : Option (Int) := laws_heldInt64SS.l0 k l0 a1 0
theorem laws_heldInt64SS.mono_l : ∀ k, (∀ y0 y1 y2, LeO (laws_heldInt64SS.l0 k y0 y1 y2) (laws_heldInt64SS.l0 (k + 1) y0 y1 y2))
  | 0 => fun _ _ _ r h => by simp [laws_heldInt64SS.l0] at h
  | k + 1 => by
    have ih0 := laws_heldInt64SS.mono_l k
    · intro y0 y1 y2
      unfold laws_heldInt64SS.l0
      repeat' first
      | (with_reducible exact ih0 _ _ _)
      | (with_reducible exact laws_heldInt64S.mono _ _ _)
      | (with_reducible exact LeO.refl _)
      | (with_reducible exact LeO.none _)
      | (with_reducible refine LeO.ite ?_ ?_)
      | (with_reducible refine LeO.bind ?_ (fun _ => ?_))
      | exact ih0 _ _ _
      | exact laws_heldInt64S.mono _ _ _
      | exact LeO.none _
      | refine LeO.ite ?_ ?_
      | refine LeO.bind ?_ (fun _ => ?_)
theorem laws_heldInt64SS.mono : ∀ a0 a1 k, LeO (laws_heldInt64SS.f k a0 a1) (laws_heldInt64SS.f (k + 1) a0 a1) := by
  intro a0 a1 k
  have ih0 := laws_heldInt64SS.mono_l k
  unfold laws_heldInt64SS.f
  repeat' first
      | (with_reducible exact ih0 _ _ _)
      | (with_reducible exact laws_heldInt64S.mono _ _ _)
      | (with_reducible exact LeO.refl _)
      | (with_reducible exact LeO.none _)
      | (with_reducible refine LeO.ite ?_ ?_)
      | (with_reducible refine LeO.bind ?_ (fun _ => ?_))
      | exact ih0 _ _ _
      | exact laws_heldInt64S.mono _ _ _
      | exact LeO.none _
      | refine LeO.ite ?_ ?_
      | refine LeO.bind ?_ (fun _ => ?_)
set_option maxHeartbeats 8000000 in
set_option maxRecDepth 100000 in
theorem laws_heldInt64SS.calls (k : Nat) (A0 : Option Addr) (c0 : Nat) (l0 : List (List Int)) (a1 : Int) (r : Int) (w : World) (hr0 : Kd.C (Kd.slice 2 (Kd.int .i64)) w A0 l0.length l0) (hc0 : l0.length ≤ c0) (h : laws_heldInt64SS.f k l0 a1 = some r) :
    Calls Try.prog 16 #[.slice A0 l0.length c0, .int .i64 a1] w fun e w' => e = .returned (.int .i64 r) ∧ Drawn0 w w' := by
  have HR0 := Aside0.mk hr0
  have HC0 := Aside0.mk hc0
  clear hr0 hc0
  have H : (laws_heldInt64SS.l0 k l0 a1 0) = some r := h
  clear h
  have H' := Aside0.mk H
  clear H
  go_enter Try.func16, Try.ntmps16
  go_wp2
  go_loopg [1, 5] k (fun kq v1 v5 w' => ∃ (x1_1 : Int) (x5_1 : Int), v1 = .int .i64 x1_1 ∧ v5 = .int .i64 x5_1 ∧ Aside0 (laws_heldInt64SS.l0 kq l0 x1_1 x5_1 = some r) ∧ Aside0 (kq ≤ k) ∧ Drawn0 w w')
  case atStart => exact ⟨(a1), (0), (by first | rfl | (simp; done) | (simp [*]; done)), (by first | rfl | (simp; done) | (simp [*]; done)), H', ⟨Nat.le_refl _⟩, by repeat (first | exact Drawn0.refl _ | apply Drawn0.step)⟩
  case round =>
    clear H'
    try clear c1
    try clear p2
    obtain ⟨x1_1, x5_1, rfl, rfl, HA, HK1, ⟨m1, rfl⟩⟩ := hrel
    cases gk with
    | zero => exact absurd HA.out (by simp [laws_heldInt64SS.l0])
    | succ k1 =>
      have H := HA.out
      clear HA
      simp only [laws_heldInt64SS.l0] at H
      by_cases c3 : x5_1 < (l0.length : Int)
      · rw [if_pos c3] at H
        have c3b0 : decide (x5_1 < (l0.length : Int)) = true := decide_eq_true c3
        clear c3
        by_cases c4 : 0 ≤ x5_1
        · rw [if_pos c4] at H
          have c4b0 : decide (0 ≤ x5_1) = true := decide_eq_true c4
          clear c4
          replace H := Option.bind_eq_some_iff.mp H
          obtain ⟨t306, A50, H⟩ := H
          replace H : (if t306 < 0 then (some (-1)) else (laws_heldInt64SS.l0 k1 l0 t306 (wrap64 (x5_1 + 1)))) = some r := H
          have A5 := Aside0.mk A50
          clear A50
          by_cases c6 : t306 < 0
          · rw [if_pos c6] at H
            have c6b0 : decide (t306 < 0) = true := decide_eq_true c6
            clear c6
            obtain rfl := Option.some.inj H
            have p305 : 0 ≤ (x5_1 : Int) := of_decide_eq_true (by first | (with_reducible assumption) | assumption)
            have q305 : x5_1 < (l0.length : Int) := of_decide_eq_true (by first | (with_reducible assumption) | assumption)
            obtain ⟨ad305, A305_0, c305_0, e305, hx305_0, hl305_0, hi305_0⟩ := at_L1 HR0.out x5_1 p305 q305
            cases e305
            have HR305_0 := Aside0.mk hi305_0
            have HC305_0 := Aside0.mk hl305_0
            clear hi305_0 hl305_0
            replace p305 := eq_true p305
            replace q305 := eq_true q305
            go_wp2_with (first | ((with_reducible refine gate_callee (f := 47) rfl ?_); refine goesL_ (some 17) rfl rfl Try.func47 (by kernel_rfl) rfl #[.slice A305_0 (rd_L1 l0 x5_1).length c305_0, .int .i64 x1_1] rfl (by (try simp only [List.map_toArray, List.map_cons, List.map_nil]); first | done | rfl | (simp only [List.length_drop, List.length_take]; rfl)) ?_; (with_reducible refine (laws_heldInt64S.calls k1 _ _ (rd_L1 l0 x5_1) x1_1 t306 _ ?side1 ?side2 A5.out).mono ?_); (case side1 => repeat (first | exact HR305_0.out | (with_reducible refine Kd.C_alloc ?_ _) | (with_reducible refine Kd.C_drewN ?_ _) | (with_reducible refine Kd.C_drew ?_))); (case side2 => exact HC305_0.out); rintro e w' ⟨rfl, ⟨nd, rfl⟩⟩; refine ⟨_, rfl, ?_⟩))
            go_ret
            exact ⟨by first | rfl | (simp; done) | (simp [*]; done), by repeat (first | exact Drawn0.refl _ | apply Drawn0.step)⟩
          · rw [if_neg c6] at H
            have c6b0 : decide (t306 < 0) = false := decide_eq_false c6
            clear c6
            have H' := Aside0.mk H
            clear H
            have p305 : 0 ≤ (x5_1 : Int) := of_decide_eq_true (by first | (with_reducible assumption) | assumption)
            have q305 : x5_1 < (l0.length : Int) := of_decide_eq_true (by first | (with_reducible assumption) | assumption)
            obtain ⟨ad305, A305_0, c305_0, e305, hx305_0, hl305_0, hi305_0⟩ := at_L1 HR0.out x5_1 p305 q305
            cases e305
            have HR305_0 := Aside0.mk hi305_0
            have HC305_0 := Aside0.mk hl305_0
            clear hi305_0 hl305_0
            replace p305 := eq_true p305
            replace q305 := eq_true q305
            go_wp2_with (first | ((with_reducible refine gate_callee (f := 47) rfl ?_); refine goesL_ (some 17) rfl rfl Try.func47 (by kernel_rfl) rfl #[.slice A305_0 (rd_L1 l0 x5_1).length c305_0, .int .i64 x1_1] rfl (by (try simp only [List.map_toArray, List.map_cons, List.map_nil]); first | done | rfl | (simp only [List.length_drop, List.length_take]; rfl)) ?_; (with_reducible refine (laws_heldInt64S.calls k1 _ _ (rd_L1 l0 x5_1) x1_1 t306 _ ?side1 ?side2 A5.out).mono ?_); (case side1 => repeat (first | exact HR305_0.out | (with_reducible refine Kd.C_alloc ?_ _) | (with_reducible refine Kd.C_drewN ?_ _) | (with_reducible refine Kd.C_drew ?_))); (case side2 => exact HC305_0.out); rintro e w' ⟨rfl, ⟨nd, rfl⟩⟩; refine ⟨_, rfl, ?_⟩))
            go_roundg k1
            case measure => have := HK1.out; omega
            case rel => exact ⟨(t306), (wrap64 (x5_1 + 1)), (by first | rfl | (simp; done) | (simp [*]; done)), (by first | rfl | (simp; done) | (simp [*]; done)), H', ⟨by have := HK1.out; omega⟩, by repeat (first | exact Drawn0.refl _ | apply Drawn0.step)⟩
        · rw [if_neg c4] at H
          exact absurd H (by simp)
      · rw [if_neg c3] at H
        have c3b0 : decide (x5_1 < (l0.length : Int)) = false := decide_eq_false c3
        clear c3
        obtain rfl := Option.some.inj H
        go_wp2
        go_ret
        exact ⟨by first | rfl | (simp; done) | (simp [*]; done), by repeat (first | exact Drawn0.refl _ | apply Drawn0.step)⟩

/-! ### laws_FnExactRepresentationAt: function 3 -/
def laws_FnExactRepresentationAt.f (k : Nat) (a0_0 : Int) (l0_1 : List (List Int)) (a1 a2 : Int) : Option Bool :=
  (laws_szPresentation.f k a0_0 l0_1 1048576).bind fun z => if z < 0 then some true else
  (laws_toPresentation.f k a0_0 l0_1).bind fun p => (spec_RepresentationAt.f k p.1 p.2 a1 a2).bind fun s => (impl_RepresentationAt.f k p.1 p.2 a1 a2).bind fun r =>
  (laws_eqInt64SS.f k r.1 s.1).bind fun e1 => if e1 = true then (if r.2 = s.2 then
  (laws_eqPresentation.f k p.1 p.2 p.1 p.2).bind fun e2 => if e2 = true then
  (laws_markPresentation.f k p.1 p.2 1).bind fun m1 => if 0 ≤ m1.1 then
  (laws_markInt64SS.f k r.1 1).bind fun m2 => (laws_heldInt64SS.f k m2.2 1).bind fun h => if 0 ≤ h then (if h = m2.1 then some true
  else some false) else some false else some false else some false else some false) else some false
theorem laws_FnExactRepresentationAt.mono : ∀ a0_0 l0_1 a1 a2 k, LeO (laws_FnExactRepresentationAt.f k a0_0 l0_1 a1 a2) (laws_FnExactRepresentationAt.f (k + 1) a0_0 l0_1 a1 a2) := by
  intro a0_0 l0_1 a1 a2 k
  unfold laws_FnExactRepresentationAt.f
  exact LeO.bind (laws_szPresentation.mono _ _ _ _) fun _ => LeO.ite (LeO.refl _) (LeO.bind (laws_toPresentation.mono _ _ _) fun _ => LeO.bind (spec_RepresentationAt.mono _ _ _ _ _) fun _ => LeO.bind (impl_RepresentationAt.mono _ _ _ _ _) fun _ =>
    LeO.bind (laws_eqInt64SS.mono _ _ _) fun _ => LeO.ite (LeO.ite (LeO.bind (laws_eqPresentation.mono _ _ _ _ _) fun _ => LeO.ite (LeO.bind (laws_markPresentation.mono _ _ _ _) fun _ => LeO.ite (LeO.bind (laws_markInt64SS.mono _ _ _) fun _ => LeO.bind (laws_heldInt64SS.mono _ _ _) fun _ => LeO.refl _) (LeO.refl _)) (LeO.refl _)) (LeO.refl _)) (LeO.refl _))
theorem takeD {P : Program} {ops : Array Oper} {Q : Exit → Act → World → Prop} {md : Region.Mode} {S : World → Prop} {i : Nat} {oi : Oper} (d : Option Tmp) {v : Value} {fuel : Nat} {listed : Array Bool} {a : Act} {w : World} (hi : ops[i]? = some oi) (hd : oi.dst = d)
    (hs : Region.noSelect ops = true) (hf : Region.free md ops listed i = true) (hr : (Region.ready md ops listed).contains i = true)
    (hQ : ∀ c a w, Q (.panic c) (a.put d v) w → Q (.panic c) a w) (hy : YieldsIf P ops S oi v a) (hS : S w)
    (h : wpAnyH P md ops Q S fuel (listed.setIfInBounds i true) (a.put d v) w) : wpAnyH P md ops Q S (fuel + 1) listed a w := by
  subst hd
  exact wpAnyH_take hi hs hf hr hQ hy hS h
theorem if_true_ {c : Prop} [Decidable c] {x : Option Bool} (h : (if c then x else some false) = some true) : c ∧ x = some true := by
  by_cases hc : c
  · rw [if_pos hc] at h
    exact ⟨hc, h⟩
  · rw [if_neg hc] at h
    exact absurd h (by simp)
/-- Rows whose blocks all lie in a part of the heap. -/
def Seg (w W : World) (lo hi : Nat) (v : Value) (xs : List (List Int)) : Prop := Kd.S (Kd.slice 2 (Kd.int .i64)) 39 W w.heap.size (fun k_ => lo ≤ k_ ∧ k_ < hi) v xs
theorem Seg.new {w W W' : World} {v : Value} {xs : List (List Int)} (h : Kd.S (Kd.slice 2 (Kd.int .i64)) 39 W' W.heap.size (fun _ => True) v xs) (hw : w.heap.size ≤ W.heap.size) : Seg w W' W.heap.size W'.heap.size v xs :=
  Kd.S_mono (Kd.S_lower (Kd.S_bound h) hw) fun _ hk => ⟨hk.2.1, hk.2.2.1⟩
theorem Seg.below {w W W' : World} {lo hi : Nat} {v : Value} {xs : List (List Int)} (h : Seg w W lo hi v xs) (hb : Below W.heap.size W W') : Seg w W' lo hi v xs := Kd.S_below h hb
theorem Seg.kept {w W W' : World} {lo hi lo' hi' : Nat} {v : Value} {xs : List (List Int)} (h : Seg w W lo hi v xs) (hk : Kept W W' fun k_ => lo' ≤ k_ ∧ k_ < hi') (hd : hi ≤ lo' ∨ hi' ≤ lo) : Seg w W' lo hi v xs := Kd.S_kept h hk fun k h1 h2 => by omega
theorem Seg.reads {w W : World} {lo hi : Nat} {A : Option Addr} {n c : Nat} {xs : List (List Int)} (h : Seg w W lo hi (.slice A n c) xs) : n = xs.length ∧ n ≤ c ∧ (Kd.slice 2 (Kd.int .i64)).C W A xs.length xs := Kd.S_reads' h
/-- Rows whose blocks all lie in a part of the heap. -/
def SegR (w W : World) (lo hi : Nat) (v : Value) (xs : List Int) : Prop := Kd.R (Kd.int .i64) 2 W w.heap.size (fun k_ => lo ≤ k_ ∧ k_ < hi) v xs
theorem SegR.new {w W W' : World} {v : Value} {xs : List Int} (h : Kd.R (Kd.int .i64) 2 W' W.heap.size (fun _ => True) v xs) (hw : w.heap.size ≤ W.heap.size) : SegR w W' W.heap.size W'.heap.size v xs :=
  Kd.R_mono (Kd.R_lower (Kd.R_bound h) hw) fun _ hk => ⟨hk.2.1, hk.2.2.1⟩
theorem SegR.below {w W W' : World} {lo hi : Nat} {v : Value} {xs : List Int} (h : SegR w W lo hi v xs) (hb : Below W.heap.size W W') : SegR w W' lo hi v xs := Kd.R_below h hb
theorem SegR.kept {w W W' : World} {lo hi lo' hi' : Nat} {v : Value} {xs : List Int} (h : SegR w W lo hi v xs) (hk : Kept W W' fun k_ => lo' ≤ k_ ∧ k_ < hi') (hd : hi ≤ lo' ∨ hi' ≤ lo) : SegR w W' lo hi v xs := Kd.R_kept h hk fun k h1 h2 => by omega
theorem SegR.reads {w W : World} {lo hi : Nat} {A : Option Addr} {n c : Nat} {xs : List Int} (h : SegR w W lo hi (.slice A n c) xs) : n = xs.length ∧ n ≤ c ∧ (Kd.int .i64).C W A xs.length xs := Kd.R_reads' h
theorem drawn_below {W W' : World} (h : Drawn0 W W') : Below W.heap.size W W' := by
  obtain ⟨n, rfl⟩ := h
  exact pw_below_drewN (Below.refl _ W) n
theorem am2_ {P : Prop} (h : P) : Aside0 P := ⟨h⟩
/-- A row whose elements were written: it is called by the length that it had. -/
theorem heldAtS {f : FuncId} {W : World} {base n c : Nat} {ok : Nat → Prop} {A : Option Addr} {xs : List (List Int)} {a : Int} {Q : Ending → World → Prop} (hS : Kd.S (Kd.slice 2 (Kd.int .i64)) 39 W base ok (.slice A n c) xs)
    (h : (Kd.slice 2 (Kd.int .i64)).C W A xs.length xs → xs.length ≤ c → Calls Try.prog f #[.slice A xs.length c, .int .i64 a] W Q) : Calls Try.prog f #[.slice A n c, .int .i64 a] W Q := by
  obtain ⟨h1, h2, h3⟩ := Kd.S_reads' hS
  subst h1
  exact h h3 h2
/-- Rows whose blocks all lie in a part of the heap, and may be shared. -/
def SegN (w W : World) (lo hi : Nat) (v : Value) (xs : List (List Int)) : Prop := Kd.N (Kd.slice 2 (Kd.int .i64)) 39 W w.heap.size (fun k_ => lo ≤ k_ ∧ k_ < hi) v xs
theorem SegN.new {w W W' : World} {v : Value} {xs : List (List Int)} (h : Kd.N (Kd.slice 2 (Kd.int .i64)) 39 W' W.heap.size (fun k_ => W.heap.size ≤ k_) v xs) (hw : w.heap.size ≤ W.heap.size) : SegN w W' W.heap.size W'.heap.size v xs :=
  Kd.N_mono (Kd.N_lower (Kd.N_bound h) hw) fun _ hk => hk
theorem SegN.below {w W W' : World} {lo hi : Nat} {v : Value} {xs : List (List Int)} (h : SegN w W lo hi v xs) (hb : Below W.heap.size W W') : SegN w W' lo hi v xs := Kd.N_below h hb
theorem SegN.kept {w W W' : World} {lo hi lo' hi' : Nat} {v : Value} {xs : List (List Int)} (h : SegN w W lo hi v xs) (hk : Kept W W' fun k_ => lo' ≤ k_ ∧ k_ < hi') (hd : hi ≤ lo' ∨ hi' ≤ lo) : SegN w W' lo hi v xs := Kd.N_kept h hk fun k h1 h2 => by omega
theorem SegN.reads {w W : World} {lo hi : Nat} {A : Option Addr} {n c : Nat} {xs : List (List Int)} (h : SegN w W lo hi (.slice A n c) xs) : n = xs.length ∧ n ≤ c ∧ (Kd.slice 2 (Kd.int .i64)).C W A xs.length xs := Kd.N_reads' h
set_option maxHeartbeats 32000000 in
set_option maxRecDepth 100000 in
theorem laws_FnExactRepresentationAt.calls (k : Nat) (a0_0 : Int) (A1 : Option Addr) (c1 : Nat) (l1 : List (List Int)) (a1 a2 : Int) (r : Bool) (w : World) (hr1 : Kd.C (Kd.slice 2 (Kd.int .i64)) w A1 l1.length l1) (hc1 : l1.length ≤ c1) (h : laws_FnExactRepresentationAt.f k a0_0 l1 a1 a2 = some r) (HTRUE_ : Aside0 (r = true)) :
    Calls Try.prog 3 #[.agg #[.int .i64 a0_0, .slice A1 l1.length c1], .int .i64 a1, .int .i64 a2] w fun e w' => e = .returned (.bool r) ∧ Below w.heap.size w w' := by
  obtain rfl := HTRUE_.out
  clear HTRUE_
  have HR1 := Aside0.mk hr1
  have HC1 := Aside0.mk hc1
  clear hr1 hc1
  unfold laws_FnExactRepresentationAt.f at h
  obtain ⟨z, Z, h⟩ := Option.bind_eq_some_iff.mp h
  by_cases c0 : z < 0
  · have c0b : decide (z < 0) = true := decide_eq_true c0
    have F1 := Aside0.mk fun W (hW : Below w.heap.size w W) => laws_szPresentation.calls k a0_0 A1 c1 l1 1048576 z W (Kd.C_below HR1.out hW) HC1.out Z
    clear c0 h Z
    go_enter Try.func3, Try.ntmps3
    go_wp2_with (go_at_call 8; refine (F1.out _ (by repeat (first | exact Below.refl _ _ | apply below_alloc | apply pw_below_drewN))).mono ?_; rintro e w' ⟨rfl, hb⟩)
    go_ret
    exact ⟨rfl, below_then (below_alloc (Below.refl _ _) _) (below_size (below_alloc (Below.refl _ _) _)) hb⟩
  · have c0b : decide (z < 0) = false := decide_eq_false c0
    rw [if_neg c0] at h
    have hx_ := Option.bind_eq_some_iff.mp h
    clear h
    obtain ⟨⟨p1, p2⟩, B, h⟩ := hx_
    have hx_ := Option.bind_eq_some_iff.mp h
    clear h
    obtain ⟨⟨s1, s2⟩, S, h⟩ := hx_
    have hx_ := Option.bind_eq_some_iff.mp h
    clear h
    obtain ⟨⟨r1, r2⟩, R, h⟩ := hx_
    have hx_ := Option.bind_eq_some_iff.mp h
    clear h
    obtain ⟨e1, E1, h⟩ := hx_
    have hx_ := if_true_ h
    clear h
    obtain ⟨rfl, h⟩ := hx_
    have hx_ := if_true_ h
    clear h
    obtain ⟨hrs, h⟩ := hx_
    simp only at E1 hrs
    subst hrs
    have hx_ := Option.bind_eq_some_iff.mp h
    clear h
    obtain ⟨e2, E2, h⟩ := hx_
    have hx_ := if_true_ h
    clear h
    obtain ⟨rfl, h⟩ := hx_
    have hx_ := Option.bind_eq_some_iff.mp h
    clear h
    obtain ⟨⟨n1, b'⟩, M1, h⟩ := hx_
    have hx_ := if_true_ h
    clear h
    obtain ⟨hn1, h⟩ := hx_
    have hx_ := Option.bind_eq_some_iff.mp h
    clear h
    obtain ⟨⟨m2, r'⟩, M2, h⟩ := hx_
    have hx_ := Option.bind_eq_some_iff.mp h
    clear h
    obtain ⟨h1, G, h⟩ := hx_
    have hx_ := if_true_ h
    clear h
    obtain ⟨hh, h⟩ := hx_
    have hx_ := if_true_ h
    clear h
    obtain ⟨hz_, h⟩ := hx_
    simp only at S R E2 M1 hn1 M2 G hz_
    subst hz_
    have c1b : decide (n1 < 0) = false := decide_eq_false (by simpa using hn1)
    have c2b : decide (h1 < 0) = false := decide_eq_false (by simpa using hh)
    have F1 := Aside0.mk fun  (W : World) (hW : Below w.heap.size w W)  => laws_szPresentation.calls k a0_0 A1 c1 l1 1048576 z W (Kd.C_below HR1.out hW) HC1.out Z
    have F2 := Aside0.mk fun  (W : World) (hW : Below w.heap.size w W)  => laws_toPresentation.calls k a0_0 A1 c1 l1 p1 p2 W (Kd.C_below HR1.out hW) HC1.out B
    have F3 := Aside0.mk fun A1_ c1_ (W : World) (hW : Below w.heap.size w W) h1_ g1_ => spec_RepresentationAt.calls k p1 A1_ c1_ p2 a1 a2 s1 r2 W h1_ g1_ S
    have F4 := Aside0.mk fun  (W : World) (hW : Below w.heap.size w W)  => laws_toPresentation.calls k a0_0 A1 c1 l1 p1 p2 W (Kd.C_below HR1.out hW) HC1.out B
    have F5 := Aside0.mk fun A1_ c1_ (W : World) (hW : Below w.heap.size w W) h1_ g1_ => impl_RepresentationAt.calls k p1 A1_ c1_ p2 a1 a2 r1 r2 W h1_ g1_ R
    have F6 := Aside0.mk fun A0_ c0_ A1_ c1_ (W : World) (hW : Below w.heap.size w W) h0_ g0_ h1_ g1_ => laws_eqInt64SS.calls k A0_ c0_ r1 A1_ c1_ s1 true W h0_ g0_ h1_ g1_ E1
    have F7 := Aside0.mk fun  (W : World) (hW : Below w.heap.size w W)  => laws_toPresentation.calls k a0_0 A1 c1 l1 p1 p2 W (Kd.C_below HR1.out hW) HC1.out B
    have F8 := Aside0.mk fun A1_ c1_ A3_ c3_ (W : World) (hW : Below w.heap.size w W) h1_ g1_ h3_ g3_ => laws_eqPresentation.calls k p1 A1_ c1_ p2 p1 A3_ c3_ p2 true W h1_ g1_ h3_ g3_ E2
    have F9 := Aside0.mk fun P0_ u W hB ho => laws_markPresentation.calls k P0_ u p1 p2 1 n1 b' w W hB ho M1
    have F10 := Aside0.mk fun A0_ c0_ A1_ c1_ (W : World) (hW : Below w.heap.size w W) h0_ g0_ h1_ g1_ => laws_eqInt64SS.calls k A0_ c0_ r1 A1_ c1_ s1 true W h0_ g0_ h1_ g1_ E1
    have F11 := Aside0.mk fun P0_ u W hB ho => laws_markInt64SS.calls k P0_ u  r1 1 h1 r' w W hB ho M2
    have F12 := Aside0.mk fun A0_ c0_ (W : World) (hW : Below w.heap.size w W) h0_ g0_ => laws_heldInt64SS.calls k A0_ c0_ r' 1 h1 W h0_ g0_ G
    have F13 := Aside0.mk fun  (W : World) (hW : Below w.heap.size w W)  => laws_toPresentation.calls k a0_0 A1 c1 l1 p1 p2 W (Kd.C_below HR1.out hW) HC1.out B
    have F14 := Aside0.mk fun A1_ c1_ (W : World) (hW : Below w.heap.size w W) h1_ g1_ => impl_RepresentationAt.calls k p1 A1_ c1_ p2 a1 a2 r1 r2 W h1_ g1_ R
    have F15 := Aside0.mk fun A0_ c0_ A1_ c1_ (W : World) (hW : Below w.heap.size w W) h0_ g0_ h1_ g1_ => laws_eqInt64SS.calls k A0_ c0_ r1 A1_ c1_ s1 true W h0_ g0_ h1_ g1_ E1
    have F16 := Aside0.mk fun A0_ c0_ (W : World) (hW : Below w.heap.size w W) h0_ g0_ => laws_heldInt64SS.calls k A0_ c0_ r' 1 h1 W h0_ g0_ G
    clear c0 Z B S R E1 E2 M1 M2 G hn1 hh
    go_enter Try.func3, Try.ntmps3
    go_upto_region 1 with (fail)
    obtain ⟨W1, hW_⟩ : ∃ W_, W_ = w.alloc (.cells #[.int .i64 a0_0, .slice A1 l1.length c1] 24) := ⟨_, rfl⟩
    have hb : Below w.heap.size w W1 := by rw [hW_]; exact below_alloc (Below.refl _ _) _
    have hnew_ : W1.heap[w.heap.size]? = some (.cells #[.int .i64 a0_0, .slice A1 l1.length c1] 24 (0, 0)) := by rw [hW_]; exact heap_alloc_new w _
    have bpLT := am2_ (show w.heap.size < W1.heap.size by rw [hW_]; simp)
    have HB1 := am2_ hb
    have HL1 := am2_ (below_size hb)
    have bp := am2_ hnew_
    have qbp_0 : W1.cell? ⟨w.heap.size, 0, none⟩ = some (.int .i64 a0_0) := (blk_cell bp.out 0).trans rfl
    have qbp_1 : W1.cell? ⟨w.heap.size, 1, none⟩ = some (.slice A1 l1.length c1) := (blk_cell bp.out 1).trans rfl
    change Code.wp Try.prog _ _ _ (w.alloc (.cells #[.int .i64 a0_0, .slice A1 l1.length c1] 24))
    rw [← hW_]
    clear hW_ hb hnew_
    go_upto_region 7 with (first
      | (go_at_call 8; refine (F1.out  _ HB1.out ).mono ?_; rintro e W2 ⟨rfl, hb⟩; have HB2 := am2_ (below_then HB1.out (below_size HB1.out) hb); have HL2 := am2_ (below_size hb); have n_ := am2_ ((hb.block _ (blk_lt bp.out)).trans bp.out); clear bp; have bp := n_; clear n_; clear qbp_0 qbp_1; have qbp_0 : W2.cell? ⟨w.heap.size, 0, none⟩ = some (.int .i64 a0_0) := (blk_cell bp.out 0).trans rfl; have qbp_1 : W2.cell? ⟨w.heap.size, 1, none⟩ = some (.slice A1 l1.length c1) := (blk_cell bp.out 1).trans rfl; clear F1  hb  )
      | (go_at_call 10; refine (F2.out  _ HB2.out ).mono ?_; rintro e W3 ⟨v3_0, rfl, hS0, hb⟩; have HB3 := am2_ (below_then HB2.out (below_size HB2.out) hb); have HL3 := am2_ (below_size hb); have n_ := am2_ ((hb.block _ (blk_lt bp.out)).trans bp.out); clear bp; have bp := n_; clear n_; clear qbp_0 qbp_1; have qbp_0 : W3.cell? ⟨w.heap.size, 0, none⟩ = some (.int .i64 a0_0) := (blk_cell bp.out 0).trans rfl; have qbp_1 : W3.cell? ⟨w.heap.size, 1, none⟩ = some (.slice A1 l1.length c1) := (blk_cell bp.out 1).trans rfl; have X1 := am2_ (Seg.new hS0 (below_size HB2.out)); obtain ⟨A3_0, d3_0, e3_0⟩ := Kd.S_slice hS0; subst e3_0; clear F2 hS0 hb  )
      | (go_at_call 9; refine (F3.out _ _ _ HB3.out X1.out.reads.2.2 X1.out.reads.2.1).mono ?_; rintro e W4 ⟨v4_0, rfl, hS0, hb⟩; have HB4 := am2_ (below_then HB3.out (below_size HB3.out) hb); have HL4 := am2_ (below_size hb); have n_ := am2_ ((hb.block _ (blk_lt bp.out)).trans bp.out); clear bp; have bp := n_; clear n_; clear qbp_0 qbp_1; have qbp_0 : W4.cell? ⟨w.heap.size, 0, none⟩ = some (.int .i64 a0_0) := (blk_cell bp.out 0).trans rfl; have qbp_1 : W4.cell? ⟨w.heap.size, 1, none⟩ = some (.slice A1 l1.length c1) := (blk_cell bp.out 1).trans rfl; have XS := am2_ (SegN.new hS0 (below_size HB3.out)); obtain ⟨A4_0, d4_0, e4_0⟩ := Kd.N_slice hS0; subst e4_0; clear F3 hS0 hb  X1)
      | (go_at_call 10; refine (F4.out  _ HB4.out ).mono ?_; rintro e W5 ⟨v5_0, rfl, hS0, hb⟩; have HB5 := am2_ (below_then HB4.out (below_size HB4.out) hb); have HL5 := am2_ (below_size hb); have n_ := am2_ (XS.out.below hb); clear XS; have XS := n_; clear n_; have n_ := am2_ ((hb.block _ (blk_lt bp.out)).trans bp.out); clear bp; have bp := n_; clear n_; clear qbp_0 qbp_1; have qbp_0 : W5.cell? ⟨w.heap.size, 0, none⟩ = some (.int .i64 a0_0) := (blk_cell bp.out 0).trans rfl; have qbp_1 : W5.cell? ⟨w.heap.size, 1, none⟩ = some (.slice A1 l1.length c1) := (blk_cell bp.out 1).trans rfl; have XB := am2_ (Seg.new hS0 (below_size HB4.out)); obtain ⟨A5_0, d5_0, e5_0⟩ := Kd.S_slice hS0; subst e5_0; clear F4 hS0 hb  ))
    obtain ⟨W6, hW_⟩ : ∃ W_, W_ = W5.alloc (.cells #[.int .i64 p1, .slice A5_0 p2.length d5_0] 28) := ⟨_, rfl⟩
    have hb : Below W5.heap.size W5 W6 := by rw [hW_]; exact below_alloc (Below.refl _ _) _
    have hnew_ : W6.heap[W5.heap.size]? = some (.cells #[.int .i64 p1, .slice A5_0 p2.length d5_0] 28 (0, 0)) := by rw [hW_]; exact heap_alloc_new W5 _
    have bxLT := am2_ (show W5.heap.size < W6.heap.size by rw [hW_]; simp)
    have HB6 := am2_ (below_then HB5.out (below_size HB5.out) hb)
    have HL6 := am2_ (below_size hb)
    have n_ := am2_ (XS.out.below hb)
    clear XS
    have XS := n_
    clear n_
    have n_ := am2_ (XB.out.below hb)
    clear XB
    have XB := n_
    clear n_
    have n_ := am2_ ((hb.block _ (blk_lt bp.out)).trans bp.out)
    clear bp
    have bp := n_
    clear n_
    clear qbp_0 qbp_1
    have qbp_0 : W6.cell? ⟨w.heap.size, 0, none⟩ = some (.int .i64 a0_0) := (blk_cell bp.out 0).trans rfl
    have qbp_1 : W6.cell? ⟨w.heap.size, 1, none⟩ = some (.slice A1 l1.length c1) := (blk_cell bp.out 1).trans rfl
    have bx := am2_ hnew_
    have qbx_0 : W6.cell? ⟨W5.heap.size, 0, none⟩ = some (.int .i64 p1) := (blk_cell bx.out 0).trans rfl
    have qbx_1 : W6.cell? ⟨W5.heap.size, 1, none⟩ = some (.slice A5_0 p2.length d5_0) := (blk_cell bx.out 1).trans rfl
    change Code.wp Try.prog _ _ _ (W5.alloc (.cells #[.int .i64 p1, .slice A5_0 p2.length d5_0] 28))
    rw [← hW_]
    clear hW_ hb hnew_
    go_upto_region 10 with (first
      | (go_at_call 11; refine (F5.out _ _ _ HB6.out XB.out.reads.2.2 XB.out.reads.2.1).mono ?_; rintro e W7 ⟨v7_0, rfl, hS0, hb⟩; have HB7 := am2_ (below_then HB6.out (below_size HB6.out) hb); have HL7 := am2_ (below_size hb); have n_ := am2_ (XS.out.below hb); clear XS; have XS := n_; clear n_; have n_ := am2_ (XB.out.below hb); clear XB; have XB := n_; clear n_; have n_ := am2_ ((hb.block _ (blk_lt bp.out)).trans bp.out); clear bp; have bp := n_; clear n_; clear qbp_0 qbp_1; have qbp_0 : W7.cell? ⟨w.heap.size, 0, none⟩ = some (.int .i64 a0_0) := (blk_cell bp.out 0).trans rfl; have qbp_1 : W7.cell? ⟨w.heap.size, 1, none⟩ = some (.slice A1 l1.length c1) := (blk_cell bp.out 1).trans rfl; have n_ := am2_ ((hb.block _ (blk_lt bx.out)).trans bx.out); clear bx; have bx := n_; clear n_; clear qbx_0 qbx_1; have qbx_0 : W7.cell? ⟨W5.heap.size, 0, none⟩ = some (.int .i64 p1) := (blk_cell bx.out 0).trans rfl; have qbx_1 : W7.cell? ⟨W5.heap.size, 1, none⟩ = some (.slice A5_0 p2.length d5_0) := (blk_cell bx.out 1).trans rfl; have XR := am2_ (Seg.new hS0 (below_size HB6.out)); obtain ⟨A7_0, d7_0, e7_0⟩ := Kd.S_slice hS0; subst e7_0; clear F5 hS0 hb  )
      | (go_at_call 12; refine (F6.out _ _ _ _ _ HB7.out XR.out.reads.2.2 XR.out.reads.2.1 XS.out.reads.2.2 XS.out.reads.2.1).mono ?_; rintro e W8 ⟨rfl, hd⟩; have hb := drawn_below hd; have HB8 := am2_ (below_then HB7.out (below_size HB7.out) hb); have HL8 := am2_ (below_size hb); have n_ := am2_ (XS.out.below hb); clear XS; have XS := n_; clear n_; have n_ := am2_ (XB.out.below hb); clear XB; have XB := n_; clear n_; have n_ := am2_ (XR.out.below hb); clear XR; have XR := n_; clear n_; have n_ := am2_ ((hb.block _ (blk_lt bp.out)).trans bp.out); clear bp; have bp := n_; clear n_; clear qbp_0 qbp_1; have qbp_0 : W8.cell? ⟨w.heap.size, 0, none⟩ = some (.int .i64 a0_0) := (blk_cell bp.out 0).trans rfl; have qbp_1 : W8.cell? ⟨w.heap.size, 1, none⟩ = some (.slice A1 l1.length c1) := (blk_cell bp.out 1).trans rfl; have n_ := am2_ ((hb.block _ (blk_lt bx.out)).trans bx.out); clear bx; have bx := n_; clear n_; clear qbx_0 qbx_1; have qbx_0 : W8.cell? ⟨W5.heap.size, 0, none⟩ = some (.int .i64 p1) := (blk_cell bx.out 0).trans rfl; have qbx_1 : W8.cell? ⟨W5.heap.size, 1, none⟩ = some (.slice A5_0 p2.length d5_0) := (blk_cell bx.out 1).trans rfl; clear F6  hb hd ))
    refine wp_region_held_drew (S := (fun w' => w'.cell? ⟨w.heap.size, 0, none⟩ = some (.int .i64 a0_0) ∧ w'.cell? ⟨w.heap.size, 1, none⟩ = some (.slice A1 l1.length c1) ∧ w'.cell? ⟨W5.heap.size, 0, none⟩ = some (.int .i64 p1) ∧ w'.cell? ⟨W5.heap.size, 1, none⟩ = some (.slice A5_0 p2.length d5_0))) (by kernel_rfl) ?r10__s (fun hHeld => ?r10__0)
    case r10__s => exact ⟨qbp_0, qbp_1, qbx_0, qbx_1⟩
    case r10__0 =>
    obtain ⟨W9, hW_⟩ : ∃ W_, W_ = W8.drew := ⟨_, rfl⟩
    have hb : Below W8.heap.size W8 W9 := by rw [hW_]; exact below_drew1 (Below.refl _ _)
    have HB9 := am2_ (below_then HB8.out (below_size HB8.out) hb)
    have HL9 := am2_ (below_size hb)
    have n_ := am2_ (XS.out.below hb)
    clear XS
    have XS := n_
    clear n_
    have n_ := am2_ (XB.out.below hb)
    clear XB
    have XB := n_
    clear n_
    have n_ := am2_ (XR.out.below hb)
    clear XR
    have XR := n_
    clear n_
    have n_ := am2_ ((hb.block _ (blk_lt bp.out)).trans bp.out)
    clear bp
    have bp := n_
    clear n_
    clear qbp_0 qbp_1
    have qbp_0 : W9.cell? ⟨w.heap.size, 0, none⟩ = some (.int .i64 a0_0) := (blk_cell bp.out 0).trans rfl
    have qbp_1 : W9.cell? ⟨w.heap.size, 1, none⟩ = some (.slice A1 l1.length c1) := (blk_cell bp.out 1).trans rfl
    have n_ := am2_ ((hb.block _ (blk_lt bx.out)).trans bx.out)
    clear bx
    have bx := n_
    clear n_
    clear qbx_0 qbx_1
    have qbx_0 : W9.cell? ⟨W5.heap.size, 0, none⟩ = some (.int .i64 p1) := (blk_cell bx.out 0).trans rfl
    have qbx_1 : W9.cell? ⟨W5.heap.size, 1, none⟩ = some (.slice A5_0 p2.length d5_0) := (blk_cell bx.out 1).trans rfl
    rw [← hW_] at hHeld ⊢
    clear hW_ hb
    refine takeD (i := 0) (some 49) (v := ?r10_1_v) rfl rfl (by kernel_rfl) (by kernel_rfl) (by kernel_rfl) (fun _ _ _ h => h) (Or.inl ⟨by rfl, ?r10_1_y⟩) hHeld ?r10_1_n
    case r10_1_y => intro w_ hS_; (try dsimp only at hS_); go_simp; try (with_reducible rfl)
    simp only [Act.put, List.setIfInBounds_toArray, List.set_cons_zero, List.set_cons_succ]
    refine takeD (i := 1) (some 50) (v := ?r10_2_v) rfl rfl (by kernel_rfl) (by kernel_rfl) (by kernel_rfl) (fun _ _ _ h => h) (Or.inl ⟨by rfl, ?r10_2_y⟩) hHeld ?r10_2_n
    case r10_2_y => intro w_ hS_; (try dsimp only at hS_); go_simp; try (with_reducible rfl)
    simp only [Act.put, List.setIfInBounds_toArray, List.set_cons_zero, List.set_cons_succ]
    refine wpAnyH_ready (rs := [2]) (by kernel_rfl) (by simp) ?_
    refine AllReadyH.cons rfl (fun K hK => ?_) AllReadyH.nil
    go_simp
    (go_at_call 10; refine (F7.out  _ HB9.out ).mono ?_; rintro e W10 ⟨v10_0, rfl, hS0, hb⟩; have HB10 := am2_ (below_then HB9.out (below_size HB9.out) hb); have HL10 := am2_ (below_size hb); have n_ := am2_ (XS.out.below hb); clear XS; have XS := n_; clear n_; have n_ := am2_ (XB.out.below hb); clear XB; have XB := n_; clear n_; have n_ := am2_ (XR.out.below hb); clear XR; have XR := n_; clear n_; have n_ := am2_ ((hb.block _ (blk_lt bp.out)).trans bp.out); clear bp; have bp := n_; clear n_; clear qbp_0 qbp_1; have qbp_0 : W10.cell? ⟨w.heap.size, 0, none⟩ = some (.int .i64 a0_0) := (blk_cell bp.out 0).trans rfl; have qbp_1 : W10.cell? ⟨w.heap.size, 1, none⟩ = some (.slice A1 l1.length c1) := (blk_cell bp.out 1).trans rfl; have n_ := am2_ ((hb.block _ (blk_lt bx.out)).trans bx.out); clear bx; have bx := n_; clear n_; clear qbx_0 qbx_1; have qbx_0 : W10.cell? ⟨W5.heap.size, 0, none⟩ = some (.int .i64 p1) := (blk_cell bx.out 0).trans rfl; have qbx_1 : W10.cell? ⟨W5.heap.size, 1, none⟩ = some (.slice A5_0 p2.length d5_0) := (blk_cell bx.out 1).trans rfl; have XC := am2_ (Seg.new hS0 (below_size HB9.out)); obtain ⟨A10_0, d10_0, e10_0⟩ := Kd.S_slice hS0; subst e10_0; clear F7 hS0 hb  )
    refine hK.out _ _ ?r10_3_s (fun hHeld2 => ?r10_3_n)
    case r10_3_s => (try dsimp only); exact ⟨qbp_0, qbp_1, qbx_0, qbx_1⟩
    clear hK K hHeld; have hHeld := hHeld2; clear hHeld2
    refine wpAnyH_ready (rs := [3]) (by kernel_rfl) (by simp) ?_
    refine AllReadyH.cons rfl (fun K hK => ?_) AllReadyH.nil
    go_simp
    (go_at_call 13; refine (F8.out _ _ _ _ _ HB10.out XB.out.reads.2.2 XB.out.reads.2.1 XC.out.reads.2.2 XC.out.reads.2.1).mono ?_; rintro e W11 ⟨rfl, hb⟩; have HB11 := am2_ (below_then HB10.out (below_size HB10.out) hb); have HL11 := am2_ (below_size hb); have n_ := am2_ (XS.out.below hb); clear XS; have XS := n_; clear n_; have n_ := am2_ (XB.out.below hb); clear XB; have XB := n_; clear n_; have n_ := am2_ (XR.out.below hb); clear XR; have XR := n_; clear n_; have n_ := am2_ ((hb.block _ (blk_lt bp.out)).trans bp.out); clear bp; have bp := n_; clear n_; clear qbp_0 qbp_1; have qbp_0 : W11.cell? ⟨w.heap.size, 0, none⟩ = some (.int .i64 a0_0) := (blk_cell bp.out 0).trans rfl; have qbp_1 : W11.cell? ⟨w.heap.size, 1, none⟩ = some (.slice A1 l1.length c1) := (blk_cell bp.out 1).trans rfl; have n_ := am2_ ((hb.block _ (blk_lt bx.out)).trans bx.out); clear bx; have bx := n_; clear n_; clear qbx_0 qbx_1; have qbx_0 : W11.cell? ⟨W5.heap.size, 0, none⟩ = some (.int .i64 p1) := (blk_cell bx.out 0).trans rfl; have qbx_1 : W11.cell? ⟨W5.heap.size, 1, none⟩ = some (.slice A5_0 p2.length d5_0) := (blk_cell bx.out 1).trans rfl; clear F8  hb  XC)
    refine hK.out _ _ ?r10_4_s (fun hHeld2 => ?r10_4_n)
    case r10_4_s => (try dsimp only); exact ⟨qbp_0, qbp_1, qbx_0, qbx_1⟩
    clear hK K hHeld; have hHeld := hHeld2; clear hHeld2
    refine takeD (i := 4) (some 53) (v := ?r10_5_v) rfl rfl (by kernel_rfl) (by kernel_rfl) (by kernel_rfl) (fun _ _ _ h => h) (Or.inl ⟨by rfl, ?r10_5_y⟩) hHeld ?r10_5_n
    case r10_5_y => intro w_ hS_; (try dsimp only at hS_); go_simp; try (with_reducible rfl)
    simp only [Act.put, List.setIfInBounds_toArray, List.set_cons_zero, List.set_cons_succ]
    refine wpAnyH_done (by kernel_rfl) ?_ _
    go_wp2_with (first
      | (go_at_call 14; refine (F9.out (fun k_ => W4.heap.size ≤ k_ ∧ k_ < W5.heap.size) _ _ HB11.out XB.out).mono ?_; rintro e W12 ⟨rfl, hS, hB2, hK⟩; have HB12 := am2_ hB2; have HL12 := am2_ hK.1; have n_ := am2_ (XS.out.kept hK (.inl (Nat.le_refl _))); clear XS; have XS := n_; clear n_; have n_ := am2_ (XR.out.kept hK (.inr HL6.out)); clear XR; have XR := n_; clear n_; have n_ := am2_ ((hK.2 _ (blk_lt bp.out) (fun h => absurd h.1 (Nat.not_le.2 (Nat.lt_of_lt_of_le bpLT.out (Nat.le_trans (Nat.le_trans HL2.out HL3.out) HL4.out))))).trans bp.out); clear bp; have bp := n_; clear n_; clear qbp_0 qbp_1; have qbp_0 : W12.cell? ⟨w.heap.size, 0, none⟩ = some (.int .i64 a0_0) := (blk_cell bp.out 0).trans rfl; have qbp_1 : W12.cell? ⟨w.heap.size, 1, none⟩ = some (.slice A1 l1.length c1) := (blk_cell bp.out 1).trans rfl; have n_ := am2_ ((hK.2 _ (blk_lt bx.out) (fun h => absurd h.2 (Nat.not_lt.2 (Nat.le_refl _)))).trans bx.out); clear bx; have bx := n_; clear n_; clear qbx_0 qbx_1; have qbx_0 : W12.cell? ⟨W5.heap.size, 0, none⟩ = some (.int .i64 p1) := (blk_cell bx.out 0).trans rfl; have qbx_1 : W12.cell? ⟨W5.heap.size, 1, none⟩ = some (.slice A5_0 p2.length d5_0) := (blk_cell bx.out 1).trans rfl; clear F9 hS hB2 hK XB)
      | (go_at_call 12; refine (F10.out _ _ _ _ _ HB12.out XR.out.reads.2.2 XR.out.reads.2.1 XS.out.reads.2.2 XS.out.reads.2.1).mono ?_; rintro e W13 ⟨rfl, hd⟩; have hb := drawn_below hd; have HB13 := am2_ (below_then HB12.out (below_size HB12.out) hb); have HL13 := am2_ (below_size hb); have n_ := am2_ (XS.out.below hb); clear XS; have XS := n_; clear n_; have n_ := am2_ (XR.out.below hb); clear XR; have XR := n_; clear n_; have n_ := am2_ ((hb.block _ (blk_lt bp.out)).trans bp.out); clear bp; have bp := n_; clear n_; clear qbp_0 qbp_1; have qbp_0 : W13.cell? ⟨w.heap.size, 0, none⟩ = some (.int .i64 a0_0) := (blk_cell bp.out 0).trans rfl; have qbp_1 : W13.cell? ⟨w.heap.size, 1, none⟩ = some (.slice A1 l1.length c1) := (blk_cell bp.out 1).trans rfl; have n_ := am2_ ((hb.block _ (blk_lt bx.out)).trans bx.out); clear bx; have bx := n_; clear n_; clear qbx_0 qbx_1; have qbx_0 : W13.cell? ⟨W5.heap.size, 0, none⟩ = some (.int .i64 p1) := (blk_cell bx.out 0).trans rfl; have qbx_1 : W13.cell? ⟨W5.heap.size, 1, none⟩ = some (.slice A5_0 p2.length d5_0) := (blk_cell bx.out 1).trans rfl; clear F10  hb hd )
      | (go_at_call 15; refine (F11.out (fun k_ => W6.heap.size ≤ k_ ∧ k_ < W7.heap.size) _ _ HB13.out XR.out).mono ?_; rintro e W14 ⟨rfl, hS, hB2, hK⟩; have HB14 := am2_ hB2; have HL14 := am2_ hK.1; have n_ := am2_ (XS.out.kept hK (.inl (Nat.le_trans HL5.out HL6.out))); clear XS; have XS := n_; clear n_; have n_ := am2_ ((hK.2 _ (blk_lt bp.out) (fun h => absurd h.1 (Nat.not_le.2 (Nat.lt_of_lt_of_le bpLT.out (Nat.le_trans (Nat.le_trans (Nat.le_trans (Nat.le_trans HL2.out HL3.out) HL4.out) HL5.out) HL6.out))))).trans bp.out); clear bp; have bp := n_; clear n_; clear qbp_0 qbp_1; have qbp_0 : W14.cell? ⟨w.heap.size, 0, none⟩ = some (.int .i64 a0_0) := (blk_cell bp.out 0).trans rfl; have qbp_1 : W14.cell? ⟨w.heap.size, 1, none⟩ = some (.slice A1 l1.length c1) := (blk_cell bp.out 1).trans rfl; have n_ := am2_ ((hK.2 _ (blk_lt bx.out) (fun h => absurd h.1 (Nat.not_le.2 (Nat.lt_of_lt_of_le bxLT.out (Nat.le_refl _))))).trans bx.out); clear bx; have bx := n_; clear n_; clear qbx_0 qbx_1; have qbx_0 : W14.cell? ⟨W5.heap.size, 0, none⟩ = some (.int .i64 p1) := (blk_cell bx.out 0).trans rfl; have qbx_1 : W14.cell? ⟨W5.heap.size, 1, none⟩ = some (.slice A5_0 p2.length d5_0) := (blk_cell bx.out 1).trans rfl; have YXR := am2_ hS; clear F11 hS hB2 hK XR)
      | (go_at_call 16; refine (heldAtS YXR.out fun h2_ h3_ => F12.out _ _ _ HB14.out h2_ h3_).mono ?_; rintro e W15 ⟨rfl, hd⟩; have hb := drawn_below hd; have HB15 := am2_ (below_then HB14.out (below_size HB14.out) hb); have HL15 := am2_ (below_size hb); have n_ := am2_ (XS.out.below hb); clear XS; have XS := n_; clear n_; have n_ := am2_ (Kd.S_below YXR.out hb); clear YXR; have YXR := n_; clear n_; have n_ := am2_ ((hb.block _ (blk_lt bp.out)).trans bp.out); clear bp; have bp := n_; clear n_; clear qbp_0 qbp_1; have qbp_0 : W15.cell? ⟨w.heap.size, 0, none⟩ = some (.int .i64 a0_0) := (blk_cell bp.out 0).trans rfl; have qbp_1 : W15.cell? ⟨w.heap.size, 1, none⟩ = some (.slice A1 l1.length c1) := (blk_cell bp.out 1).trans rfl; have n_ := am2_ ((hb.block _ (blk_lt bx.out)).trans bx.out); clear bx; have bx := n_; clear n_; clear qbx_0 qbx_1; have qbx_0 : W15.cell? ⟨W5.heap.size, 0, none⟩ = some (.int .i64 p1) := (blk_cell bx.out 0).trans rfl; have qbx_1 : W15.cell? ⟨W5.heap.size, 1, none⟩ = some (.slice A5_0 p2.length d5_0) := (blk_cell bx.out 1).trans rfl; clear F12  hb hd )
      | (go_at_call 10; refine (F13.out  _ HB15.out ).mono ?_; rintro e W16 ⟨v16_0, rfl, hS0, hb⟩; have HB16 := am2_ (below_then HB15.out (below_size HB15.out) hb); have HL16 := am2_ (below_size hb); have n_ := am2_ (XS.out.below hb); clear XS; have XS := n_; clear n_; have n_ := am2_ (Kd.S_below YXR.out hb); clear YXR; have YXR := n_; clear n_; have n_ := am2_ ((hb.block _ (blk_lt bp.out)).trans bp.out); clear bp; have bp := n_; clear n_; clear qbp_0 qbp_1; have qbp_0 : W16.cell? ⟨w.heap.size, 0, none⟩ = some (.int .i64 a0_0) := (blk_cell bp.out 0).trans rfl; have qbp_1 : W16.cell? ⟨w.heap.size, 1, none⟩ = some (.slice A1 l1.length c1) := (blk_cell bp.out 1).trans rfl; have n_ := am2_ ((hb.block _ (blk_lt bx.out)).trans bx.out); clear bx; have bx := n_; clear n_; clear qbx_0 qbx_1; have qbx_0 : W16.cell? ⟨W5.heap.size, 0, none⟩ = some (.int .i64 p1) := (blk_cell bx.out 0).trans rfl; have qbx_1 : W16.cell? ⟨W5.heap.size, 1, none⟩ = some (.slice A5_0 p2.length d5_0) := (blk_cell bx.out 1).trans rfl; have XE := am2_ (Seg.new hS0 (below_size HB15.out)); obtain ⟨A16_0, d16_0, e16_0⟩ := Kd.S_slice hS0; subst e16_0; clear F13 hS0 hb  )
      | (go_at_call 11; refine (F14.out _ _ _ HB16.out XE.out.reads.2.2 XE.out.reads.2.1).mono ?_; rintro e W17 ⟨v17_0, rfl, hS0, hb⟩; have HB17 := am2_ (below_then HB16.out (below_size HB16.out) hb); have HL17 := am2_ (below_size hb); have n_ := am2_ (XS.out.below hb); clear XS; have XS := n_; clear n_; have n_ := am2_ (Kd.S_below YXR.out hb); clear YXR; have YXR := n_; clear n_; have n_ := am2_ ((hb.block _ (blk_lt bp.out)).trans bp.out); clear bp; have bp := n_; clear n_; clear qbp_0 qbp_1; have qbp_0 : W17.cell? ⟨w.heap.size, 0, none⟩ = some (.int .i64 a0_0) := (blk_cell bp.out 0).trans rfl; have qbp_1 : W17.cell? ⟨w.heap.size, 1, none⟩ = some (.slice A1 l1.length c1) := (blk_cell bp.out 1).trans rfl; have n_ := am2_ ((hb.block _ (blk_lt bx.out)).trans bx.out); clear bx; have bx := n_; clear n_; clear qbx_0 qbx_1; have qbx_0 : W17.cell? ⟨W5.heap.size, 0, none⟩ = some (.int .i64 p1) := (blk_cell bx.out 0).trans rfl; have qbx_1 : W17.cell? ⟨W5.heap.size, 1, none⟩ = some (.slice A5_0 p2.length d5_0) := (blk_cell bx.out 1).trans rfl; have XG := am2_ (Seg.new hS0 (below_size HB16.out)); obtain ⟨A17_0, d17_0, e17_0⟩ := Kd.S_slice hS0; subst e17_0; clear F14 hS0 hb  XE)
      | (go_at_call 12; refine (F15.out _ _ _ _ _ HB17.out XG.out.reads.2.2 XG.out.reads.2.1 XS.out.reads.2.2 XS.out.reads.2.1).mono ?_; rintro e W18 ⟨rfl, hd⟩; have hb := drawn_below hd; have HB18 := am2_ (below_then HB17.out (below_size HB17.out) hb); have HL18 := am2_ (below_size hb); have n_ := am2_ (Kd.S_below YXR.out hb); clear YXR; have YXR := n_; clear n_; have n_ := am2_ ((hb.block _ (blk_lt bp.out)).trans bp.out); clear bp; have bp := n_; clear n_; clear qbp_0 qbp_1; have qbp_0 : W18.cell? ⟨w.heap.size, 0, none⟩ = some (.int .i64 a0_0) := (blk_cell bp.out 0).trans rfl; have qbp_1 : W18.cell? ⟨w.heap.size, 1, none⟩ = some (.slice A1 l1.length c1) := (blk_cell bp.out 1).trans rfl; have n_ := am2_ ((hb.block _ (blk_lt bx.out)).trans bx.out); clear bx; have bx := n_; clear n_; clear qbx_0 qbx_1; have qbx_0 : W18.cell? ⟨W5.heap.size, 0, none⟩ = some (.int .i64 p1) := (blk_cell bx.out 0).trans rfl; have qbx_1 : W18.cell? ⟨W5.heap.size, 1, none⟩ = some (.slice A5_0 p2.length d5_0) := (blk_cell bx.out 1).trans rfl; clear F15  hb hd XG XS)
      | (go_at_call 16; refine (heldAtS YXR.out fun h2_ h3_ => F16.out _ _ _ HB18.out h2_ h3_).mono ?_; rintro e W19 ⟨rfl, hd⟩; have hb := drawn_below hd; have HB19 := am2_ (below_then HB18.out (below_size HB18.out) hb); have HL19 := am2_ (below_size hb); have n_ := am2_ ((hb.block _ (blk_lt bp.out)).trans bp.out); clear bp; have bp := n_; clear n_; clear qbp_0 qbp_1; have qbp_0 : W19.cell? ⟨w.heap.size, 0, none⟩ = some (.int .i64 a0_0) := (blk_cell bp.out 0).trans rfl; have qbp_1 : W19.cell? ⟨w.heap.size, 1, none⟩ = some (.slice A1 l1.length c1) := (blk_cell bp.out 1).trans rfl; have n_ := am2_ ((hb.block _ (blk_lt bx.out)).trans bx.out); clear bx; have bx := n_; clear n_; clear qbx_0 qbx_1; have qbx_0 : W19.cell? ⟨W5.heap.size, 0, none⟩ = some (.int .i64 p1) := (blk_cell bx.out 0).trans rfl; have qbx_1 : W19.cell? ⟨W5.heap.size, 1, none⟩ = some (.slice A5_0 p2.length d5_0) := (blk_cell bx.out 1).trans rfl; clear F16  hb hd YXR))
    go_ret
    exact ⟨rfl, HB19.out⟩

end Go.Proofs.Ytbcdngjajjgmkaa.PFnExactRepresentationAt
