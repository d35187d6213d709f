/- Written by this session's program out of the kit's print and this session's contracts. -/
import Derived.Test.YtbcdngjajjgmkaaVFnExactStabilizerPresentationPx0
import Derived.Test.YtbcdngjajjgmkaaVFnExactStabilizerPresentationPx1
import Derived.Test.YtbcdngjajjgmkaaVFnExactStabilizerPresentationPx2
import Derived.Test.YtbcdngjajjgmkaaVFnExactStabilizerPresentationPx9
import Derived.Test.YtbcdngjajjgmkaaVFnExactStabilizerPresentationPx15
namespace Go.Proofs.Ytbcdngjajjgmkaa.PFnExactStabilizerPresentation
open Go.RowKit Go.Proofs.YtbcdngjajjgmkaaW.PrintWords Go.Proofs.YtbcdngjajjgmkaaW.PrintLast Go.Proofs.YtbcdngjajjgmkaaW.PrintMore
attribute [local go_sem] max2_int min2_int max_two min_two max_three min_three max_four min_four   -- for this text's walks alone
set_option linter.unusedVariables false
set_option linter.unusedSimpArgs false

/-! ### laws_heldInt64SS: function 16 -/
def laws_heldInt64SS.l0 : Nat → List (List Int) → Int → Int → Option (Int)
  | 0, _, _, _ => none
  | k + 1, x0, x1, x5 => if x5 < (x0.length : Int) then (if 0 ≤ x5 then ((laws_heldInt64S.f k (rd_L1 x0 x5) x1).bind fun t372 => (if t372 < 0 then (some (-1)) else (laws_heldInt64SS.l0 k x0 t372 (wrap64 (x5 + 1))))) else (none)) else (some x1)
def laws_heldInt64SS.f (k : Nat) (l0 : List (List Int)) (a1 : Int) : Option (Int) := laws_heldInt64SS.l0 k l0 a1 0
theorem laws_heldInt64SS.mono_l : ∀ k, (∀ y0 y1 y2, LeO (laws_heldInt64SS.l0 k y0 y1 y2) (laws_heldInt64SS.l0 (k + 1) y0 y1 y2))
  | 0 => fun _ _ _ r h => by simp [laws_heldInt64SS.l0] at h
  | k + 1 => by
    have ih0 := laws_heldInt64SS.mono_l k
    · intro y0 y1 y2
      unfold laws_heldInt64SS.l0
      repeat' first
      | (with_reducible exact ih0 _ _ _)
      | (with_reducible exact laws_heldInt64S.mono _ _ _)
      | (with_reducible exact LeO.refl _)
      | (with_reducible exact LeO.none _)
      | (with_reducible refine LeO.ite ?_ ?_)
      | (with_reducible refine LeO.bind ?_ (fun _ => ?_))
      | exact ih0 _ _ _
      | exact laws_heldInt64S.mono _ _ _
      | exact LeO.none _
      | refine LeO.ite ?_ ?_
      | refine LeO.bind ?_ (fun _ => ?_)
theorem laws_heldInt64SS.mono : ∀ a0 a1 k, LeO (laws_heldInt64SS.f k a0 a1) (laws_heldInt64SS.f (k + 1) a0 a1) := by
  intro a0 a1 k
  have ih0 := laws_heldInt64SS.mono_l k
  unfold laws_heldInt64SS.f
  repeat' first
      | (with_reducible exact ih0 _ _ _)
      | (with_reducible exact laws_heldInt64S.mono _ _ _)
      | (with_reducible exact LeO.refl _)
      | (with_reducible exact LeO.none _)
      | (with_reducible refine LeO.ite ?_ ?_)
      | (with_reducible refine LeO.bind ?_ (fun _ => ?_))
      | exact ih0 _ _ _
      | exact laws_heldInt64S.mono _ _ _
      | exact LeO.none _
      | refine LeO.ite ?_ ?_
      | refine LeO.bind ?_ (fun _ => ?_)
set_option maxHeartbeats 8000000 in
set_option maxRecDepth 100000 in
theorem laws_heldInt64SS.calls (k : Nat) (A0 : Option Addr) (c0 : Nat) (l0 : List (List Int)) (a1 : Int) (r : Int) (w : World) (hr0 : Kd.C (Kd.slice 2 (Kd.int .i64)) w A0 l0.length l0) (hc0 : l0.length ≤ c0) (h : laws_heldInt64SS.f k l0 a1 = some r) :
    Calls Try.prog 16 #[.slice A0 l0.length c0, .int .i64 a1] w fun e w' => e = .returned (.int .i64 r) ∧ Drawn0 w w' := by
  have HR0 := Aside0.mk hr0
  have HC0 := Aside0.mk hc0
  clear hr0 hc0
  have H : (laws_heldInt64SS.l0 k l0 a1 0) = some r := h
  clear h
  have H' := Aside0.mk H
  clear H
  go_enter Try.func16, Try.ntmps16
  go_wp2
  go_loopg [1, 5] k (fun kq v1 v5 w' => ∃ (x1_1 : Int) (x5_1 : Int), v1 = .int .i64 x1_1 ∧ v5 = .int .i64 x5_1 ∧ Aside0 (laws_heldInt64SS.l0 kq l0 x1_1 x5_1 = some r) ∧ Aside0 (kq ≤ k) ∧ Drawn0 w w')
  case atStart => exact ⟨(a1), (0), (by first | rfl | (simp; done) | (simp [*]; done)), (by first | rfl | (simp; done) | (simp [*]; done)), H', ⟨Nat.le_refl _⟩, by repeat (first | exact Drawn0.refl _ | apply Drawn0.step)⟩
  case round =>
    clear H'
    try clear c1
    try clear p2
    obtain ⟨x1_1, x5_1, rfl, rfl, HA, HK1, ⟨m1, rfl⟩⟩ := hrel
    cases gk with
    | zero => exact absurd HA.out (by simp [laws_heldInt64SS.l0])
    | succ k1 =>
      have H := HA.out
      clear HA
      simp only [laws_heldInt64SS.l0] at H
      by_cases c3 : x5_1 < (l0.length : Int)
      · rw [if_pos c3] at H
        have c3b0 : decide (x5_1 < (l0.length : Int)) = true := decide_eq_true c3
        clear c3
        by_cases c4 : 0 ≤ x5_1
        · rw [if_pos c4] at H
          have c4b0 : decide (0 ≤ x5_1) = true := decide_eq_true c4
          clear c4
          replace H := Option.bind_eq_some_iff.mp H
          obtain ⟨t372, A50, H⟩ := H
          replace H : (if t372 < 0 then (some (-1)) else (laws_heldInt64SS.l0 k1 l0 t372 (wrap64 (x5_1 + 1)))) = some r := H
          have A5 := Aside0.mk A50
          clear A50
          by_cases c6 : t372 < 0
          · rw [if_pos c6] at H
            have c6b0 : decide (t372 < 0) = true := decide_eq_true c6
            clear c6
            obtain rfl := Option.some.inj H
            have p371 : 0 ≤ (x5_1 : Int) := of_decide_eq_true (by first | (with_reducible assumption) | assumption)
            have q371 : x5_1 < (l0.length : Int) := of_decide_eq_true (by first | (with_reducible assumption) | assumption)
            obtain ⟨ad371, A371_0, c371_0, e371, hx371_0, hl371_0, hi371_0⟩ := at_L1 HR0.out x5_1 p371 q371
            cases e371
            have HR371_0 := Aside0.mk hi371_0
            have HC371_0 := Aside0.mk hl371_0
            clear hi371_0 hl371_0
            replace p371 := eq_true p371
            replace q371 := eq_true q371
            go_wp2_with (first | ((with_reducible refine gate_callee (f := 47) rfl ?_); refine goesL_ (some 17) rfl rfl Try.func47 (by kernel_rfl) rfl #[.slice A371_0 (rd_L1 l0 x5_1).length c371_0, .int .i64 x1_1] rfl (by (try simp only [List.map_toArray, List.map_cons, List.map_nil]); first | done | rfl | (simp only [List.length_drop, List.length_take]; rfl)) ?_; (with_reducible refine (laws_heldInt64S.calls k1 _ _ (rd_L1 l0 x5_1) x1_1 t372 _ ?side1 ?side2 A5.out).mono ?_); (case side1 => repeat (first | exact HR371_0.out | (with_reducible refine Kd.C_alloc ?_ _) | (with_reducible refine Kd.C_drewN ?_ _) | (with_reducible refine Kd.C_drew ?_))); (case side2 => exact HC371_0.out); rintro e w' ⟨rfl, ⟨nd, rfl⟩⟩; refine ⟨_, rfl, ?_⟩))
            go_ret
            exact ⟨by first | rfl | (simp; done) | (simp [*]; done), by repeat (first | exact Drawn0.refl _ | apply Drawn0.step)⟩
          · rw [if_neg c6] at H
            have c6b0 : decide (t372 < 0) = false := decide_eq_false c6
            clear c6
            have H' := Aside0.mk H
            clear H
            have p371 : 0 ≤ (x5_1 : Int) := of_decide_eq_true (by first | (with_reducible assumption) | assumption)
            have q371 : x5_1 < (l0.length : Int) := of_decide_eq_true (by first | (with_reducible assumption) | assumption)
            obtain ⟨ad371, A371_0, c371_0, e371, hx371_0, hl371_0, hi371_0⟩ := at_L1 HR0.out x5_1 p371 q371
            cases e371
            have HR371_0 := Aside0.mk hi371_0
            have HC371_0 := Aside0.mk hl371_0
            clear hi371_0 hl371_0
            replace p371 := eq_true p371
            replace q371 := eq_true q371
            go_wp2_with (first | ((with_reducible refine gate_callee (f := 47) rfl ?_); refine goesL_ (some 17) rfl rfl Try.func47 (by kernel_rfl) rfl #[.slice A371_0 (rd_L1 l0 x5_1).length c371_0, .int .i64 x1_1] rfl (by (try simp only [List.map_toArray, List.map_cons, List.map_nil]); first | done | rfl | (simp only [List.length_drop, List.length_take]; rfl)) ?_; (with_reducible refine (laws_heldInt64S.calls k1 _ _ (rd_L1 l0 x5_1) x1_1 t372 _ ?side1 ?side2 A5.out).mono ?_); (case side1 => repeat (first | exact HR371_0.out | (with_reducible refine Kd.C_alloc ?_ _) | (with_reducible refine Kd.C_drewN ?_ _) | (with_reducible refine Kd.C_drew ?_))); (case side2 => exact HC371_0.out); rintro e w' ⟨rfl, ⟨nd, rfl⟩⟩; refine ⟨_, rfl, ?_⟩))
            go_roundg k1
            case measure => have := HK1.out; omega
            case rel => exact ⟨(t372), (wrap64 (x5_1 + 1)), (by first | rfl | (simp; done) | (simp [*]; done)), (by first | rfl | (simp; done) | (simp [*]; done)), H', ⟨by have := HK1.out; omega⟩, by repeat (first | exact Drawn0.refl _ | apply Drawn0.step)⟩
        · rw [if_neg c4] at H
          exact absurd H (by simp)
      · rw [if_neg c3] at H
        have c3b0 : decide (x5_1 < (l0.length : Int)) = false := decide_eq_false c3
        clear c3
        obtain rfl := Option.some.inj H
        go_wp2
        go_ret
        exact ⟨by first | rfl | (simp; done) | (simp [*]; done), by repeat (first | exact Drawn0.refl _ | apply Drawn0.step)⟩

/-! ### laws_heldPresentation: function 21 -/
def laws_heldPresentation.f (k : Nat) (a0_0 : Int) (l0_1 : List (List Int)) (a1 : Int) : Option (Int) := (laws_heldInt64SS.f k l0_1 a1).bind fun t374 => (if t374 < 0 then (some (-1)) else (some t374))
theorem laws_heldPresentation.mono : ∀ a0 a1 a2 k, LeO (laws_heldPresentation.f k a0 a1 a2) (laws_heldPresentation.f (k + 1) a0 a1 a2) := by
  intro a0 a1 a2 k
  unfold laws_heldPresentation.f
  repeat' first
      | (with_reducible exact laws_heldInt64SS.mono _ _ _)
      | (with_reducible exact LeO.refl _)
      | (with_reducible exact LeO.none _)
      | (with_reducible refine LeO.ite ?_ ?_)
      | (with_reducible refine LeO.bind ?_ (fun _ => ?_))
      | exact laws_heldInt64SS.mono _ _ _
      | exact LeO.none _
      | refine LeO.ite ?_ ?_
      | refine LeO.bind ?_ (fun _ => ?_)
set_option maxHeartbeats 8000000 in
set_option maxRecDepth 100000 in
theorem laws_heldPresentation.calls (k : Nat) (a0_0 : Int) (A0_1 : Option Addr) (c0_1 : Nat) (l0_1 : List (List Int)) (a1 : Int) (r : Int) (w : World) (hr0_1 : Kd.C (Kd.slice 2 (Kd.int .i64)) w A0_1 l0_1.length l0_1) (hc0_1 : l0_1.length ≤ c0_1) (h : laws_heldPresentation.f k a0_0 l0_1 a1 = some r) :
    Calls Try.prog 21 #[.agg #[.int .i64 a0_0, .slice A0_1 l0_1.length c0_1], .int .i64 a1] w fun e w' => e = .returned (.int .i64 r) ∧ Below w.heap.size w w' := by
  have hu28 := Try.underlying28
  have HR0_1 := Aside0.mk hr0_1
  have HC0_1 := Aside0.mk hc0_1
  clear hr0_1 hc0_1
  have HB := Aside0.mk (Below.refl w.heap.size w)
  have H : ((laws_heldInt64SS.f k l0_1 a1).bind fun t374 => (if t374 < 0 then (some (-1)) else (some t374))) = some r := h
  clear h
  replace H := Option.bind_eq_some_iff.mp H
  obtain ⟨t374, A30, H⟩ := H
  replace H : (if t374 < 0 then (some (-1)) else (some t374)) = some r := H
  have A3 := Aside0.mk A30
  clear A30
  by_cases c4 : t374 < 0
  · rw [if_pos c4] at H
    have c4b0 : decide (t374 < 0) = true := decide_eq_true c4
    clear c4
    obtain rfl := Option.some.inj H
    go_enter Try.func21, Try.ntmps21
    go_wp2_with (first | ((with_reducible refine gate_dst (N := 2) rfl ?_); refine box_event ?hg (N := 2) ?hd (cs := #[.int .i64 a0_0, .slice A0_1 l0_1.length c0_1]) (t := 28) ?hr ?_; (case hd => rfl); (case hg => rfl); (case hr => first | (go_simp; done) | (go_simp; rfl)); intro gb373 hg w5 hbox hb; have n0_ := Aside0.mk (below_step (by repeat (first | (with_reducible first | exact HB.out | apply below_alloc | apply pw_below_drewN | apply below_drew1) | exact HB.out)) hb); have n1_ := Aside0.mk (hbox); have n2_ := Aside0.mk ((by rw [hg]; exact (below_size (by repeat (first | (with_reducible first | exact HB.out | apply below_alloc | apply pw_below_drewN | apply below_drew1) | exact HB.out))) : w.heap.size ≤ gb373)); have n3_ := Aside0.mk ((by rw [hg]; exact (below_size (by repeat (first | (with_reducible first | exact HB.out | apply below_alloc | apply pw_below_drewN | apply below_drew1) | exact HB.out))) : w.heap.size ≤ gb373)); clear HB; have HB := n0_; have BK373 := n1_; have GW373 := n2_; have GE373 := n3_; clear n0_ n1_ n2_ n3_; clear hb hbox hg; have hcz6_0 : w5.cell? ⟨gb373, 0, none⟩ = some (.int .i64 a0_0) := (blk_cell BK373.out 0).trans rfl; have hcz6_1 : w5.cell? ⟨gb373, 1, none⟩ = some (.slice A0_1 l0_1.length c0_1) := (blk_cell BK373.out 1).trans rfl; have hfz6_0 := blk_frozen BK373.out 0; have hfz6_1 := blk_frozen BK373.out 1) | ((with_reducible refine gate_callee (f := 16) rfl ?_); refine goesL_ (some 8) rfl rfl Try.func16 (by kernel_rfl) rfl #[.slice A0_1 l0_1.length c0_1, .int .i64 a1] rfl (by (try simp only [List.map_toArray, List.map_cons, List.map_nil]); first | done | rfl | (simp only [List.length_drop, List.length_take]; rfl)) ?_; (with_reducible refine (laws_heldInt64SS.calls k _ _ l0_1 a1 t374 _ ?side1 ?side2 A3.out).mono ?_); (case side1 => repeat (first | exact (Kd.C_below HR0_1.out HB.out) | (with_reducible refine Kd.C_alloc ?_ _) | (with_reducible refine Kd.C_drewN ?_ _) | (with_reducible refine Kd.C_drew ?_))); (case side2 => exact HC0_1.out); rintro e w' ⟨rfl, ⟨nd, rfl⟩⟩; refine ⟨_, rfl, ?_⟩))
    go_ret
    exact ⟨by first | rfl | (simp [errW_none, errW_some] <;> rfl) | (simp [*, errW_none, errW_some] <;> rfl), by repeat (first | (with_reducible first | exact HB.out | apply below_alloc | apply pw_below_drewN | apply below_drew1 | refine below_set ?_ GE373.out) | exact HB.out)⟩
  · rw [if_neg c4] at H
    have c4b0 : decide (t374 < 0) = false := decide_eq_false c4
    clear c4
    obtain rfl := Option.some.inj H
    go_enter Try.func21, Try.ntmps21
    go_wp2_with (first | ((with_reducible refine gate_dst (N := 2) rfl ?_); refine box_event ?hg (N := 2) ?hd (cs := #[.int .i64 a0_0, .slice A0_1 l0_1.length c0_1]) (t := 28) ?hr ?_; (case hd => rfl); (case hg => rfl); (case hr => first | (go_simp; done) | (go_simp; rfl)); intro gb373 hg w7 hbox hb; have n0_ := Aside0.mk (below_step (by repeat (first | (with_reducible first | exact HB.out | apply below_alloc | apply pw_below_drewN | apply below_drew1) | exact HB.out)) hb); have n1_ := Aside0.mk (hbox); have n2_ := Aside0.mk ((by rw [hg]; exact (below_size (by repeat (first | (with_reducible first | exact HB.out | apply below_alloc | apply pw_below_drewN | apply below_drew1) | exact HB.out))) : w.heap.size ≤ gb373)); have n3_ := Aside0.mk ((by rw [hg]; exact (below_size (by repeat (first | (with_reducible first | exact HB.out | apply below_alloc | apply pw_below_drewN | apply below_drew1) | exact HB.out))) : w.heap.size ≤ gb373)); clear HB; have HB := n0_; have BK373 := n1_; have GW373 := n2_; have GE373 := n3_; clear n0_ n1_ n2_ n3_; clear hb hbox hg; have hcz8_0 : w7.cell? ⟨gb373, 0, none⟩ = some (.int .i64 a0_0) := (blk_cell BK373.out 0).trans rfl; have hcz8_1 : w7.cell? ⟨gb373, 1, none⟩ = some (.slice A0_1 l0_1.length c0_1) := (blk_cell BK373.out 1).trans rfl; have hfz8_0 := blk_frozen BK373.out 0; have hfz8_1 := blk_frozen BK373.out 1) | ((with_reducible refine gate_callee (f := 16) rfl ?_); refine goesL_ (some 8) rfl rfl Try.func16 (by kernel_rfl) rfl #[.slice A0_1 l0_1.length c0_1, .int .i64 a1] rfl (by (try simp only [List.map_toArray, List.map_cons, List.map_nil]); first | done | rfl | (simp only [List.length_drop, List.length_take]; rfl)) ?_; (with_reducible refine (laws_heldInt64SS.calls k _ _ l0_1 a1 t374 _ ?side1 ?side2 A3.out).mono ?_); (case side1 => repeat (first | exact (Kd.C_below HR0_1.out HB.out) | (with_reducible refine Kd.C_alloc ?_ _) | (with_reducible refine Kd.C_drewN ?_ _) | (with_reducible refine Kd.C_drew ?_))); (case side2 => exact HC0_1.out); rintro e w' ⟨rfl, ⟨nd, rfl⟩⟩; refine ⟨_, rfl, ?_⟩))
    go_ret
    exact ⟨by first | rfl | (simp [errW_none, errW_some] <;> rfl) | (simp [*, errW_none, errW_some] <;> rfl), by repeat (first | (with_reducible first | exact HB.out | apply below_alloc | apply pw_below_drewN | apply below_drew1 | refine below_set ?_ GE373.out) | exact HB.out)⟩

/-! ### laws_FnExactStabilizerPresentation: function 4 -/
def laws_FnExactStabilizerPresentation.f (k : Nat) (a0_0 : Int) (l0_1 : List (List Int)) (a1 : Int) (l2 : List (List Int)) : Option Bool :=
  (laws_szPresentation.f k a0_0 l0_1 1048576).bind fun z => if z < 0 then some true else
  (laws_szInt64SS.f k l2 z).bind fun y => if y < 0 then some true else
  (laws_toPresentation.f k a0_0 l0_1).bind fun p => (laws_toInt64SS.f k l2).bind fun i => (spec_StabilizerPresentation.f k p.1 p.2 a1 i).bind fun s => (impl_StabilizerPresentation.f k p.1 p.2 a1 i).bind fun r =>
  (laws_eqPresentation.f k r.1 r.2.1 s.1 s.2.1).bind fun e1 => if e1 = true then (if r.2.2 = s.2.2 then
  (laws_eqPresentation.f k p.1 p.2 p.1 p.2).bind fun e2 => if e2 = true then
  (laws_eqInt64SS.f k i i).bind fun e3 => if e3 = true then
  (laws_markPresentation.f k p.1 p.2 1).bind fun m1 => (laws_markInt64SS.f k i m1.1).bind fun m2 => if 0 ≤ m2.1 then
  (laws_markPresentation.f k r.1 r.2.1 1).bind fun m3 => (laws_heldPresentation.f k r.1 m3.2 1).bind fun h => if 0 ≤ h then (if h = m3.1 then some true
  else some false) else some false else some false else some false else some false else some false) else some false
theorem laws_FnExactStabilizerPresentation.mono : ∀ a0_0 l0_1 a1 l2 k, LeO (laws_FnExactStabilizerPresentation.f k a0_0 l0_1 a1 l2) (laws_FnExactStabilizerPresentation.f (k + 1) a0_0 l0_1 a1 l2) := by
  intro a0_0 l0_1 a1 l2 k
  unfold laws_FnExactStabilizerPresentation.f
  exact LeO.bind (laws_szPresentation.mono _ _ _ _) fun _ => LeO.ite (LeO.refl _) (LeO.bind (laws_szInt64SS.mono _ _ _) fun _ => LeO.ite (LeO.refl _) (LeO.bind (laws_toPresentation.mono _ _ _) fun _ => LeO.bind (laws_toInt64SS.mono _ _) fun _ => LeO.bind (spec_StabilizerPresentation.mono _ _ _ _ _) fun _ => LeO.bind (impl_StabilizerPresentation.mono _ _ _ _ _) fun _ =>
    LeO.bind (laws_eqPresentation.mono _ _ _ _ _) fun _ => LeO.ite (LeO.ite (LeO.bind (laws_eqPresentation.mono _ _ _ _ _) fun _ => LeO.ite (LeO.bind (laws_eqInt64SS.mono _ _ _) fun _ => LeO.ite (LeO.bind (laws_markPresentation.mono _ _ _ _) fun _ => LeO.bind (laws_markInt64SS.mono _ _ _) fun _ => LeO.ite (LeO.bind (laws_markPresentation.mono _ _ _ _) fun _ => LeO.bind (laws_heldPresentation.mono _ _ _ _) fun _ => LeO.refl _) (LeO.refl _)) (LeO.refl _)) (LeO.refl _)) (LeO.refl _)) (LeO.refl _)))
theorem takeL {P : Program} {ops : Array Oper} {Q : Exit → Act → World → Prop} {md : Region.Mode} {S : World → Prop} {i : Nat} {oi : Oper} (d : Option Tmp) {v : Value} {fuel : Nat} {listed : Array Bool} {a : Act} {w : World} (hi : ops[i]? = some oi) (hd : oi.dst = d)
    (hs : Region.noSelect ops = true) (hf : Region.free md ops listed i = true) (hr : (Region.ready md ops listed).contains i = true)
    (hQ : ∀ c a w, Q (.panic c) (a.put d v) w → Q (.panic c) a w) (hy : YieldsIf P ops S oi v a) (hS : S w)
    (h : wpAnyH P md ops Q S fuel (listed.setIfInBounds i true) (a.put d v) w) : wpAnyH P md ops Q S (fuel + 1) listed a w := by
  subst hd
  exact wpAnyH_take hi hs hf hr hQ hy hS h
theorem if_true_ {c : Prop} [Decidable c] {x : Option Bool} (h : (if c then x else some false) = some true) : c ∧ x = some true := by
  by_cases hc : c
  · rw [if_pos hc] at h
    exact ⟨hc, h⟩
  · rw [if_neg hc] at h
    exact absurd h (by simp)
/-- Rows whose blocks all lie in a part of the heap. -/
def Seg (w W : World) (lo hi : Nat) (v : Value) (xs : List (List Int)) : Prop := Kd.S (Kd.slice 2 (Kd.int .i64)) 39 W w.heap.size (fun k_ => lo ≤ k_ ∧ k_ < hi) v xs
theorem Seg.new {w W W' : World} {v : Value} {xs : List (List Int)} (h : Kd.S (Kd.slice 2 (Kd.int .i64)) 39 W' W.heap.size (fun _ => True) v xs) (hw : w.heap.size ≤ W.heap.size) : Seg w W' W.heap.size W'.heap.size v xs :=
  Kd.S_mono (Kd.S_lower (Kd.S_bound h) hw) fun _ hk => ⟨hk.2.1, hk.2.2.1⟩
theorem Seg.below {w W W' : World} {lo hi : Nat} {v : Value} {xs : List (List Int)} (h : Seg w W lo hi v xs) (hb : Below W.heap.size W W') : Seg w W' lo hi v xs := Kd.S_below h hb
theorem Seg.kept {w W W' : World} {lo hi lo' hi' : Nat} {v : Value} {xs : List (List Int)} (h : Seg w W lo hi v xs) (hk : Kept W W' fun k_ => lo' ≤ k_ ∧ k_ < hi') (hd : hi ≤ lo' ∨ hi' ≤ lo) : Seg w W' lo hi v xs := Kd.S_kept h hk fun k h1 h2 => by omega
theorem Seg.reads {w W : World} {lo hi : Nat} {A : Option Addr} {n c : Nat} {xs : List (List Int)} (h : Seg w W lo hi (.slice A n c) xs) : n = xs.length ∧ n ≤ c ∧ (Kd.slice 2 (Kd.int .i64)).C W A xs.length xs := Kd.S_reads' h
/-- Rows whose blocks all lie in a part of the heap. -/
def SegR (w W : World) (lo hi : Nat) (v : Value) (xs : List Int) : Prop := Kd.R (Kd.int .i64) 2 W w.heap.size (fun k_ => lo ≤ k_ ∧ k_ < hi) v xs
theorem SegR.new {w W W' : World} {v : Value} {xs : List Int} (h : Kd.R (Kd.int .i64) 2 W' W.heap.size (fun _ => True) v xs) (hw : w.heap.size ≤ W.heap.size) : SegR w W' W.heap.size W'.heap.size v xs :=
  Kd.R_mono (Kd.R_lower (Kd.R_bound h) hw) fun _ hk => ⟨hk.2.1, hk.2.2.1⟩
theorem SegR.below {w W W' : World} {lo hi : Nat} {v : Value} {xs : List Int} (h : SegR w W lo hi v xs) (hb : Below W.heap.size W W') : SegR w W' lo hi v xs := Kd.R_below h hb
theorem SegR.kept {w W W' : World} {lo hi lo' hi' : Nat} {v : Value} {xs : List Int} (h : SegR w W lo hi v xs) (hk : Kept W W' fun k_ => lo' ≤ k_ ∧ k_ < hi') (hd : hi ≤ lo' ∨ hi' ≤ lo) : SegR w W' lo hi v xs := Kd.R_kept h hk fun k h1 h2 => by omega
theorem SegR.reads {w W : World} {lo hi : Nat} {A : Option Addr} {n c : Nat} {xs : List Int} (h : SegR w W lo hi (.slice A n c) xs) : n = xs.length ∧ n ≤ c ∧ (Kd.int .i64).C W A xs.length xs := Kd.R_reads' h
theorem drawn_below {W W' : World} (h : Drawn0 W W') : Below W.heap.size W W' := by
  obtain ⟨n, rfl⟩ := h
  exact pw_below_drewN (Below.refl _ W) n
theorem am2_ {P : Prop} (h : P) : Aside0 P := ⟨h⟩
theorem heldAtP {f : FuncId} {W : World} {base n c : Nat} {ok : Nat → Prop} {A : Option Addr} {xs : List (List Int)} {a g : Int} {Q : Ending → World → Prop} (hS : Kd.S (Kd.slice 2 (Kd.int .i64)) 39 W base ok (.slice A n c) xs)
    (h : (Kd.slice 2 (Kd.int .i64)).C W A xs.length xs → xs.length ≤ c → Calls Try.prog f #[.agg #[.int .i64 g, .slice A xs.length c], .int .i64 a] W Q) : Calls Try.prog f #[.agg #[.int .i64 g, .slice A n c], .int .i64 a] W Q := by
  obtain ⟨h1, h2, h3⟩ := Kd.S_reads' hS
  subst h1
  exact h h3 h2
/-- Rows whose blocks all lie in a part of the heap, and may be shared. -/
def SegN (w W : World) (lo hi : Nat) (v : Value) (xs : List (List Int)) : Prop := Kd.N (Kd.slice 2 (Kd.int .i64)) 39 W w.heap.size (fun k_ => lo ≤ k_ ∧ k_ < hi) v xs
theorem SegN.new {w W W' : World} {v : Value} {xs : List (List Int)} (h : Kd.N (Kd.slice 2 (Kd.int .i64)) 39 W' W.heap.size (fun k_ => W.heap.size ≤ k_) v xs) (hw : w.heap.size ≤ W.heap.size) : SegN w W' W.heap.size W'.heap.size v xs :=
  Kd.N_mono (Kd.N_lower (Kd.N_bound h) hw) fun _ hk => hk
theorem SegN.below {w W W' : World} {lo hi : Nat} {v : Value} {xs : List (List Int)} (h : SegN w W lo hi v xs) (hb : Below W.heap.size W W') : SegN w W' lo hi v xs := Kd.N_below h hb
theorem SegN.kept {w W W' : World} {lo hi lo' hi' : Nat} {v : Value} {xs : List (List Int)} (h : SegN w W lo hi v xs) (hk : Kept W W' fun k_ => lo' ≤ k_ ∧ k_ < hi') (hd : hi ≤ lo' ∨ hi' ≤ lo) : SegN w W' lo hi v xs := Kd.N_kept h hk fun k h1 h2 => by omega
theorem SegN.reads {w W : World} {lo hi : Nat} {A : Option Addr} {n c : Nat} {xs : List (List Int)} (h : SegN w W lo hi (.slice A n c) xs) : n = xs.length ∧ n ≤ c ∧ (Kd.slice 2 (Kd.int .i64)).C W A xs.length xs := Kd.N_reads' h
set_option maxHeartbeats 32000000 in
set_option maxRecDepth 100000 in
theorem laws_FnExactStabilizerPresentation.calls (k : Nat) (a0_0 : Int) (A1 : Option Addr) (c1 : Nat) (l1 : List (List Int)) (a1 : Int) (A2 : Option Addr) (c2 : Nat) (l2 : List (List Int)) (r : Bool) (w : World) (hr1 : Kd.C (Kd.slice 2 (Kd.int .i64)) w A1 l1.length l1) (hc1 : l1.length ≤ c1) (hr2 : Kd.C (Kd.slice 2 (Kd.int .i64)) w A2 l2.length l2) (hc2 : l2.length ≤ c2) (h : laws_FnExactStabilizerPresentation.f k a0_0 l1 a1 l2 = some r) (HTRUE_ : Aside0 (r = true)) :
    Calls Try.prog 4 #[.agg #[.int .i64 a0_0, .slice A1 l1.length c1], .int .i64 a1, .slice A2 l2.length c2] w fun e w' => e = .returned (.bool r) ∧ Below w.heap.size w w' := by
  obtain rfl := HTRUE_.out
  clear HTRUE_
  have HR1 := Aside0.mk hr1
  have HC1 := Aside0.mk hc1
  have HR2 := Aside0.mk hr2
  have HC2 := Aside0.mk hc2
  clear hr1 hc1 hr2 hc2
  unfold laws_FnExactStabilizerPresentation.f at h
  obtain ⟨z, Z, h⟩ := Option.bind_eq_some_iff.mp h
  by_cases c0 : z < 0
  · have c0b : decide (z < 0) = true := decide_eq_true c0
    have F1 := Aside0.mk fun W (hW : Below w.heap.size w W) => laws_szPresentation.calls k a0_0 A1 c1 l1 1048576 z W (Kd.C_below HR1.out hW) HC1.out Z
    clear c0 h Z
    go_enter Try.func4, Try.ntmps4
    go_wp2_with (go_at_call 8; refine (F1.out _ (by repeat (first | exact Below.refl _ _ | apply below_alloc | apply pw_below_drewN))).mono ?_; rintro e w' ⟨rfl, hb⟩)
    go_ret
    exact ⟨rfl, below_then (below_alloc (Below.refl _ _) _) (below_size (below_alloc (Below.refl _ _) _)) hb⟩
  · have c0b : decide (z < 0) = false := decide_eq_false c0
    rw [if_neg c0] at h
    obtain ⟨y, Y, h⟩ := Option.bind_eq_some_iff.mp h
    by_cases c9 : y < 0
    · have c9b : decide (y < 0) = true := decide_eq_true c9
      have F1 := Aside0.mk fun W (hW : Below w.heap.size w W) => laws_szPresentation.calls k a0_0 A1 _ l1 1048576 z W (Kd.C_below HR1.out hW) HC1.out Z
      have F2 := Aside0.mk fun W (hW : Below w.heap.size w W) => laws_szInt64SS.calls k A2 c2 l2 z y W (Kd.C_below HR2.out hW) HC2.out Y
      clear c0 c9 h Z Y
      go_enter Try.func4, Try.ntmps4
      go_wp2_with (first
        | (go_at_call 8; refine (F1.out _ (by repeat (first | exact Below.refl _ _ | apply below_alloc | apply pw_below_drewN))).mono ?_; rintro e w' ⟨rfl, hb⟩; have HB1 := Aside0.mk (below_then (below_alloc (Below.refl _ _) _) (below_size (below_alloc (Below.refl _ _) _)) hb); clear hb)
        | (go_at_call 17; refine (F2.out _ HB1.out).mono ?_; rintro e w2 ⟨rfl, hd⟩; have HB2 := Aside0.mk (below_then HB1.out (below_size HB1.out) (drawn_below hd)); clear hd))
      go_ret
      exact ⟨rfl, HB2.out⟩
    · have c9b : decide (y < 0) = false := decide_eq_false c9
      rw [if_neg c9] at h
      have hx_ := Option.bind_eq_some_iff.mp h
      clear h
      obtain ⟨⟨p1, p2⟩, B, h⟩ := hx_
      have hx_ := Option.bind_eq_some_iff.mp h
      clear h
      obtain ⟨i2, I, h⟩ := hx_
      have hx_ := Option.bind_eq_some_iff.mp h
      clear h
      obtain ⟨⟨s1, s2, s3⟩, S, h⟩ := hx_
      have hx_ := Option.bind_eq_some_iff.mp h
      clear h
      obtain ⟨⟨r1, r2, r3⟩, R, h⟩ := hx_
      have hx_ := Option.bind_eq_some_iff.mp h
      clear h
      obtain ⟨e1, E1, h⟩ := hx_
      have hx_ := if_true_ h
      clear h
      obtain ⟨rfl, h⟩ := hx_
      have hx_ := if_true_ h
      clear h
      obtain ⟨hrs, h⟩ := hx_
      simp only at E1 hrs
      subst hrs
      have hx_ := Option.bind_eq_some_iff.mp h
      clear h
      obtain ⟨e2, E2, h⟩ := hx_
      have hx_ := if_true_ h
      clear h
      obtain ⟨rfl, h⟩ := hx_
      have hx_ := Option.bind_eq_some_iff.mp h
      clear h
      obtain ⟨e3, E3, h⟩ := hx_
      have hx_ := if_true_ h
      clear h
      obtain ⟨rfl, h⟩ := hx_
      have hx_ := Option.bind_eq_some_iff.mp h
      clear h
      obtain ⟨⟨n1, b'⟩, M1, h⟩ := hx_
      have hx_ := Option.bind_eq_some_iff.mp h
      clear h
      obtain ⟨⟨n2, m'⟩, M2, h⟩ := hx_
      have hx_ := if_true_ h
      clear h
      obtain ⟨hn1, h⟩ := hx_
      have hx_ := Option.bind_eq_some_iff.mp h
      clear h
      obtain ⟨⟨m3, r'⟩, M3, h⟩ := hx_
      have hx_ := Option.bind_eq_some_iff.mp h
      clear h
      obtain ⟨h1, G, h⟩ := hx_
      have hx_ := if_true_ h
      clear h
      obtain ⟨hh, h⟩ := hx_
      have hx_ := if_true_ h
      clear h
      obtain ⟨hz_, h⟩ := hx_
      simp only at S R E2 M1 M2 hn1 M3 G hz_
      subst hz_
      have c1b : decide (n2 < 0) = false := decide_eq_false (by simpa using hn1)
      have c2b : decide (h1 < 0) = false := decide_eq_false (by simpa using hh)
      have F1 := Aside0.mk fun  (W : World) (hW : Below w.heap.size w W)  => laws_szPresentation.calls k a0_0 A1 c1 l1 1048576 z W (Kd.C_below HR1.out hW) HC1.out Z
      have F2 := Aside0.mk fun  (W : World) (hW : Below w.heap.size w W)  => laws_szInt64SS.calls k A2 c2 l2 z y W (Kd.C_below HR2.out hW) HC2.out Y
      have F3 := Aside0.mk fun  (W : World) (hW : Below w.heap.size w W)  => laws_toPresentation.calls k a0_0 A1 c1 l1 p1 p2 W (Kd.C_below HR1.out hW) HC1.out B
      have F4 := Aside0.mk fun  (W : World) (hW : Below w.heap.size w W)  => laws_toInt64SS.calls k A2 c2 l2 i2 W (Kd.C_below HR2.out hW) HC2.out I
      have F5 := Aside0.mk fun A1_ c1_ A3_ c3_ (W : World) (hW : Below w.heap.size w W) h1_ g1_ h3_ g3_ => spec_StabilizerPresentation.calls k p1 A1_ c1_ p2 a1 A3_ c3_ i2 s1 s2 r3 W h1_ g1_ h3_ g3_ S
      have F6 := Aside0.mk fun  (W : World) (hW : Below w.heap.size w W)  => laws_toPresentation.calls k a0_0 A1 c1 l1 p1 p2 W (Kd.C_below HR1.out hW) HC1.out B
      have F7 := Aside0.mk fun  (W : World) (hW : Below w.heap.size w W)  => laws_toInt64SS.calls k A2 c2 l2 i2 W (Kd.C_below HR2.out hW) HC2.out I
      have F8 := Aside0.mk fun A1_ c1_ A3_ c3_ (W : World) (hW : Below w.heap.size w W) h1_ g1_ h3_ g3_ => impl_StabilizerPresentation.calls k p1 A1_ c1_ p2 a1 A3_ c3_ i2 r1 r2 r3 W h1_ g1_ h3_ g3_ R
      have F9 := Aside0.mk fun A1_ c1_ A3_ c3_ (W : World) (hW : Below w.heap.size w W) h1_ g1_ h3_ g3_ => laws_eqPresentation.calls k r1 A1_ c1_ r2 s1 A3_ c3_ s2 true W h1_ g1_ h3_ g3_ E1
      have F10 := Aside0.mk fun  (W : World) (hW : Below w.heap.size w W)  => laws_toPresentation.calls k a0_0 A1 c1 l1 p1 p2 W (Kd.C_below HR1.out hW) HC1.out B
      have F11 := Aside0.mk fun A1_ c1_ A3_ c3_ (W : World) (hW : Below w.heap.size w W) h1_ g1_ h3_ g3_ => laws_eqPresentation.calls k p1 A1_ c1_ p2 p1 A3_ c3_ p2 true W h1_ g1_ h3_ g3_ E2
      have F12 := Aside0.mk fun  (W : World) (hW : Below w.heap.size w W)  => laws_toInt64SS.calls k A2 c2 l2 i2 W (Kd.C_below HR2.out hW) HC2.out I
      have F13 := Aside0.mk fun A0_ c0_ A1_ c1_ (W : World) (hW : Below w.heap.size w W) h0_ g0_ h1_ g1_ => laws_eqInt64SS.calls k A0_ c0_ i2 A1_ c1_ i2 true W h0_ g0_ h1_ g1_ E3
      have F14 := Aside0.mk fun P0_ u W hB ho => laws_markPresentation.calls k P0_ u p1 p2 1 n1 b' w W hB ho M1
      have F15 := Aside0.mk fun P0_ u W hB ho => laws_markInt64SS.calls k P0_ u  i2 n1 n2 m' w W hB ho M2
      have F16 := Aside0.mk fun A1_ c1_ A3_ c3_ (W : World) (hW : Below w.heap.size w W) h1_ g1_ h3_ g3_ => laws_eqPresentation.calls k r1 A1_ c1_ r2 s1 A3_ c3_ s2 true W h1_ g1_ h3_ g3_ E1
      have F17 := Aside0.mk fun P0_ u W hB ho => laws_markPresentation.calls k P0_ u r1 r2 1 h1 r' w W hB ho M3
      have F18 := Aside0.mk fun A1_ c1_ (W : World) (hW : Below w.heap.size w W) h1_ g1_ => laws_heldPresentation.calls k r1 A1_ c1_ r' 1 h1 W h1_ g1_ G
      have F19 := Aside0.mk fun  (W : World) (hW : Below w.heap.size w W)  => laws_toPresentation.calls k a0_0 A1 c1 l1 p1 p2 W (Kd.C_below HR1.out hW) HC1.out B
      have F20 := Aside0.mk fun  (W : World) (hW : Below w.heap.size w W)  => laws_toInt64SS.calls k A2 c2 l2 i2 W (Kd.C_below HR2.out hW) HC2.out I
      have F21 := Aside0.mk fun A1_ c1_ A3_ c3_ (W : World) (hW : Below w.heap.size w W) h1_ g1_ h3_ g3_ => impl_StabilizerPresentation.calls k p1 A1_ c1_ p2 a1 A3_ c3_ i2 r1 r2 r3 W h1_ g1_ h3_ g3_ R
      have F22 := Aside0.mk fun A1_ c1_ A3_ c3_ (W : World) (hW : Below w.heap.size w W) h1_ g1_ h3_ g3_ => laws_eqPresentation.calls k r1 A1_ c1_ r2 s1 A3_ c3_ s2 true W h1_ g1_ h3_ g3_ E1
      have F23 := Aside0.mk fun A1_ c1_ (W : World) (hW : Below w.heap.size w W) h1_ g1_ => laws_heldPresentation.calls k r1 A1_ c1_ r' 1 h1 W h1_ g1_ G
      clear c0 c9 Z Y B I S R E1 E2 E3 M1 M2 M3 G hn1 hh
      go_enter Try.func4, Try.ntmps4
      go_upto_region 1 with (fail)
      obtain ⟨W1, hW_⟩ : ∃ W_, W_ = w.alloc (.cells #[.int .i64 a0_0, .slice A1 l1.length c1] 24) := ⟨_, rfl⟩
      have hb : Below w.heap.size w W1 := by rw [hW_]; exact below_alloc (Below.refl _ _) _
      have hnew_ : W1.heap[w.heap.size]? = some (.cells #[.int .i64 a0_0, .slice A1 l1.length c1] 24 (0, 0)) := by rw [hW_]; exact heap_alloc_new w _
      have bpLT := am2_ (show w.heap.size < W1.heap.size by rw [hW_]; simp)
      have HB1 := am2_ hb
      have HL1 := am2_ (below_size hb)
      have bp := am2_ hnew_
      have qbp_0 : W1.cell? ⟨w.heap.size, 0, none⟩ = some (.int .i64 a0_0) := (blk_cell bp.out 0).trans rfl
      have qbp_1 : W1.cell? ⟨w.heap.size, 1, none⟩ = some (.slice A1 l1.length c1) := (blk_cell bp.out 1).trans rfl
      change Code.wp Try.prog _ _ _ (w.alloc (.cells #[.int .i64 a0_0, .slice A1 l1.length c1] 24))
      rw [← hW_]
      clear hW_ hb hnew_
      go_upto_region 9 with (first
        | (go_at_call 8; refine (F1.out  _ HB1.out ).mono ?_; rintro e W2 ⟨rfl, hb⟩; have HB2 := am2_ (below_then HB1.out (below_size HB1.out) hb); have HL2 := am2_ (below_size hb); have n_ := am2_ ((hb.block _ (blk_lt bp.out)).trans bp.out); clear bp; have bp := n_; clear n_; clear qbp_0 qbp_1; have qbp_0 : W2.cell? ⟨w.heap.size, 0, none⟩ = some (.int .i64 a0_0) := (blk_cell bp.out 0).trans rfl; have qbp_1 : W2.cell? ⟨w.heap.size, 1, none⟩ = some (.slice A1 l1.length c1) := (blk_cell bp.out 1).trans rfl; clear F1  hb  )
        | (go_at_call 17; refine (F2.out  _ HB2.out ).mono ?_; rintro e W3 ⟨rfl, hd⟩; have hb := drawn_below hd; have HB3 := am2_ (below_then HB2.out (below_size HB2.out) hb); have HL3 := am2_ (below_size hb); have n_ := am2_ ((hb.block _ (blk_lt bp.out)).trans bp.out); clear bp; have bp := n_; clear n_; clear qbp_0 qbp_1; have qbp_0 : W3.cell? ⟨w.heap.size, 0, none⟩ = some (.int .i64 a0_0) := (blk_cell bp.out 0).trans rfl; have qbp_1 : W3.cell? ⟨w.heap.size, 1, none⟩ = some (.slice A1 l1.length c1) := (blk_cell bp.out 1).trans rfl; clear F2  hb hd )
        | (go_at_call 10; refine (F3.out  _ HB3.out ).mono ?_; rintro e W4 ⟨v4_0, rfl, hS0, hb⟩; have HB4 := am2_ (below_then HB3.out (below_size HB3.out) hb); have HL4 := am2_ (below_size hb); have n_ := am2_ ((hb.block _ (blk_lt bp.out)).trans bp.out); clear bp; have bp := n_; clear n_; clear qbp_0 qbp_1; have qbp_0 : W4.cell? ⟨w.heap.size, 0, none⟩ = some (.int .i64 a0_0) := (blk_cell bp.out 0).trans rfl; have qbp_1 : W4.cell? ⟨w.heap.size, 1, none⟩ = some (.slice A1 l1.length c1) := (blk_cell bp.out 1).trans rfl; have X1 := am2_ (Seg.new hS0 (below_size HB3.out)); obtain ⟨A4_0, d4_0, e4_0⟩ := Kd.S_slice hS0; subst e4_0; clear F3 hS0 hb  )
        | (go_at_call 19; refine (F4.out  _ HB4.out ).mono ?_; rintro e W5 ⟨v5_0, rfl, hS0, hb⟩; have HB5 := am2_ (below_then HB4.out (below_size HB4.out) hb); have HL5 := am2_ (below_size hb); have n_ := am2_ (X1.out.below hb); clear X1; have X1 := n_; clear n_; have n_ := am2_ ((hb.block _ (blk_lt bp.out)).trans bp.out); clear bp; have bp := n_; clear n_; clear qbp_0 qbp_1; have qbp_0 : W5.cell? ⟨w.heap.size, 0, none⟩ = some (.int .i64 a0_0) := (blk_cell bp.out 0).trans rfl; have qbp_1 : W5.cell? ⟨w.heap.size, 1, none⟩ = some (.slice A1 l1.length c1) := (blk_cell bp.out 1).trans rfl; have XI := am2_ (Seg.new hS0 (below_size HB4.out)); obtain ⟨A5_0, d5_0, e5_0⟩ := Kd.S_slice hS0; subst e5_0; clear F4 hS0 hb  )
        | (go_at_call 18; refine (F5.out _ _ _ _ _ HB5.out X1.out.reads.2.2 X1.out.reads.2.1 XI.out.reads.2.2 XI.out.reads.2.1).mono ?_; rintro e W6 ⟨v6_0, rfl, hS0, hb⟩; have HB6 := am2_ (below_then HB5.out (below_size HB5.out) hb); have HL6 := am2_ (below_size hb); have n_ := am2_ ((hb.block _ (blk_lt bp.out)).trans bp.out); clear bp; have bp := n_; clear n_; clear qbp_0 qbp_1; have qbp_0 : W6.cell? ⟨w.heap.size, 0, none⟩ = some (.int .i64 a0_0) := (blk_cell bp.out 0).trans rfl; have qbp_1 : W6.cell? ⟨w.heap.size, 1, none⟩ = some (.slice A1 l1.length c1) := (blk_cell bp.out 1).trans rfl; have XS := am2_ (Seg.new hS0 (below_size HB5.out)); obtain ⟨A6_0, d6_0, e6_0⟩ := Kd.S_slice hS0; subst e6_0; clear F5 hS0 hb  X1 XI))
      obtain ⟨W7, hW_⟩ : ∃ W_, W_ = W6.alloc (.cells #[.int .i64 s1, .slice A6_0 s2.length d6_0] 28) := ⟨_, rfl⟩
      have hb : Below W6.heap.size W6 W7 := by rw [hW_]; exact below_alloc (Below.refl _ _) _
      have hnew_ : W7.heap[W6.heap.size]? = some (.cells #[.int .i64 s1, .slice A6_0 s2.length d6_0] 28 (0, 0)) := by rw [hW_]; exact heap_alloc_new W6 _
      have bsLT := am2_ (show W6.heap.size < W7.heap.size by rw [hW_]; simp)
      have HB7 := am2_ (below_then HB6.out (below_size HB6.out) hb)
      have HL7 := am2_ (below_size hb)
      have n_ := am2_ (XS.out.below hb)
      clear XS
      have XS := n_
      clear n_
      have n_ := am2_ ((hb.block _ (blk_lt bp.out)).trans bp.out)
      clear bp
      have bp := n_
      clear n_
      clear qbp_0 qbp_1
      have qbp_0 : W7.cell? ⟨w.heap.size, 0, none⟩ = some (.int .i64 a0_0) := (blk_cell bp.out 0).trans rfl
      have qbp_1 : W7.cell? ⟨w.heap.size, 1, none⟩ = some (.slice A1 l1.length c1) := (blk_cell bp.out 1).trans rfl
      have bs := am2_ hnew_
      have qbs_0 : W7.cell? ⟨W6.heap.size, 0, none⟩ = some (.int .i64 s1) := (blk_cell bs.out 0).trans rfl
      have qbs_1 : W7.cell? ⟨W6.heap.size, 1, none⟩ = some (.slice A6_0 s2.length d6_0) := (blk_cell bs.out 1).trans rfl
      change Code.wp Try.prog _ _ _ (W6.alloc (.cells #[.int .i64 s1, .slice A6_0 s2.length d6_0] 28))
      rw [← hW_]
      clear hW_ hb hnew_
      go_upto_region 10 with (first
        | (go_at_call 10; refine (F6.out  _ HB7.out ).mono ?_; rintro e W8 ⟨v8_0, rfl, hS0, hb⟩; have HB8 := am2_ (below_then HB7.out (below_size HB7.out) hb); have HL8 := am2_ (below_size hb); have n_ := am2_ (XS.out.below hb); clear XS; have XS := n_; clear n_; have n_ := am2_ ((hb.block _ (blk_lt bp.out)).trans bp.out); clear bp; have bp := n_; clear n_; clear qbp_0 qbp_1; have qbp_0 : W8.cell? ⟨w.heap.size, 0, none⟩ = some (.int .i64 a0_0) := (blk_cell bp.out 0).trans rfl; have qbp_1 : W8.cell? ⟨w.heap.size, 1, none⟩ = some (.slice A1 l1.length c1) := (blk_cell bp.out 1).trans rfl; have n_ := am2_ ((hb.block _ (blk_lt bs.out)).trans bs.out); clear bs; have bs := n_; clear n_; clear qbs_0 qbs_1; have qbs_0 : W8.cell? ⟨W6.heap.size, 0, none⟩ = some (.int .i64 s1) := (blk_cell bs.out 0).trans rfl; have qbs_1 : W8.cell? ⟨W6.heap.size, 1, none⟩ = some (.slice A6_0 s2.length d6_0) := (blk_cell bs.out 1).trans rfl; have XB := am2_ (Seg.new hS0 (below_size HB7.out)); obtain ⟨A8_0, d8_0, e8_0⟩ := Kd.S_slice hS0; subst e8_0; clear F6 hS0 hb  ))
      obtain ⟨W9, hW_⟩ : ∃ W_, W_ = W8.alloc (.cells #[.int .i64 p1, .slice A8_0 p2.length d8_0] 28) := ⟨_, rfl⟩
      have hb : Below W8.heap.size W8 W9 := by rw [hW_]; exact below_alloc (Below.refl _ _) _
      have hnew_ : W9.heap[W8.heap.size]? = some (.cells #[.int .i64 p1, .slice A8_0 p2.length d8_0] 28 (0, 0)) := by rw [hW_]; exact heap_alloc_new W8 _
      have bxLT := am2_ (show W8.heap.size < W9.heap.size by rw [hW_]; simp)
      have HB9 := am2_ (below_then HB8.out (below_size HB8.out) hb)
      have HL9 := am2_ (below_size hb)
      have n_ := am2_ (XS.out.below hb)
      clear XS
      have XS := n_
      clear n_
      have n_ := am2_ (XB.out.below hb)
      clear XB
      have XB := n_
      clear n_
      have n_ := am2_ ((hb.block _ (blk_lt bp.out)).trans bp.out)
      clear bp
      have bp := n_
      clear n_
      clear qbp_0 qbp_1
      have qbp_0 : W9.cell? ⟨w.heap.size, 0, none⟩ = some (.int .i64 a0_0) := (blk_cell bp.out 0).trans rfl
      have qbp_1 : W9.cell? ⟨w.heap.size, 1, none⟩ = some (.slice A1 l1.length c1) := (blk_cell bp.out 1).trans rfl
      have n_ := am2_ ((hb.block _ (blk_lt bs.out)).trans bs.out)
      clear bs
      have bs := n_
      clear n_
      clear qbs_0 qbs_1
      have qbs_0 : W9.cell? ⟨W6.heap.size, 0, none⟩ = some (.int .i64 s1) := (blk_cell bs.out 0).trans rfl
      have qbs_1 : W9.cell? ⟨W6.heap.size, 1, none⟩ = some (.slice A6_0 s2.length d6_0) := (blk_cell bs.out 1).trans rfl
      have bx := am2_ hnew_
      have qbx_0 : W9.cell? ⟨W8.heap.size, 0, none⟩ = some (.int .i64 p1) := (blk_cell bx.out 0).trans rfl
      have qbx_1 : W9.cell? ⟨W8.heap.size, 1, none⟩ = some (.slice A8_0 p2.length d8_0) := (blk_cell bx.out 1).trans rfl
      change Code.wp Try.prog _ _ _ (W8.alloc (.cells #[.int .i64 p1, .slice A8_0 p2.length d8_0] 28))
      rw [← hW_]
      clear hW_ hb hnew_
      go_upto_region 12 with (first
        | (go_at_call 19; refine (F7.out  _ HB9.out ).mono ?_; rintro e W10 ⟨v10_0, rfl, hS0, hb⟩; have HB10 := am2_ (below_then HB9.out (below_size HB9.out) hb); have HL10 := am2_ (below_size hb); have n_ := am2_ (XS.out.below hb); clear XS; have XS := n_; clear n_; have n_ := am2_ (XB.out.below hb); clear XB; have XB := n_; clear n_; have n_ := am2_ ((hb.block _ (blk_lt bp.out)).trans bp.out); clear bp; have bp := n_; clear n_; clear qbp_0 qbp_1; have qbp_0 : W10.cell? ⟨w.heap.size, 0, none⟩ = some (.int .i64 a0_0) := (blk_cell bp.out 0).trans rfl; have qbp_1 : W10.cell? ⟨w.heap.size, 1, none⟩ = some (.slice A1 l1.length c1) := (blk_cell bp.out 1).trans rfl; have n_ := am2_ ((hb.block _ (blk_lt bs.out)).trans bs.out); clear bs; have bs := n_; clear n_; clear qbs_0 qbs_1; have qbs_0 : W10.cell? ⟨W6.heap.size, 0, none⟩ = some (.int .i64 s1) := (blk_cell bs.out 0).trans rfl; have qbs_1 : W10.cell? ⟨W6.heap.size, 1, none⟩ = some (.slice A6_0 s2.length d6_0) := (blk_cell bs.out 1).trans rfl; have n_ := am2_ ((hb.block _ (blk_lt bx.out)).trans bx.out); clear bx; have bx := n_; clear n_; clear qbx_0 qbx_1; have qbx_0 : W10.cell? ⟨W8.heap.size, 0, none⟩ = some (.int .i64 p1) := (blk_cell bx.out 0).trans rfl; have qbx_1 : W10.cell? ⟨W8.heap.size, 1, none⟩ = some (.slice A8_0 p2.length d8_0) := (blk_cell bx.out 1).trans rfl; have XM := am2_ (Seg.new hS0 (below_size HB9.out)); obtain ⟨A10_0, d10_0, e10_0⟩ := Kd.S_slice hS0; subst e10_0; clear F7 hS0 hb  )
        | (go_at_call 20; refine (F8.out _ _ _ _ _ HB10.out XB.out.reads.2.2 XB.out.reads.2.1 XM.out.reads.2.2 XM.out.reads.2.1).mono ?_; rintro e W11 ⟨v11_0, rfl, hS0, hb⟩; have HB11 := am2_ (below_then HB10.out (below_size HB10.out) hb); have HL11 := am2_ (below_size hb); have n_ := am2_ (XS.out.below hb); clear XS; have XS := n_; clear n_; have n_ := am2_ (XB.out.below hb); clear XB; have XB := n_; clear n_; have n_ := am2_ (XM.out.below hb); clear XM; have XM := n_; clear n_; have n_ := am2_ ((hb.block _ (blk_lt bp.out)).trans bp.out); clear bp; have bp := n_; clear n_; clear qbp_0 qbp_1; have qbp_0 : W11.cell? ⟨w.heap.size, 0, none⟩ = some (.int .i64 a0_0) := (blk_cell bp.out 0).trans rfl; have qbp_1 : W11.cell? ⟨w.heap.size, 1, none⟩ = some (.slice A1 l1.length c1) := (blk_cell bp.out 1).trans rfl; have n_ := am2_ ((hb.block _ (blk_lt bs.out)).trans bs.out); clear bs; have bs := n_; clear n_; clear qbs_0 qbs_1; have qbs_0 : W11.cell? ⟨W6.heap.size, 0, none⟩ = some (.int .i64 s1) := (blk_cell bs.out 0).trans rfl; have qbs_1 : W11.cell? ⟨W6.heap.size, 1, none⟩ = some (.slice A6_0 s2.length d6_0) := (blk_cell bs.out 1).trans rfl; have n_ := am2_ ((hb.block _ (blk_lt bx.out)).trans bx.out); clear bx; have bx := n_; clear n_; clear qbx_0 qbx_1; have qbx_0 : W11.cell? ⟨W8.heap.size, 0, none⟩ = some (.int .i64 p1) := (blk_cell bx.out 0).trans rfl; have qbx_1 : W11.cell? ⟨W8.heap.size, 1, none⟩ = some (.slice A8_0 p2.length d8_0) := (blk_cell bx.out 1).trans rfl; have XR := am2_ (Seg.new hS0 (below_size HB10.out)); obtain ⟨A11_0, d11_0, e11_0⟩ := Kd.S_slice hS0; subst e11_0; clear F8 hS0 hb  ))
      obtain ⟨W12, hW_⟩ : ∃ W_, W_ = W11.alloc (.cells #[.int .i64 r1, .slice A11_0 r2.length d11_0] 28) := ⟨_, rfl⟩
      have hb : Below W11.heap.size W11 W12 := by rw [hW_]; exact below_alloc (Below.refl _ _) _
      have hnew_ : W12.heap[W11.heap.size]? = some (.cells #[.int .i64 r1, .slice A11_0 r2.length d11_0] 28 (0, 0)) := by rw [hW_]; exact heap_alloc_new W11 _
      have bgLT := am2_ (show W11.heap.size < W12.heap.size by rw [hW_]; simp)
      have HB12 := am2_ (below_then HB11.out (below_size HB11.out) hb)
      have HL12 := am2_ (below_size hb)
      have n_ := am2_ (XS.out.below hb)
      clear XS
      have XS := n_
      clear n_
      have n_ := am2_ (XB.out.below hb)
      clear XB
      have XB := n_
      clear n_
      have n_ := am2_ (XM.out.below hb)
      clear XM
      have XM := n_
      clear n_
      have n_ := am2_ (XR.out.below hb)
      clear XR
      have XR := n_
      clear n_
      have n_ := am2_ ((hb.block _ (blk_lt bp.out)).trans bp.out)
      clear bp
      have bp := n_
      clear n_
      clear qbp_0 qbp_1
      have qbp_0 : W12.cell? ⟨w.heap.size, 0, none⟩ = some (.int .i64 a0_0) := (blk_cell bp.out 0).trans rfl
      have qbp_1 : W12.cell? ⟨w.heap.size, 1, none⟩ = some (.slice A1 l1.length c1) := (blk_cell bp.out 1).trans rfl
      have n_ := am2_ ((hb.block _ (blk_lt bs.out)).trans bs.out)
      clear bs
      have bs := n_
      clear n_
      clear qbs_0 qbs_1
      have qbs_0 : W12.cell? ⟨W6.heap.size, 0, none⟩ = some (.int .i64 s1) := (blk_cell bs.out 0).trans rfl
      have qbs_1 : W12.cell? ⟨W6.heap.size, 1, none⟩ = some (.slice A6_0 s2.length d6_0) := (blk_cell bs.out 1).trans rfl
      have n_ := am2_ ((hb.block _ (blk_lt bx.out)).trans bx.out)
      clear bx
      have bx := n_
      clear n_
      clear qbx_0 qbx_1
      have qbx_0 : W12.cell? ⟨W8.heap.size, 0, none⟩ = some (.int .i64 p1) := (blk_cell bx.out 0).trans rfl
      have qbx_1 : W12.cell? ⟨W8.heap.size, 1, none⟩ = some (.slice A8_0 p2.length d8_0) := (blk_cell bx.out 1).trans rfl
      have bg := am2_ hnew_
      have qbg_0 : W12.cell? ⟨W11.heap.size, 0, none⟩ = some (.int .i64 r1) := (blk_cell bg.out 0).trans rfl
      have qbg_1 : W12.cell? ⟨W11.heap.size, 1, none⟩ = some (.slice A11_0 r2.length d11_0) := (blk_cell bg.out 1).trans rfl
      change Code.wp Try.prog _ _ _ (W11.alloc (.cells #[.int .i64 r1, .slice A11_0 r2.length d11_0] 28))
      rw [← hW_]
      clear hW_ hb hnew_
      go_upto_region 14 with (first
        | (go_at_call 13; refine (F9.out _ _ _ _ _ HB12.out XR.out.reads.2.2 XR.out.reads.2.1 XS.out.reads.2.2 XS.out.reads.2.1).mono ?_; rintro e W13 ⟨rfl, hb⟩; have HB13 := am2_ (below_then HB12.out (below_size HB12.out) hb); have HL13 := am2_ (below_size hb); have n_ := am2_ (XS.out.below hb); clear XS; have XS := n_; clear n_; have n_ := am2_ (XB.out.below hb); clear XB; have XB := n_; clear n_; have n_ := am2_ (XM.out.below hb); clear XM; have XM := n_; clear n_; have n_ := am2_ (XR.out.below hb); clear XR; have XR := n_; clear n_; have n_ := am2_ ((hb.block _ (blk_lt bp.out)).trans bp.out); clear bp; have bp := n_; clear n_; clear qbp_0 qbp_1; have qbp_0 : W13.cell? ⟨w.heap.size, 0, none⟩ = some (.int .i64 a0_0) := (blk_cell bp.out 0).trans rfl; have qbp_1 : W13.cell? ⟨w.heap.size, 1, none⟩ = some (.slice A1 l1.length c1) := (blk_cell bp.out 1).trans rfl; have n_ := am2_ ((hb.block _ (blk_lt bs.out)).trans bs.out); clear bs; have bs := n_; clear n_; clear qbs_0 qbs_1; have qbs_0 : W13.cell? ⟨W6.heap.size, 0, none⟩ = some (.int .i64 s1) := (blk_cell bs.out 0).trans rfl; have qbs_1 : W13.cell? ⟨W6.heap.size, 1, none⟩ = some (.slice A6_0 s2.length d6_0) := (blk_cell bs.out 1).trans rfl; have n_ := am2_ ((hb.block _ (blk_lt bx.out)).trans bx.out); clear bx; have bx := n_; clear n_; clear qbx_0 qbx_1; have qbx_0 : W13.cell? ⟨W8.heap.size, 0, none⟩ = some (.int .i64 p1) := (blk_cell bx.out 0).trans rfl; have qbx_1 : W13.cell? ⟨W8.heap.size, 1, none⟩ = some (.slice A8_0 p2.length d8_0) := (blk_cell bx.out 1).trans rfl; have n_ := am2_ ((hb.block _ (blk_lt bg.out)).trans bg.out); clear bg; have bg := n_; clear n_; clear qbg_0 qbg_1; have qbg_0 : W13.cell? ⟨W11.heap.size, 0, none⟩ = some (.int .i64 r1) := (blk_cell bg.out 0).trans rfl; have qbg_1 : W13.cell? ⟨W11.heap.size, 1, none⟩ = some (.slice A11_0 r2.length d11_0) := (blk_cell bg.out 1).trans rfl; clear F9  hb  ))
      refine wp_region_held_drew (S := (fun w' => w'.cell? ⟨w.heap.size, 0, none⟩ = some (.int .i64 a0_0) ∧ w'.cell? ⟨w.heap.size, 1, none⟩ = some (.slice A1 l1.length c1) ∧ w'.cell? ⟨W6.heap.size, 0, none⟩ = some (.int .i64 s1) ∧ w'.cell? ⟨W6.heap.size, 1, none⟩ = some (.slice A6_0 s2.length d6_0) ∧ w'.cell? ⟨W8.heap.size, 0, none⟩ = some (.int .i64 p1) ∧ w'.cell? ⟨W8.heap.size, 1, none⟩ = some (.slice A8_0 p2.length d8_0) ∧ w'.cell? ⟨W11.heap.size, 0, none⟩ = some (.int .i64 r1) ∧ w'.cell? ⟨W11.heap.size, 1, none⟩ = some (.slice A11_0 r2.length d11_0))) (by kernel_rfl) ?r14__s (fun hHeld => ?r14__0)
      case r14__s => exact ⟨qbp_0, qbp_1, qbs_0, qbs_1, qbx_0, qbx_1, qbg_0, qbg_1⟩
      case r14__0 =>
      obtain ⟨W14, hW_⟩ : ∃ W_, W_ = W13.drew := ⟨_, rfl⟩
      have hb : Below W13.heap.size W13 W14 := by rw [hW_]; exact below_drew1 (Below.refl _ _)
      have HB14 := am2_ (below_then HB13.out (below_size HB13.out) hb)
      have HL14 := am2_ (below_size hb)
      have n_ := am2_ (XS.out.below hb)
      clear XS
      have XS := n_
      clear n_
      have n_ := am2_ (XB.out.below hb)
      clear XB
      have XB := n_
      clear n_
      have n_ := am2_ (XM.out.below hb)
      clear XM
      have XM := n_
      clear n_
      have n_ := am2_ (XR.out.below hb)
      clear XR
      have XR := n_
      clear n_
      have n_ := am2_ ((hb.block _ (blk_lt bp.out)).trans bp.out)
      clear bp
      have bp := n_
      clear n_
      clear qbp_0 qbp_1
      have qbp_0 : W14.cell? ⟨w.heap.size, 0, none⟩ = some (.int .i64 a0_0) := (blk_cell bp.out 0).trans rfl
      have qbp_1 : W14.cell? ⟨w.heap.size, 1, none⟩ = some (.slice A1 l1.length c1) := (blk_cell bp.out 1).trans rfl
      have n_ := am2_ ((hb.block _ (blk_lt bs.out)).trans bs.out)
      clear bs
      have bs := n_
      clear n_
      clear qbs_0 qbs_1
      have qbs_0 : W14.cell? ⟨W6.heap.size, 0, none⟩ = some (.int .i64 s1) := (blk_cell bs.out 0).trans rfl
      have qbs_1 : W14.cell? ⟨W6.heap.size, 1, none⟩ = some (.slice A6_0 s2.length d6_0) := (blk_cell bs.out 1).trans rfl
      have n_ := am2_ ((hb.block _ (blk_lt bx.out)).trans bx.out)
      clear bx
      have bx := n_
      clear n_
      clear qbx_0 qbx_1
      have qbx_0 : W14.cell? ⟨W8.heap.size, 0, none⟩ = some (.int .i64 p1) := (blk_cell bx.out 0).trans rfl
      have qbx_1 : W14.cell? ⟨W8.heap.size, 1, none⟩ = some (.slice A8_0 p2.length d8_0) := (blk_cell bx.out 1).trans rfl
      have n_ := am2_ ((hb.block _ (blk_lt bg.out)).trans bg.out)
      clear bg
      have bg := n_
      clear n_
      clear qbg_0 qbg_1
      have qbg_0 : W14.cell? ⟨W11.heap.size, 0, none⟩ = some (.int .i64 r1) := (blk_cell bg.out 0).trans rfl
      have qbg_1 : W14.cell? ⟨W11.heap.size, 1, none⟩ = some (.slice A11_0 r2.length d11_0) := (blk_cell bg.out 1).trans rfl
      rw [← hW_] at hHeld ⊢
      clear hW_ hb
      refine takeL (i := 0) (some 58) (v := ?r14_1_v) rfl rfl (by kernel_rfl) (by kernel_rfl) (by kernel_rfl) (fun _ _ _ h => h) (Or.inl ⟨by rfl, ?r14_1_y⟩) hHeld ?r14_1_n
      case r14_1_y => intro w_ hS_; (try dsimp only at hS_); go_simp; try (with_reducible rfl)
      simp only [Act.put, List.setIfInBounds_toArray, List.set_cons_zero, List.set_cons_succ]
      refine takeL (i := 1) (some 59) (v := ?r14_2_v) rfl rfl (by kernel_rfl) (by kernel_rfl) (by kernel_rfl) (fun _ _ _ h => h) (Or.inl ⟨by rfl, ?r14_2_y⟩) hHeld ?r14_2_n
      case r14_2_y => intro w_ hS_; (try dsimp only at hS_); go_simp; try (with_reducible rfl)
      simp only [Act.put, List.setIfInBounds_toArray, List.set_cons_zero, List.set_cons_succ]
      refine wpAnyH_ready (rs := [2]) (by kernel_rfl) (by simp) ?_
      refine AllReadyH.cons rfl (fun K hK => ?_) AllReadyH.nil
      go_simp
      (go_at_call 10; refine (F10.out  _ HB14.out ).mono ?_; rintro e W15 ⟨v15_0, rfl, hS0, hb⟩; have HB15 := am2_ (below_then HB14.out (below_size HB14.out) hb); have HL15 := am2_ (below_size hb); have n_ := am2_ (XS.out.below hb); clear XS; have XS := n_; clear n_; have n_ := am2_ (XB.out.below hb); clear XB; have XB := n_; clear n_; have n_ := am2_ (XM.out.below hb); clear XM; have XM := n_; clear n_; have n_ := am2_ (XR.out.below hb); clear XR; have XR := n_; clear n_; have n_ := am2_ ((hb.block _ (blk_lt bp.out)).trans bp.out); clear bp; have bp := n_; clear n_; clear qbp_0 qbp_1; have qbp_0 : W15.cell? ⟨w.heap.size, 0, none⟩ = some (.int .i64 a0_0) := (blk_cell bp.out 0).trans rfl; have qbp_1 : W15.cell? ⟨w.heap.size, 1, none⟩ = some (.slice A1 l1.length c1) := (blk_cell bp.out 1).trans rfl; have n_ := am2_ ((hb.block _ (blk_lt bs.out)).trans bs.out); clear bs; have bs := n_; clear n_; clear qbs_0 qbs_1; have qbs_0 : W15.cell? ⟨W6.heap.size, 0, none⟩ = some (.int .i64 s1) := (blk_cell bs.out 0).trans rfl; have qbs_1 : W15.cell? ⟨W6.heap.size, 1, none⟩ = some (.slice A6_0 s2.length d6_0) := (blk_cell bs.out 1).trans rfl; have n_ := am2_ ((hb.block _ (blk_lt bx.out)).trans bx.out); clear bx; have bx := n_; clear n_; clear qbx_0 qbx_1; have qbx_0 : W15.cell? ⟨W8.heap.size, 0, none⟩ = some (.int .i64 p1) := (blk_cell bx.out 0).trans rfl; have qbx_1 : W15.cell? ⟨W8.heap.size, 1, none⟩ = some (.slice A8_0 p2.length d8_0) := (blk_cell bx.out 1).trans rfl; have n_ := am2_ ((hb.block _ (blk_lt bg.out)).trans bg.out); clear bg; have bg := n_; clear n_; clear qbg_0 qbg_1; have qbg_0 : W15.cell? ⟨W11.heap.size, 0, none⟩ = some (.int .i64 r1) := (blk_cell bg.out 0).trans rfl; have qbg_1 : W15.cell? ⟨W11.heap.size, 1, none⟩ = some (.slice A11_0 r2.length d11_0) := (blk_cell bg.out 1).trans rfl; have XC := am2_ (Seg.new hS0 (below_size HB14.out)); obtain ⟨A15_0, d15_0, e15_0⟩ := Kd.S_slice hS0; subst e15_0; clear F10 hS0 hb  )
      refine hK.out _ _ ?r14_3_s (fun hHeld2 => ?r14_3_n)
      case r14_3_s => (try dsimp only); exact ⟨qbp_0, qbp_1, qbs_0, qbs_1, qbx_0, qbx_1, qbg_0, qbg_1⟩
      clear hK K hHeld; have hHeld := hHeld2; clear hHeld2
      refine wpAnyH_ready (rs := [3]) (by kernel_rfl) (by simp) ?_
      refine AllReadyH.cons rfl (fun K hK => ?_) AllReadyH.nil
      go_simp
      (go_at_call 13; refine (F11.out _ _ _ _ _ HB15.out XB.out.reads.2.2 XB.out.reads.2.1 XC.out.reads.2.2 XC.out.reads.2.1).mono ?_; rintro e W16 ⟨rfl, hb⟩; have HB16 := am2_ (below_then HB15.out (below_size HB15.out) hb); have HL16 := am2_ (below_size hb); have n_ := am2_ (XS.out.below hb); clear XS; have XS := n_; clear n_; have n_ := am2_ (XB.out.below hb); clear XB; have XB := n_; clear n_; have n_ := am2_ (XM.out.below hb); clear XM; have XM := n_; clear n_; have n_ := am2_ (XR.out.below hb); clear XR; have XR := n_; clear n_; have n_ := am2_ ((hb.block _ (blk_lt bp.out)).trans bp.out); clear bp; have bp := n_; clear n_; clear qbp_0 qbp_1; have qbp_0 : W16.cell? ⟨w.heap.size, 0, none⟩ = some (.int .i64 a0_0) := (blk_cell bp.out 0).trans rfl; have qbp_1 : W16.cell? ⟨w.heap.size, 1, none⟩ = some (.slice A1 l1.length c1) := (blk_cell bp.out 1).trans rfl; have n_ := am2_ ((hb.block _ (blk_lt bs.out)).trans bs.out); clear bs; have bs := n_; clear n_; clear qbs_0 qbs_1; have qbs_0 : W16.cell? ⟨W6.heap.size, 0, none⟩ = some (.int .i64 s1) := (blk_cell bs.out 0).trans rfl; have qbs_1 : W16.cell? ⟨W6.heap.size, 1, none⟩ = some (.slice A6_0 s2.length d6_0) := (blk_cell bs.out 1).trans rfl; have n_ := am2_ ((hb.block _ (blk_lt bx.out)).trans bx.out); clear bx; have bx := n_; clear n_; clear qbx_0 qbx_1; have qbx_0 : W16.cell? ⟨W8.heap.size, 0, none⟩ = some (.int .i64 p1) := (blk_cell bx.out 0).trans rfl; have qbx_1 : W16.cell? ⟨W8.heap.size, 1, none⟩ = some (.slice A8_0 p2.length d8_0) := (blk_cell bx.out 1).trans rfl; have n_ := am2_ ((hb.block _ (blk_lt bg.out)).trans bg.out); clear bg; have bg := n_; clear n_; clear qbg_0 qbg_1; have qbg_0 : W16.cell? ⟨W11.heap.size, 0, none⟩ = some (.int .i64 r1) := (blk_cell bg.out 0).trans rfl; have qbg_1 : W16.cell? ⟨W11.heap.size, 1, none⟩ = some (.slice A11_0 r2.length d11_0) := (blk_cell bg.out 1).trans rfl; clear F11  hb  XC)
      refine hK.out _ _ ?r14_4_s (fun hHeld2 => ?r14_4_n)
      case r14_4_s => (try dsimp only); exact ⟨qbp_0, qbp_1, qbs_0, qbs_1, qbx_0, qbx_1, qbg_0, qbg_1⟩
      clear hK K hHeld; have hHeld := hHeld2; clear hHeld2
      refine takeL (i := 4) (some 62) (v := ?r14_5_v) rfl rfl (by kernel_rfl) (by kernel_rfl) (by kernel_rfl) (fun _ _ _ h => h) (Or.inl ⟨by rfl, ?r14_5_y⟩) hHeld ?r14_5_n
      case r14_5_y => intro w_ hS_; (try dsimp only at hS_); go_simp; try (with_reducible rfl)
      simp only [Act.put, List.setIfInBounds_toArray, List.set_cons_zero, List.set_cons_succ]
      refine wpAnyH_done (by kernel_rfl) ?_ _
      go_upto_region 32 with (first
        | (go_at_call 19; refine (F12.out  _ HB16.out ).mono ?_; rintro e W17 ⟨v17_0, rfl, hS0, hb⟩; have HB17 := am2_ (below_then HB16.out (below_size HB16.out) hb); have HL17 := am2_ (below_size hb); have n_ := am2_ (XS.out.below hb); clear XS; have XS := n_; clear n_; have n_ := am2_ (XB.out.below hb); clear XB; have XB := n_; clear n_; have n_ := am2_ (XM.out.below hb); clear XM; have XM := n_; clear n_; have n_ := am2_ (XR.out.below hb); clear XR; have XR := n_; clear n_; have n_ := am2_ ((hb.block _ (blk_lt bp.out)).trans bp.out); clear bp; have bp := n_; clear n_; clear qbp_0 qbp_1; have qbp_0 : W17.cell? ⟨w.heap.size, 0, none⟩ = some (.int .i64 a0_0) := (blk_cell bp.out 0).trans rfl; have qbp_1 : W17.cell? ⟨w.heap.size, 1, none⟩ = some (.slice A1 l1.length c1) := (blk_cell bp.out 1).trans rfl; have n_ := am2_ ((hb.block _ (blk_lt bs.out)).trans bs.out); clear bs; have bs := n_; clear n_; clear qbs_0 qbs_1; have qbs_0 : W17.cell? ⟨W6.heap.size, 0, none⟩ = some (.int .i64 s1) := (blk_cell bs.out 0).trans rfl; have qbs_1 : W17.cell? ⟨W6.heap.size, 1, none⟩ = some (.slice A6_0 s2.length d6_0) := (blk_cell bs.out 1).trans rfl; have n_ := am2_ ((hb.block _ (blk_lt bx.out)).trans bx.out); clear bx; have bx := n_; clear n_; clear qbx_0 qbx_1; have qbx_0 : W17.cell? ⟨W8.heap.size, 0, none⟩ = some (.int .i64 p1) := (blk_cell bx.out 0).trans rfl; have qbx_1 : W17.cell? ⟨W8.heap.size, 1, none⟩ = some (.slice A8_0 p2.length d8_0) := (blk_cell bx.out 1).trans rfl; have n_ := am2_ ((hb.block _ (blk_lt bg.out)).trans bg.out); clear bg; have bg := n_; clear n_; clear qbg_0 qbg_1; have qbg_0 : W17.cell? ⟨W11.heap.size, 0, none⟩ = some (.int .i64 r1) := (blk_cell bg.out 0).trans rfl; have qbg_1 : W17.cell? ⟨W11.heap.size, 1, none⟩ = some (.slice A11_0 r2.length d11_0) := (blk_cell bg.out 1).trans rfl; have XD := am2_ (Seg.new hS0 (below_size HB16.out)); obtain ⟨A17_0, d17_0, e17_0⟩ := Kd.S_slice hS0; subst e17_0; clear F12 hS0 hb  )
        | (go_at_call 12; refine (F13.out _ _ _ _ _ HB17.out XM.out.reads.2.2 XM.out.reads.2.1 XD.out.reads.2.2 XD.out.reads.2.1).mono ?_; rintro e W18 ⟨rfl, hd⟩; have hb := drawn_below hd; have HB18 := am2_ (below_then HB17.out (below_size HB17.out) hb); have HL18 := am2_ (below_size hb); have n_ := am2_ (XS.out.below hb); clear XS; have XS := n_; clear n_; have n_ := am2_ (XB.out.below hb); clear XB; have XB := n_; clear n_; have n_ := am2_ (XM.out.below hb); clear XM; have XM := n_; clear n_; have n_ := am2_ (XR.out.below hb); clear XR; have XR := n_; clear n_; have n_ := am2_ ((hb.block _ (blk_lt bp.out)).trans bp.out); clear bp; have bp := n_; clear n_; clear qbp_0 qbp_1; have qbp_0 : W18.cell? ⟨w.heap.size, 0, none⟩ = some (.int .i64 a0_0) := (blk_cell bp.out 0).trans rfl; have qbp_1 : W18.cell? ⟨w.heap.size, 1, none⟩ = some (.slice A1 l1.length c1) := (blk_cell bp.out 1).trans rfl; have n_ := am2_ ((hb.block _ (blk_lt bs.out)).trans bs.out); clear bs; have bs := n_; clear n_; clear qbs_0 qbs_1; have qbs_0 : W18.cell? ⟨W6.heap.size, 0, none⟩ = some (.int .i64 s1) := (blk_cell bs.out 0).trans rfl; have qbs_1 : W18.cell? ⟨W6.heap.size, 1, none⟩ = some (.slice A6_0 s2.length d6_0) := (blk_cell bs.out 1).trans rfl; have n_ := am2_ ((hb.block _ (blk_lt bx.out)).trans bx.out); clear bx; have bx := n_; clear n_; clear qbx_0 qbx_1; have qbx_0 : W18.cell? ⟨W8.heap.size, 0, none⟩ = some (.int .i64 p1) := (blk_cell bx.out 0).trans rfl; have qbx_1 : W18.cell? ⟨W8.heap.size, 1, none⟩ = some (.slice A8_0 p2.length d8_0) := (blk_cell bx.out 1).trans rfl; have n_ := am2_ ((hb.block _ (blk_lt bg.out)).trans bg.out); clear bg; have bg := n_; clear n_; clear qbg_0 qbg_1; have qbg_0 : W18.cell? ⟨W11.heap.size, 0, none⟩ = some (.int .i64 r1) := (blk_cell bg.out 0).trans rfl; have qbg_1 : W18.cell? ⟨W11.heap.size, 1, none⟩ = some (.slice A11_0 r2.length d11_0) := (blk_cell bg.out 1).trans rfl; clear F13  hb hd XD)
        | (go_at_call 14; refine (F14.out (fun k_ => W7.heap.size ≤ k_ ∧ k_ < W8.heap.size) _ _ HB18.out XB.out).mono ?_; rintro e W19 ⟨rfl, hS, hB2, hK⟩; have HB19 := am2_ hB2; have HL19 := am2_ hK.1; have n_ := am2_ (XS.out.kept hK (.inl HL7.out)); clear XS; have XS := n_; clear n_; have n_ := am2_ (XM.out.kept hK (.inr HL9.out)); clear XM; have XM := n_; clear n_; have n_ := am2_ (XR.out.kept hK (.inr (Nat.le_trans HL9.out HL10.out))); clear XR; have XR := n_; clear n_; have n_ := am2_ ((hK.2 _ (blk_lt bp.out) (fun h => absurd h.1 (Nat.not_le.2 (Nat.lt_of_lt_of_le bpLT.out (Nat.le_trans (Nat.le_trans (Nat.le_trans (Nat.le_trans (Nat.le_trans HL2.out HL3.out) HL4.out) HL5.out) HL6.out) HL7.out))))).trans bp.out); clear bp; have bp := n_; clear n_; clear qbp_0 qbp_1; have qbp_0 : W19.cell? ⟨w.heap.size, 0, none⟩ = some (.int .i64 a0_0) := (blk_cell bp.out 0).trans rfl; have qbp_1 : W19.cell? ⟨w.heap.size, 1, none⟩ = some (.slice A1 l1.length c1) := (blk_cell bp.out 1).trans rfl; have n_ := am2_ ((hK.2 _ (blk_lt bs.out) (fun h => absurd h.1 (Nat.not_le.2 (Nat.lt_of_lt_of_le bsLT.out (Nat.le_refl _))))).trans bs.out); clear bs; have bs := n_; clear n_; clear qbs_0 qbs_1; have qbs_0 : W19.cell? ⟨W6.heap.size, 0, none⟩ = some (.int .i64 s1) := (blk_cell bs.out 0).trans rfl; have qbs_1 : W19.cell? ⟨W6.heap.size, 1, none⟩ = some (.slice A6_0 s2.length d6_0) := (blk_cell bs.out 1).trans rfl; have n_ := am2_ ((hK.2 _ (blk_lt bx.out) (fun h => absurd h.2 (Nat.not_lt.2 (Nat.le_refl _)))).trans bx.out); clear bx; have bx := n_; clear n_; clear qbx_0 qbx_1; have qbx_0 : W19.cell? ⟨W8.heap.size, 0, none⟩ = some (.int .i64 p1) := (blk_cell bx.out 0).trans rfl; have qbx_1 : W19.cell? ⟨W8.heap.size, 1, none⟩ = some (.slice A8_0 p2.length d8_0) := (blk_cell bx.out 1).trans rfl; have n_ := am2_ ((hK.2 _ (blk_lt bg.out) (fun h => absurd h.2 (Nat.not_lt.2 (Nat.le_trans (Nat.le_trans HL9.out HL10.out) HL11.out)))).trans bg.out); clear bg; have bg := n_; clear n_; clear qbg_0 qbg_1; have qbg_0 : W19.cell? ⟨W11.heap.size, 0, none⟩ = some (.int .i64 r1) := (blk_cell bg.out 0).trans rfl; have qbg_1 : W19.cell? ⟨W11.heap.size, 1, none⟩ = some (.slice A11_0 r2.length d11_0) := (blk_cell bg.out 1).trans rfl; clear F14 hS hB2 hK XB)
        | (go_at_call 15; refine (F15.out (fun k_ => W9.heap.size ≤ k_ ∧ k_ < W10.heap.size) _ _ HB19.out XM.out).mono ?_; rintro e W20 ⟨rfl, hS, hB2, hK⟩; have HB20 := am2_ hB2; have HL20 := am2_ hK.1; have n_ := am2_ (XS.out.kept hK (.inl (Nat.le_trans (Nat.le_trans HL7.out HL8.out) HL9.out))); clear XS; have XS := n_; clear n_; have n_ := am2_ (XR.out.kept hK (.inr (Nat.le_refl _))); clear XR; have XR := n_; clear n_; have n_ := am2_ ((hK.2 _ (blk_lt bp.out) (fun h => absurd h.1 (Nat.not_le.2 (Nat.lt_of_lt_of_le bpLT.out (Nat.le_trans (Nat.le_trans (Nat.le_trans (Nat.le_trans (Nat.le_trans (Nat.le_trans (Nat.le_trans HL2.out HL3.out) HL4.out) HL5.out) HL6.out) HL7.out) HL8.out) HL9.out))))).trans bp.out); clear bp; have bp := n_; clear n_; clear qbp_0 qbp_1; have qbp_0 : W20.cell? ⟨w.heap.size, 0, none⟩ = some (.int .i64 a0_0) := (blk_cell bp.out 0).trans rfl; have qbp_1 : W20.cell? ⟨w.heap.size, 1, none⟩ = some (.slice A1 l1.length c1) := (blk_cell bp.out 1).trans rfl; have n_ := am2_ ((hK.2 _ (blk_lt bs.out) (fun h => absurd h.1 (Nat.not_le.2 (Nat.lt_of_lt_of_le bsLT.out (Nat.le_trans HL8.out HL9.out))))).trans bs.out); clear bs; have bs := n_; clear n_; clear qbs_0 qbs_1; have qbs_0 : W20.cell? ⟨W6.heap.size, 0, none⟩ = some (.int .i64 s1) := (blk_cell bs.out 0).trans rfl; have qbs_1 : W20.cell? ⟨W6.heap.size, 1, none⟩ = some (.slice A6_0 s2.length d6_0) := (blk_cell bs.out 1).trans rfl; have n_ := am2_ ((hK.2 _ (blk_lt bx.out) (fun h => absurd h.1 (Nat.not_le.2 (Nat.lt_of_lt_of_le bxLT.out (Nat.le_refl _))))).trans bx.out); clear bx; have bx := n_; clear n_; clear qbx_0 qbx_1; have qbx_0 : W20.cell? ⟨W8.heap.size, 0, none⟩ = some (.int .i64 p1) := (blk_cell bx.out 0).trans rfl; have qbx_1 : W20.cell? ⟨W8.heap.size, 1, none⟩ = some (.slice A8_0 p2.length d8_0) := (blk_cell bx.out 1).trans rfl; have n_ := am2_ ((hK.2 _ (blk_lt bg.out) (fun h => absurd h.2 (Nat.not_lt.2 HL11.out))).trans bg.out); clear bg; have bg := n_; clear n_; clear qbg_0 qbg_1; have qbg_0 : W20.cell? ⟨W11.heap.size, 0, none⟩ = some (.int .i64 r1) := (blk_cell bg.out 0).trans rfl; have qbg_1 : W20.cell? ⟨W11.heap.size, 1, none⟩ = some (.slice A11_0 r2.length d11_0) := (blk_cell bg.out 1).trans rfl; clear F15 hS hB2 hK XM)
        | (go_at_call 13; refine (F16.out _ _ _ _ _ HB20.out XR.out.reads.2.2 XR.out.reads.2.1 XS.out.reads.2.2 XS.out.reads.2.1).mono ?_; rintro e W21 ⟨rfl, hb⟩; have HB21 := am2_ (below_then HB20.out (below_size HB20.out) hb); have HL21 := am2_ (below_size hb); have n_ := am2_ (XS.out.below hb); clear XS; have XS := n_; clear n_; have n_ := am2_ (XR.out.below hb); clear XR; have XR := n_; clear n_; have n_ := am2_ ((hb.block _ (blk_lt bp.out)).trans bp.out); clear bp; have bp := n_; clear n_; clear qbp_0 qbp_1; have qbp_0 : W21.cell? ⟨w.heap.size, 0, none⟩ = some (.int .i64 a0_0) := (blk_cell bp.out 0).trans rfl; have qbp_1 : W21.cell? ⟨w.heap.size, 1, none⟩ = some (.slice A1 l1.length c1) := (blk_cell bp.out 1).trans rfl; have n_ := am2_ ((hb.block _ (blk_lt bs.out)).trans bs.out); clear bs; have bs := n_; clear n_; clear qbs_0 qbs_1; have qbs_0 : W21.cell? ⟨W6.heap.size, 0, none⟩ = some (.int .i64 s1) := (blk_cell bs.out 0).trans rfl; have qbs_1 : W21.cell? ⟨W6.heap.size, 1, none⟩ = some (.slice A6_0 s2.length d6_0) := (blk_cell bs.out 1).trans rfl; have n_ := am2_ ((hb.block _ (blk_lt bx.out)).trans bx.out); clear bx; have bx := n_; clear n_; clear qbx_0 qbx_1; have qbx_0 : W21.cell? ⟨W8.heap.size, 0, none⟩ = some (.int .i64 p1) := (blk_cell bx.out 0).trans rfl; have qbx_1 : W21.cell? ⟨W8.heap.size, 1, none⟩ = some (.slice A8_0 p2.length d8_0) := (blk_cell bx.out 1).trans rfl; have n_ := am2_ ((hb.block _ (blk_lt bg.out)).trans bg.out); clear bg; have bg := n_; clear n_; clear qbg_0 qbg_1; have qbg_0 : W21.cell? ⟨W11.heap.size, 0, none⟩ = some (.int .i64 r1) := (blk_cell bg.out 0).trans rfl; have qbg_1 : W21.cell? ⟨W11.heap.size, 1, none⟩ = some (.slice A11_0 r2.length d11_0) := (blk_cell bg.out 1).trans rfl; clear F16  hb  )
        | (go_at_call 14; refine (F17.out (fun k_ => W10.heap.size ≤ k_ ∧ k_ < W11.heap.size) _ _ HB21.out XR.out).mono ?_; rintro e W22 ⟨rfl, hS, hB2, hK⟩; have HB22 := am2_ hB2; have HL22 := am2_ hK.1; have n_ := am2_ (XS.out.kept hK (.inl (Nat.le_trans (Nat.le_trans (Nat.le_trans HL7.out HL8.out) HL9.out) HL10.out))); clear XS; have XS := n_; clear n_; have n_ := am2_ ((hK.2 _ (blk_lt bp.out) (fun h => absurd h.1 (Nat.not_le.2 (Nat.lt_of_lt_of_le bpLT.out (Nat.le_trans (Nat.le_trans (Nat.le_trans (Nat.le_trans (Nat.le_trans (Nat.le_trans (Nat.le_trans (Nat.le_trans HL2.out HL3.out) HL4.out) HL5.out) HL6.out) HL7.out) HL8.out) HL9.out) HL10.out))))).trans bp.out); clear bp; have bp := n_; clear n_; clear qbp_0 qbp_1; have qbp_0 : W22.cell? ⟨w.heap.size, 0, none⟩ = some (.int .i64 a0_0) := (blk_cell bp.out 0).trans rfl; have qbp_1 : W22.cell? ⟨w.heap.size, 1, none⟩ = some (.slice A1 l1.length c1) := (blk_cell bp.out 1).trans rfl; have n_ := am2_ ((hK.2 _ (blk_lt bs.out) (fun h => absurd h.1 (Nat.not_le.2 (Nat.lt_of_lt_of_le bsLT.out (Nat.le_trans (Nat.le_trans HL8.out HL9.out) HL10.out))))).trans bs.out); clear bs; have bs := n_; clear n_; clear qbs_0 qbs_1; have qbs_0 : W22.cell? ⟨W6.heap.size, 0, none⟩ = some (.int .i64 s1) := (blk_cell bs.out 0).trans rfl; have qbs_1 : W22.cell? ⟨W6.heap.size, 1, none⟩ = some (.slice A6_0 s2.length d6_0) := (blk_cell bs.out 1).trans rfl; have n_ := am2_ ((hK.2 _ (blk_lt bx.out) (fun h => absurd h.1 (Nat.not_le.2 (Nat.lt_of_lt_of_le bxLT.out HL10.out)))).trans bx.out); clear bx; have bx := n_; clear n_; clear qbx_0 qbx_1; have qbx_0 : W22.cell? ⟨W8.heap.size, 0, none⟩ = some (.int .i64 p1) := (blk_cell bx.out 0).trans rfl; have qbx_1 : W22.cell? ⟨W8.heap.size, 1, none⟩ = some (.slice A8_0 p2.length d8_0) := (blk_cell bx.out 1).trans rfl; have n_ := am2_ ((hK.2 _ (blk_lt bg.out) (fun h => absurd h.2 (Nat.not_lt.2 (Nat.le_refl _)))).trans bg.out); clear bg; have bg := n_; clear n_; clear qbg_0 qbg_1; have qbg_0 : W22.cell? ⟨W11.heap.size, 0, none⟩ = some (.int .i64 r1) := (blk_cell bg.out 0).trans rfl; have qbg_1 : W22.cell? ⟨W11.heap.size, 1, none⟩ = some (.slice A11_0 r2.length d11_0) := (blk_cell bg.out 1).trans rfl; have YXR := am2_ hS; clear F17 hS hB2 hK XR)
        | (go_at_call 21; refine (heldAtP YXR.out fun h2_ h3_ => F18.out _ _ _ HB22.out h2_ h3_).mono ?_; rintro e W23 ⟨rfl, hb⟩; have HB23 := am2_ (below_then HB22.out (below_size HB22.out) hb); have HL23 := am2_ (below_size hb); have n_ := am2_ (XS.out.below hb); clear XS; have XS := n_; clear n_; have n_ := am2_ (Kd.S_below YXR.out hb); clear YXR; have YXR := n_; clear n_; have n_ := am2_ ((hb.block _ (blk_lt bp.out)).trans bp.out); clear bp; have bp := n_; clear n_; clear qbp_0 qbp_1; have qbp_0 : W23.cell? ⟨w.heap.size, 0, none⟩ = some (.int .i64 a0_0) := (blk_cell bp.out 0).trans rfl; have qbp_1 : W23.cell? ⟨w.heap.size, 1, none⟩ = some (.slice A1 l1.length c1) := (blk_cell bp.out 1).trans rfl; have n_ := am2_ ((hb.block _ (blk_lt bs.out)).trans bs.out); clear bs; have bs := n_; clear n_; clear qbs_0 qbs_1; have qbs_0 : W23.cell? ⟨W6.heap.size, 0, none⟩ = some (.int .i64 s1) := (blk_cell bs.out 0).trans rfl; have qbs_1 : W23.cell? ⟨W6.heap.size, 1, none⟩ = some (.slice A6_0 s2.length d6_0) := (blk_cell bs.out 1).trans rfl; have n_ := am2_ ((hb.block _ (blk_lt bx.out)).trans bx.out); clear bx; have bx := n_; clear n_; clear qbx_0 qbx_1; have qbx_0 : W23.cell? ⟨W8.heap.size, 0, none⟩ = some (.int .i64 p1) := (blk_cell bx.out 0).trans rfl; have qbx_1 : W23.cell? ⟨W8.heap.size, 1, none⟩ = some (.slice A8_0 p2.length d8_0) := (blk_cell bx.out 1).trans rfl; have n_ := am2_ ((hb.block _ (blk_lt bg.out)).trans bg.out); clear bg; have bg := n_; clear n_; clear qbg_0 qbg_1; have qbg_0 : W23.cell? ⟨W11.heap.size, 0, none⟩ = some (.int .i64 r1) := (blk_cell bg.out 0).trans rfl; have qbg_1 : W23.cell? ⟨W11.heap.size, 1, none⟩ = some (.slice A11_0 r2.length d11_0) := (blk_cell bg.out 1).trans rfl; clear F18  hb  )
        | (go_at_call 10; refine (F19.out  _ HB23.out ).mono ?_; rintro e W24 ⟨v24_0, rfl, hS0, hb⟩; have HB24 := am2_ (below_then HB23.out (below_size HB23.out) hb); have HL24 := am2_ (below_size hb); have n_ := am2_ (XS.out.below hb); clear XS; have XS := n_; clear n_; have n_ := am2_ (Kd.S_below YXR.out hb); clear YXR; have YXR := n_; clear n_; have n_ := am2_ ((hb.block _ (blk_lt bp.out)).trans bp.out); clear bp; have bp := n_; clear n_; clear qbp_0 qbp_1; have qbp_0 : W24.cell? ⟨w.heap.size, 0, none⟩ = some (.int .i64 a0_0) := (blk_cell bp.out 0).trans rfl; have qbp_1 : W24.cell? ⟨w.heap.size, 1, none⟩ = some (.slice A1 l1.length c1) := (blk_cell bp.out 1).trans rfl; have n_ := am2_ ((hb.block _ (blk_lt bs.out)).trans bs.out); clear bs; have bs := n_; clear n_; clear qbs_0 qbs_1; have qbs_0 : W24.cell? ⟨W6.heap.size, 0, none⟩ = some (.int .i64 s1) := (blk_cell bs.out 0).trans rfl; have qbs_1 : W24.cell? ⟨W6.heap.size, 1, none⟩ = some (.slice A6_0 s2.length d6_0) := (blk_cell bs.out 1).trans rfl; have n_ := am2_ ((hb.block _ (blk_lt bx.out)).trans bx.out); clear bx; have bx := n_; clear n_; clear qbx_0 qbx_1; have qbx_0 : W24.cell? ⟨W8.heap.size, 0, none⟩ = some (.int .i64 p1) := (blk_cell bx.out 0).trans rfl; have qbx_1 : W24.cell? ⟨W8.heap.size, 1, none⟩ = some (.slice A8_0 p2.length d8_0) := (blk_cell bx.out 1).trans rfl; have n_ := am2_ ((hb.block _ (blk_lt bg.out)).trans bg.out); clear bg; have bg := n_; clear n_; clear qbg_0 qbg_1; have qbg_0 : W24.cell? ⟨W11.heap.size, 0, none⟩ = some (.int .i64 r1) := (blk_cell bg.out 0).trans rfl; have qbg_1 : W24.cell? ⟨W11.heap.size, 1, none⟩ = some (.slice A11_0 r2.length d11_0) := (blk_cell bg.out 1).trans rfl; have XE := am2_ (Seg.new hS0 (below_size HB23.out)); obtain ⟨A24_0, d24_0, e24_0⟩ := Kd.S_slice hS0; subst e24_0; clear F19 hS0 hb  )
        | (go_at_call 19; refine (F20.out  _ HB24.out ).mono ?_; rintro e W25 ⟨v25_0, rfl, hS0, hb⟩; have HB25 := am2_ (below_then HB24.out (below_size HB24.out) hb); have HL25 := am2_ (below_size hb); have n_ := am2_ (XS.out.below hb); clear XS; have XS := n_; clear n_; have n_ := am2_ (Kd.S_below YXR.out hb); clear YXR; have YXR := n_; clear n_; have n_ := am2_ (XE.out.below hb); clear XE; have XE := n_; clear n_; have n_ := am2_ ((hb.block _ (blk_lt bp.out)).trans bp.out); clear bp; have bp := n_; clear n_; clear qbp_0 qbp_1; have qbp_0 : W25.cell? ⟨w.heap.size, 0, none⟩ = some (.int .i64 a0_0) := (blk_cell bp.out 0).trans rfl; have qbp_1 : W25.cell? ⟨w.heap.size, 1, none⟩ = some (.slice A1 l1.length c1) := (blk_cell bp.out 1).trans rfl; have n_ := am2_ ((hb.block _ (blk_lt bs.out)).trans bs.out); clear bs; have bs := n_; clear n_; clear qbs_0 qbs_1; have qbs_0 : W25.cell? ⟨W6.heap.size, 0, none⟩ = some (.int .i64 s1) := (blk_cell bs.out 0).trans rfl; have qbs_1 : W25.cell? ⟨W6.heap.size, 1, none⟩ = some (.slice A6_0 s2.length d6_0) := (blk_cell bs.out 1).trans rfl; have n_ := am2_ ((hb.block _ (blk_lt bx.out)).trans bx.out); clear bx; have bx := n_; clear n_; clear qbx_0 qbx_1; have qbx_0 : W25.cell? ⟨W8.heap.size, 0, none⟩ = some (.int .i64 p1) := (blk_cell bx.out 0).trans rfl; have qbx_1 : W25.cell? ⟨W8.heap.size, 1, none⟩ = some (.slice A8_0 p2.length d8_0) := (blk_cell bx.out 1).trans rfl; have n_ := am2_ ((hb.block _ (blk_lt bg.out)).trans bg.out); clear bg; have bg := n_; clear n_; clear qbg_0 qbg_1; have qbg_0 : W25.cell? ⟨W11.heap.size, 0, none⟩ = some (.int .i64 r1) := (blk_cell bg.out 0).trans rfl; have qbg_1 : W25.cell? ⟨W11.heap.size, 1, none⟩ = some (.slice A11_0 r2.length d11_0) := (blk_cell bg.out 1).trans rfl; have XJ := am2_ (Seg.new hS0 (below_size HB24.out)); obtain ⟨A25_0, d25_0, e25_0⟩ := Kd.S_slice hS0; subst e25_0; clear F20 hS0 hb  )
        | (go_at_call 20; refine (F21.out _ _ _ _ _ HB25.out XE.out.reads.2.2 XE.out.reads.2.1 XJ.out.reads.2.2 XJ.out.reads.2.1).mono ?_; rintro e W26 ⟨v26_0, rfl, hS0, hb⟩; have HB26 := am2_ (below_then HB25.out (below_size HB25.out) hb); have HL26 := am2_ (below_size hb); have n_ := am2_ (XS.out.below hb); clear XS; have XS := n_; clear n_; have n_ := am2_ (Kd.S_below YXR.out hb); clear YXR; have YXR := n_; clear n_; have n_ := am2_ ((hb.block _ (blk_lt bp.out)).trans bp.out); clear bp; have bp := n_; clear n_; clear qbp_0 qbp_1; have qbp_0 : W26.cell? ⟨w.heap.size, 0, none⟩ = some (.int .i64 a0_0) := (blk_cell bp.out 0).trans rfl; have qbp_1 : W26.cell? ⟨w.heap.size, 1, none⟩ = some (.slice A1 l1.length c1) := (blk_cell bp.out 1).trans rfl; have n_ := am2_ ((hb.block _ (blk_lt bs.out)).trans bs.out); clear bs; have bs := n_; clear n_; clear qbs_0 qbs_1; have qbs_0 : W26.cell? ⟨W6.heap.size, 0, none⟩ = some (.int .i64 s1) := (blk_cell bs.out 0).trans rfl; have qbs_1 : W26.cell? ⟨W6.heap.size, 1, none⟩ = some (.slice A6_0 s2.length d6_0) := (blk_cell bs.out 1).trans rfl; have n_ := am2_ ((hb.block _ (blk_lt bx.out)).trans bx.out); clear bx; have bx := n_; clear n_; clear qbx_0 qbx_1; have qbx_0 : W26.cell? ⟨W8.heap.size, 0, none⟩ = some (.int .i64 p1) := (blk_cell bx.out 0).trans rfl; have qbx_1 : W26.cell? ⟨W8.heap.size, 1, none⟩ = some (.slice A8_0 p2.length d8_0) := (blk_cell bx.out 1).trans rfl; have n_ := am2_ ((hb.block _ (blk_lt bg.out)).trans bg.out); clear bg; have bg := n_; clear n_; clear qbg_0 qbg_1; have qbg_0 : W26.cell? ⟨W11.heap.size, 0, none⟩ = some (.int .i64 r1) := (blk_cell bg.out 0).trans rfl; have qbg_1 : W26.cell? ⟨W11.heap.size, 1, none⟩ = some (.slice A11_0 r2.length d11_0) := (blk_cell bg.out 1).trans rfl; have XG := am2_ (Seg.new hS0 (below_size HB25.out)); obtain ⟨A26_0, d26_0, e26_0⟩ := Kd.S_slice hS0; subst e26_0; clear F21 hS0 hb  XE XJ))
      obtain ⟨W27, hW_⟩ : ∃ W_, W_ = W26.alloc (.cells #[.int .i64 r1, .slice A26_0 r2.length d26_0] 28) := ⟨_, rfl⟩
      have hb : Below W26.heap.size W26 W27 := by rw [hW_]; exact below_alloc (Below.refl _ _) _
      have hnew_ : W27.heap[W26.heap.size]? = some (.cells #[.int .i64 r1, .slice A26_0 r2.length d26_0] 28 (0, 0)) := by rw [hW_]; exact heap_alloc_new W26 _
      have bhLT := am2_ (show W26.heap.size < W27.heap.size by rw [hW_]; simp)
      have HB27 := am2_ (below_then HB26.out (below_size HB26.out) hb)
      have HL27 := am2_ (below_size hb)
      have n_ := am2_ (XS.out.below hb)
      clear XS
      have XS := n_
      clear n_
      have n_ := am2_ (Kd.S_below YXR.out hb)
      clear YXR
      have YXR := n_
      clear n_
      have n_ := am2_ (XG.out.below hb)
      clear XG
      have XG := n_
      clear n_
      have n_ := am2_ ((hb.block _ (blk_lt bp.out)).trans bp.out)
      clear bp
      have bp := n_
      clear n_
      clear qbp_0 qbp_1
      have qbp_0 : W27.cell? ⟨w.heap.size, 0, none⟩ = some (.int .i64 a0_0) := (blk_cell bp.out 0).trans rfl
      have qbp_1 : W27.cell? ⟨w.heap.size, 1, none⟩ = some (.slice A1 l1.length c1) := (blk_cell bp.out 1).trans rfl
      have n_ := am2_ ((hb.block _ (blk_lt bs.out)).trans bs.out)
      clear bs
      have bs := n_
      clear n_
      clear qbs_0 qbs_1
      have qbs_0 : W27.cell? ⟨W6.heap.size, 0, none⟩ = some (.int .i64 s1) := (blk_cell bs.out 0).trans rfl
      have qbs_1 : W27.cell? ⟨W6.heap.size, 1, none⟩ = some (.slice A6_0 s2.length d6_0) := (blk_cell bs.out 1).trans rfl
      have n_ := am2_ ((hb.block _ (blk_lt bx.out)).trans bx.out)
      clear bx
      have bx := n_
      clear n_
      clear qbx_0 qbx_1
      have qbx_0 : W27.cell? ⟨W8.heap.size, 0, none⟩ = some (.int .i64 p1) := (blk_cell bx.out 0).trans rfl
      have qbx_1 : W27.cell? ⟨W8.heap.size, 1, none⟩ = some (.slice A8_0 p2.length d8_0) := (blk_cell bx.out 1).trans rfl
      have n_ := am2_ ((hb.block _ (blk_lt bg.out)).trans bg.out)
      clear bg
      have bg := n_
      clear n_
      clear qbg_0 qbg_1
      have qbg_0 : W27.cell? ⟨W11.heap.size, 0, none⟩ = some (.int .i64 r1) := (blk_cell bg.out 0).trans rfl
      have qbg_1 : W27.cell? ⟨W11.heap.size, 1, none⟩ = some (.slice A11_0 r2.length d11_0) := (blk_cell bg.out 1).trans rfl
      have bh := am2_ hnew_
      have qbh_0 : W27.cell? ⟨W26.heap.size, 0, none⟩ = some (.int .i64 r1) := (blk_cell bh.out 0).trans rfl
      have qbh_1 : W27.cell? ⟨W26.heap.size, 1, none⟩ = some (.slice A26_0 r2.length d26_0) := (blk_cell bh.out 1).trans rfl
      change Code.wp Try.prog _ _ _ (W26.alloc (.cells #[.int .i64 r1, .slice A26_0 r2.length d26_0] 28))
      rw [← hW_]
      clear hW_ hb hnew_
      go_wp2_with (first
        | (go_at_call 13; refine (F22.out _ _ _ _ _ HB27.out XG.out.reads.2.2 XG.out.reads.2.1 XS.out.reads.2.2 XS.out.reads.2.1).mono ?_; rintro e W28 ⟨rfl, hb⟩; have HB28 := am2_ (below_then HB27.out (below_size HB27.out) hb); have HL28 := am2_ (below_size hb); have n_ := am2_ (Kd.S_below YXR.out hb); clear YXR; have YXR := n_; clear n_; have n_ := am2_ ((hb.block _ (blk_lt bp.out)).trans bp.out); clear bp; have bp := n_; clear n_; clear qbp_0 qbp_1; have qbp_0 : W28.cell? ⟨w.heap.size, 0, none⟩ = some (.int .i64 a0_0) := (blk_cell bp.out 0).trans rfl; have qbp_1 : W28.cell? ⟨w.heap.size, 1, none⟩ = some (.slice A1 l1.length c1) := (blk_cell bp.out 1).trans rfl; have n_ := am2_ ((hb.block _ (blk_lt bs.out)).trans bs.out); clear bs; have bs := n_; clear n_; clear qbs_0 qbs_1; have qbs_0 : W28.cell? ⟨W6.heap.size, 0, none⟩ = some (.int .i64 s1) := (blk_cell bs.out 0).trans rfl; have qbs_1 : W28.cell? ⟨W6.heap.size, 1, none⟩ = some (.slice A6_0 s2.length d6_0) := (blk_cell bs.out 1).trans rfl; have n_ := am2_ ((hb.block _ (blk_lt bx.out)).trans bx.out); clear bx; have bx := n_; clear n_; clear qbx_0 qbx_1; have qbx_0 : W28.cell? ⟨W8.heap.size, 0, none⟩ = some (.int .i64 p1) := (blk_cell bx.out 0).trans rfl; have qbx_1 : W28.cell? ⟨W8.heap.size, 1, none⟩ = some (.slice A8_0 p2.length d8_0) := (blk_cell bx.out 1).trans rfl; have n_ := am2_ ((hb.block _ (blk_lt bg.out)).trans bg.out); clear bg; have bg := n_; clear n_; clear qbg_0 qbg_1; have qbg_0 : W28.cell? ⟨W11.heap.size, 0, none⟩ = some (.int .i64 r1) := (blk_cell bg.out 0).trans rfl; have qbg_1 : W28.cell? ⟨W11.heap.size, 1, none⟩ = some (.slice A11_0 r2.length d11_0) := (blk_cell bg.out 1).trans rfl; have n_ := am2_ ((hb.block _ (blk_lt bh.out)).trans bh.out); clear bh; have bh := n_; clear n_; clear qbh_0 qbh_1; have qbh_0 : W28.cell? ⟨W26.heap.size, 0, none⟩ = some (.int .i64 r1) := (blk_cell bh.out 0).trans rfl; have qbh_1 : W28.cell? ⟨W26.heap.size, 1, none⟩ = some (.slice A26_0 r2.length d26_0) := (blk_cell bh.out 1).trans rfl; clear F22  hb  XG XS)
        | (go_at_call 21; refine (heldAtP YXR.out fun h2_ h3_ => F23.out _ _ _ HB28.out h2_ h3_).mono ?_; rintro e W29 ⟨rfl, hb⟩; have HB29 := am2_ (below_then HB28.out (below_size HB28.out) hb); have HL29 := am2_ (below_size hb); have n_ := am2_ ((hb.block _ (blk_lt bp.out)).trans bp.out); clear bp; have bp := n_; clear n_; clear qbp_0 qbp_1; have qbp_0 : W29.cell? ⟨w.heap.size, 0, none⟩ = some (.int .i64 a0_0) := (blk_cell bp.out 0).trans rfl; have qbp_1 : W29.cell? ⟨w.heap.size, 1, none⟩ = some (.slice A1 l1.length c1) := (blk_cell bp.out 1).trans rfl; have n_ := am2_ ((hb.block _ (blk_lt bs.out)).trans bs.out); clear bs; have bs := n_; clear n_; clear qbs_0 qbs_1; have qbs_0 : W29.cell? ⟨W6.heap.size, 0, none⟩ = some (.int .i64 s1) := (blk_cell bs.out 0).trans rfl; have qbs_1 : W29.cell? ⟨W6.heap.size, 1, none⟩ = some (.slice A6_0 s2.length d6_0) := (blk_cell bs.out 1).trans rfl; have n_ := am2_ ((hb.block _ (blk_lt bx.out)).trans bx.out); clear bx; have bx := n_; clear n_; clear qbx_0 qbx_1; have qbx_0 : W29.cell? ⟨W8.heap.size, 0, none⟩ = some (.int .i64 p1) := (blk_cell bx.out 0).trans rfl; have qbx_1 : W29.cell? ⟨W8.heap.size, 1, none⟩ = some (.slice A8_0 p2.length d8_0) := (blk_cell bx.out 1).trans rfl; have n_ := am2_ ((hb.block _ (blk_lt bg.out)).trans bg.out); clear bg; have bg := n_; clear n_; clear qbg_0 qbg_1; have qbg_0 : W29.cell? ⟨W11.heap.size, 0, none⟩ = some (.int .i64 r1) := (blk_cell bg.out 0).trans rfl; have qbg_1 : W29.cell? ⟨W11.heap.size, 1, none⟩ = some (.slice A11_0 r2.length d11_0) := (blk_cell bg.out 1).trans rfl; have n_ := am2_ ((hb.block _ (blk_lt bh.out)).trans bh.out); clear bh; have bh := n_; clear n_; clear qbh_0 qbh_1; have qbh_0 : W29.cell? ⟨W26.heap.size, 0, none⟩ = some (.int .i64 r1) := (blk_cell bh.out 0).trans rfl; have qbh_1 : W29.cell? ⟨W26.heap.size, 1, none⟩ = some (.slice A26_0 r2.length d26_0) := (blk_cell bh.out 1).trans rfl; clear F23  hb  YXR))
      go_ret
      exact ⟨rfl, HB29.out⟩

end Go.Proofs.Ytbcdngjajjgmkaa.PFnExactStabilizerPresentation
