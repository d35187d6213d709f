/- Written by this session's program out of the kit's print and this session's contracts. -/
import Derived.Test.YthaklblepjbdeaaPFnExactCyclicReducex0
import Derived.Test.YthaklblepjbdeaaPFnExactCyclicReducex1
import Derived.Test.YthaklblepjbdeaaPFnExactCyclicReducex2
namespace Go.Proofs.Ythaklblepjbdeaa.PFnExactCyclicReduce
open Go.RowKit Go.Proofs.YthaklblepjbdeaaW.PrintWords Go.Proofs.YthaklblepjbdeaaW.PrintLast Go.Proofs.YthaklblepjbdeaaW.PrintMore
attribute [local go_sem] max2_int min2_int max_two min_two max_three min_three max_four min_four   -- for this text's walks alone
set_option linter.unusedVariables false
set_option linter.unusedSimpArgs false

/-! ### impl_CyclicReduce: function 22 -/
def impl_CyclicReduce.f (k : Nat) (l0 : List Int) : Option (List Int) := (impl_IsWord.f l0).bind fun b => if b = true then (impl_reduced.f k l0).bind fun r => (if r.length < 17592186044416 then some (cycOf r.length r) else none) else some []
theorem impl_CyclicReduce.mono : ∀ l0 k, LeO (impl_CyclicReduce.f k l0) (impl_CyclicReduce.f (k + 1) l0) := by
  intro l k
  unfold impl_CyclicReduce.f
  exact LeO.bind (LeO.refl _) fun _ => LeO.ite (LeO.bind (impl_reduced.mono l k) fun _ => LeO.refl _) (LeO.refl _)
set_option maxHeartbeats 8000000 in
set_option maxRecDepth 100000 in
theorem impl_CyclicReduce.calls (k : Nat) (A0 : Option Addr) (c0 : Nat) (l0 : List Int) (r : List Int) (w : World) (hr0 : Kd.C (Kd.int .i64) w A0 l0.length l0) (hc0 : l0.length ≤ c0) (h : impl_CyclicReduce.f k l0 = some r) :
    Calls Try.prog 22 #[.slice A0 l0.length c0] w fun e w' => ∃ v0_ : Value, e = .returned (v0_) ∧ Kd.R (Kd.int .i64) 2 w' w.heap.size (fun _ => True) v0_ r ∧ Below w.heap.size w w' := by
  unfold impl_CyclicReduce.f at h
  obtain ⟨b, hb, h⟩ := Option.bind_eq_some_iff.mp h
  have CW := Aside0.mk (impl_IsWord.calls A0 c0 l0 b w hr0 hc0 hb)
  clear hb
  cases b with
  | false =>
    obtain rfl : [] = r := by simpa using h
    clear h hr0 hc0
    go_enter Try.func22, Try.ntmps22
    go_wp2_with (go_at_call 55; (with_reducible refine CW.out.mono ?_); rintro e w1 ⟨rfl, hb1⟩)
    go_ret
    exact ⟨_, rfl, Kd.R_nil _ _ _ _ _, hb1⟩
  | true =>
    rw [if_pos rfl] at h
    obtain ⟨q, hq, h⟩ := Option.bind_eq_some_iff.mp h
    by_cases hL : q.length < 17592186044416
    case neg => rw [if_neg hL] at h; exact absurd h (by simp)
    rw [if_pos hL] at h
    obtain rfl : cycOf q.length q = r := Option.some.inj h
    have CR := Aside0.mk (fun (W : World) (hw : Below w.heap.size w W) => impl_reduced.calls k A0 c0 l0 q W (Kd.C_below hr0 hw) hc0 hq)
    have LM := Aside0.mk hL
    clear h hr0 hc0 hq hL
    go_enter Try.func22, Try.ntmps22
    go_wp2_with (first
      | (go_at_call 55; (with_reducible refine CW.out.mono ?_); rintro e w1 ⟨rfl, hb1⟩)
      | (go_at_call 56; refine (CR.out _ hb1).mono ?_; rintro e w2 ⟨v0, rfl, ho, hb⟩; obtain ⟨A1, c1, e1⟩ := Kd.R_slice ho; subst e1; obtain ⟨_, hc1, hC1⟩ := Kd.R_reads' ho; have HC1 := Aside0.mk hC1; have HL1 := Aside0.mk hc1; have HB := Aside0.mk (show Below w.heap.size w w2 from below_then hb1 (below_size hb1) hb); clear ho hb hc1 hC1 hb1))
    clear CW CR
    go_loopg [3] q.length (fun gg s3 wr => ∃ (A : Option Addr) (c : Nat) (l : List Int), s3 = .slice A l.length c ∧ Aside0 (Kd.C (Kd.int .i64) wr A l.length l) ∧ Aside0 (l.length ≤ c) ∧ Aside0 (l.length ≤ gg ∧ l.length < 17592186044416) ∧ Aside0 (Below w.heap.size w wr) ∧ Aside0 (cycOf gg l = cycOf q.length q))
    case atStart => exact ⟨A1, c1, q, rfl, HC1, HL1, ⟨Nat.le_refl _, LM.out⟩, HB, ⟨rfl⟩⟩
    case round =>
      clear HC1 HL1 HB
      obtain ⟨A, c, l, rfl, HC, HL, HK, HB, HY⟩ := hrel
      by_cases h1 : 1 < l.length
      · have h1z : decide ((l.length : Int) > 1) = true := decide_eq_true (by omega)
        obtain ⟨ad, e, hx0⟩ := Kd.at_int HC.out 0 (by omega) (by omega)
        cases e
        obtain ⟨ad2, e, hx1⟩ := Kd.at_int HC.out ((l.length : Int) - 1) (by omega) (by omega)
        cases e
        rw [show (Int.toNat 0) = 0 from rfl, Addr.add_zero'] at hx0
        have q0 : (0 < l.length) = True := eq_true (by omega)
        obtain ⟨j, hj⟩ : ∃ j : Nat, (l.length : Int) - 1 = (j : Int) := ⟨l.length - 1, by omega⟩
        have w1 : IntKind.i64.wrap ((l.length : Int) - 1) = (j : Int) := by have := HK.out.2; rw [i64_w, hj]; unfold wrap64; omega
        have q1 : (j < l.length) = True := eq_true (by omega)
        rw [hj, Int.toNat_natCast] at hx1
        have HJ := Aside0.mk hj
        have H1 := Aside0.mk h1
        by_cases h2 : rd l 0 = wrap64 (-(rd l (j : Int)))
        · have h2b : (rd l 0 == IntKind.i64.wrap (-(rd l (j : Int)))) = true := by rw [i64_w]; exact beq_iff_eq.2 h2
          have h2c : (rd l 0 == wrap64 (-(rd l (j : Int)))) = true := beq_iff_eq.2 h2
          obtain ⟨m, hm, hcy⟩ := cycOf_go gk l HK.out.1 ⟨h1, by rw [hj]; exact h2⟩
          have HM := Aside0.mk hm
          have jc : (j ≤ c) = True := eq_true (by have := HL.out; omega)
          have j1 : (1 ≤ (j : Int)) = True := eq_true (by omega)
          have c1f : (c = 1) = False := eq_false (by have := HL.out; omega)
          obtain ⟨y, hy⟩ : ∃ y : List Int, y = (l.take (l.length - 1)).drop 1 := ⟨_, rfl⟩
          have hyl : y.length = j - 1 := by rw [hy]; simp; omega
          have hC2 : Kd.C (Kd.int .i64) wr (some (ad.add 1)) y.length y := by
            have h3 := Kd.C_mid (lo := 1) (hi := l.length - 1) HC.out (by omega) (by omega) HL.out
            rw [if_neg (by have := HL.out; omega)] at h3
            rw [hy]
            exact h3
          rw [← hy] at hcy
          have HCY := Aside0.mk (hcy.symm.trans HY.out)
          have HC2 := Aside0.mk hC2
          have HYL := Aside0.mk hyl
          clear hm hcy h2 HY hj h1 hy hyl hC2
          go_wp2
          go_quiet (fail)
          go_wp2
          go_roundg m
          case measure => have := HM.out; omega
          case rel => exact ⟨some (ad.add 1), c - 1, y, by rw [HYL.out]; rfl, ⟨Kd.C_drewN HC2.out nq⟩, ⟨by have := HYL.out; have := HL.out; have := HJ.out; omega⟩, ⟨by have := HYL.out; have := HK.out; have := HJ.out; have := HM.out; omega⟩, ⟨pw_below_drewN HB.out nq⟩, ⟨HCY.out⟩⟩
        · have h2b : (rd l 0 == IntKind.i64.wrap (-(rd l (j : Int)))) = false := by rw [i64_w]; exact beq_eq_false_iff_ne.2 h2
          have h2c : (rd l 0 == wrap64 (-(rd l (j : Int)))) = false := beq_eq_false_iff_ne.2 h2
          have HE := Aside0.mk (HY.out.symm.trans (cycOf_stop gk l fun h => h2 (by rw [← hj]; exact h.2)))
          clear h2 hj h1
          go_wp2
          go_quiet (fail)
          go_wp2_with (go_at_call 59; refine (slices_Clone_int64_int64.calls (some ad) c l l (wr.drewN nq) (Kd.C_drewN HC.out nq) HL.out (if_pos HK.out.2)).mono ?_; rintro e w4 ⟨v2, rfl, ho, hb⟩; have HO2 := Aside0.mk (Kd.R_lower ho (below_size (pw_below_drewN HB.out nq))); have HB4 := Aside0.mk (show Below w.heap.size w w4 from below_then (pw_below_drewN HB.out nq) (below_size (pw_below_drewN HB.out nq)) hb); clear ho hb)
          go_ret
          exact ⟨_, rfl, by rw [HE.out]; exact HO2.out, HB4.out⟩
      · have HE := Aside0.mk (HY.out.symm.trans (cycOf_stop gk l fun h => h1 h.1))
        have h1z : decide ((l.length : Int) > 1) = false := decide_eq_false (by omega)
        clear h1
        go_wp2
        go_quiet (fail)
        go_wp2_with (go_at_call 59; refine (slices_Clone_int64_int64.calls A c l l (wr.drewN nq) (Kd.C_drewN HC.out nq) HL.out (if_pos HK.out.2)).mono ?_; rintro e w4 ⟨v2, rfl, ho, hb⟩; have HO2 := Aside0.mk (Kd.R_lower ho (below_size (pw_below_drewN HB.out nq))); have HB4 := Aside0.mk (show Below w.heap.size w w4 from below_then (pw_below_drewN HB.out nq) (below_size (pw_below_drewN HB.out nq)) hb); clear ho hb)
        go_ret
        exact ⟨_, rfl, by rw [HE.out]; exact HO2.out, HB4.out⟩

/-! ### laws_FnExactCyclicReduce: function 5 -/
def laws_FnExactCyclicReduce.j0 : Nat → List Int → List Int → List Int → Bool → Option (Bool)
  | 0, _, _, _, _ => none
  | k + 1, x0, x3, x5, x39 => if x39 = true then (some false) else ((laws_markInt64S.f k x5 1).bind fun bt161 => ((laws_heldInt64S.f k bt161.2 1).bind fun t163 => (if t163 < 0 then (some false) else (if t163 = bt161.1 then ((laws_toInt64S.f k x0).bind fun t164 => ((impl_CyclicReduce.f k t164).bind fun t167 => ((laws_eqInt64S.f k t167 x3).bind fun t170 => (if t170 = true then ((laws_heldInt64S.f k bt161.2 1).bind fun t171 => (if t171 < 0 then (some false) else (if t171 = bt161.1 then (some true) else (some false)))) else (some false))))) else (some false)))))
def laws_FnExactCyclicReduce.f (k : Nat) (l0 : List Int) : Option (Bool) := if (l0.length : Int) > 1048576 then (some true) else ((laws_toInt64S.f k l0).bind fun t141 => ((spec_CyclicReduce.f k t141).bind fun t144 => ((laws_toInt64S.f k l0).bind fun t147 => ((impl_CyclicReduce.f k t147).bind fun t150 => ((laws_eqInt64S.f k t150 t144).bind fun t153 => (if t153 = true then ((laws_toInt64S.f k l0).bind fun t154 => ((laws_eqInt64S.f k t147 t154).bind fun t157 => (if t157 = true then ((laws_markInt64S.f k t147 1).bind fun bt158 => (if bt158.1 < 0 then (laws_FnExactCyclicReduce.j0 k l0 t144 t150 true) else ((laws_eqInt64S.f k t150 t144).bind fun t160 => (laws_FnExactCyclicReduce.j0 k l0 t144 t150 (!t160))))) else (some false)))) else (some false)))))))
theorem laws_FnExactCyclicReduce.mono_l : ∀ k, (∀ y0 y1 y2 y3, LeO (laws_FnExactCyclicReduce.j0 k y0 y1 y2 y3) (laws_FnExactCyclicReduce.j0 (k + 1) y0 y1 y2 y3))
  | 0 => fun _ _ _ _ r h => by simp [laws_FnExactCyclicReduce.j0] at h
  | k + 1 => by
    have ih0 := laws_FnExactCyclicReduce.mono_l k
    · intro y0 y1 y2 y3
      unfold laws_FnExactCyclicReduce.j0
      repeat' first
      | (with_reducible exact ih0 _ _ _ _)
      | (with_reducible exact impl_CyclicReduce.mono _ _)
      | (with_reducible exact laws_eqInt64S.mono _ _ _)
      | (with_reducible exact laws_heldInt64S.mono _ _ _)
      | (with_reducible exact laws_markInt64S.mono _ _ _)
      | (with_reducible exact laws_toInt64S.mono _ _)
      | (with_reducible exact spec_CyclicReduce.mono _ _)
      | (with_reducible exact LeO.refl _)
      | (with_reducible exact LeO.none _)
      | (with_reducible refine LeO.ite ?_ ?_)
      | (with_reducible refine LeO.bind ?_ (fun _ => ?_))
      | exact ih0 _ _ _ _
      | exact impl_CyclicReduce.mono _ _
      | exact laws_eqInt64S.mono _ _ _
      | exact laws_heldInt64S.mono _ _ _
      | exact laws_markInt64S.mono _ _ _
      | exact laws_toInt64S.mono _ _
      | exact spec_CyclicReduce.mono _ _
      | exact LeO.none _
      | refine LeO.ite ?_ ?_
      | refine LeO.bind ?_ (fun _ => ?_)
theorem laws_FnExactCyclicReduce.mono : ∀ a0 k, LeO (laws_FnExactCyclicReduce.f k a0) (laws_FnExactCyclicReduce.f (k + 1) a0) := by
  intro a0 k
  have ih0 := laws_FnExactCyclicReduce.mono_l k
  unfold laws_FnExactCyclicReduce.f
  repeat' first
      | (with_reducible exact ih0 _ _ _ _)
      | (with_reducible exact impl_CyclicReduce.mono _ _)
      | (with_reducible exact laws_eqInt64S.mono _ _ _)
      | (with_reducible exact laws_heldInt64S.mono _ _ _)
      | (with_reducible exact laws_markInt64S.mono _ _ _)
      | (with_reducible exact laws_toInt64S.mono _ _)
      | (with_reducible exact spec_CyclicReduce.mono _ _)
      | (with_reducible exact LeO.refl _)
      | (with_reducible exact LeO.none _)
      | (with_reducible refine LeO.ite ?_ ?_)
      | (with_reducible refine LeO.bind ?_ (fun _ => ?_))
      | exact ih0 _ _ _ _
      | exact impl_CyclicReduce.mono _ _
      | exact laws_eqInt64S.mono _ _ _
      | exact laws_heldInt64S.mono _ _ _
      | exact laws_markInt64S.mono _ _ _
      | exact laws_toInt64S.mono _ _
      | exact spec_CyclicReduce.mono _ _
      | exact LeO.none _
      | refine LeO.ite ?_ ?_
      | refine LeO.bind ?_ (fun _ => ?_)
set_option maxHeartbeats 8000000 in
set_option maxRecDepth 100000 in
theorem laws_FnExactCyclicReduce.calls (k : Nat) (A0 : Option Addr) (c0 : Nat) (l0 : List Int) (r : Bool) (w : World) (hr0 : Kd.C (Kd.int .i64) w A0 l0.length l0) (hc0 : l0.length ≤ c0) (h : laws_FnExactCyclicReduce.f k l0 = some r) (HT_ : Aside0 (r = true)) :
    Calls Try.prog 5 #[.slice A0 l0.length c0] w fun e w' => e = .returned (.bool r) ∧ Below w.heap.size w w' := by
  have HR0 := Aside0.mk hr0
  have HC0 := Aside0.mk hc0
  clear hr0 hc0
  have HB := Aside0.mk (Below.refl w.heap.size w)
  have H : (if (l0.length : Int) > 1048576 then (some true) else ((laws_toInt64S.f k l0).bind fun t141 => ((spec_CyclicReduce.f k t141).bind fun t144 => ((laws_toInt64S.f k l0).bind fun t147 => ((impl_CyclicReduce.f k t147).bind fun t150 => ((laws_eqInt64S.f k t150 t144).bind fun t153 => (if t153 = true then ((laws_toInt64S.f k l0).bind fun t154 => ((laws_eqInt64S.f k t147 t154).bind fun t157 => (if t157 = true then ((laws_markInt64S.f k t147 1).bind fun bt158 => (if bt158.1 < 0 then (laws_FnExactCyclicReduce.j0 k l0 t144 t150 true) else ((laws_eqInt64S.f k t150 t144).bind fun t160 => (laws_FnExactCyclicReduce.j0 k l0 t144 t150 (!t160))))) else (some false)))) else (some false)))))))) = some r := h
  clear h
  by_cases c2 : (l0.length : Int) > 1048576
  · rw [if_pos c2] at H
    have c2b0 : decide (1048576 < (l0.length : Int)) = true := decide_eq_true c2
    have c2b1 : decide (1048576 < l0.length) = true := decide_eq_true (by omega)
    clear c2
    obtain rfl := Option.some.inj H
    go_enter Try.func5, Try.ntmps5
    go_wp2
    go_ret
    exact ⟨by first | rfl | (simp [errW_none, errW_some] <;> rfl) | (simp [*, errW_none, errW_some] <;> rfl), by repeat (first | (with_reducible first | exact HB.out | apply below_alloc | apply pw_below_drewN | apply below_drew1) | exact HB.out)⟩
  · rw [if_neg c2] at H
    have c2b0 : decide (1048576 < (l0.length : Int)) = false := decide_eq_false c2
    have c2b1 : decide (1048576 < l0.length) = false := decide_eq_false (by omega)
    clear c2
    replace H := Option.bind_eq_some_iff.mp H
    obtain ⟨t141, A30, H⟩ := H
    replace H : ((spec_CyclicReduce.f k t141).bind fun t144 => ((laws_toInt64S.f k l0).bind fun t147 => ((impl_CyclicReduce.f k t147).bind fun t150 => ((laws_eqInt64S.f k t150 t144).bind fun t153 => (if t153 = true then ((laws_toInt64S.f k l0).bind fun t154 => ((laws_eqInt64S.f k t147 t154).bind fun t157 => (if t157 = true then ((laws_markInt64S.f k t147 1).bind fun bt158 => (if bt158.1 < 0 then (laws_FnExactCyclicReduce.j0 k l0 t144 t150 true) else ((laws_eqInt64S.f k t150 t144).bind fun t160 => (laws_FnExactCyclicReduce.j0 k l0 t144 t150 (!t160))))) else (some false)))) else (some false)))))) = some r := H
    have A3 := Aside0.mk A30
    clear A30
    replace H := Option.bind_eq_some_iff.mp H
    obtain ⟨t144, A40, H⟩ := H
    replace H : ((laws_toInt64S.f k l0).bind fun t147 => ((impl_CyclicReduce.f k t147).bind fun t150 => ((laws_eqInt64S.f k t150 t144).bind fun t153 => (if t153 = true then ((laws_toInt64S.f k l0).bind fun t154 => ((laws_eqInt64S.f k t147 t154).bind fun t157 => (if t157 = true then ((laws_markInt64S.f k t147 1).bind fun bt158 => (if bt158.1 < 0 then (laws_FnExactCyclicReduce.j0 k l0 t144 t150 true) else ((laws_eqInt64S.f k t150 t144).bind fun t160 => (laws_FnExactCyclicReduce.j0 k l0 t144 t150 (!t160))))) else (some false)))) else (some false))))) = some r := H
    have A4 := Aside0.mk A40
    clear A40
    replace H := Option.bind_eq_some_iff.mp H
    obtain ⟨t147, A50, H⟩ := H
    replace H : ((impl_CyclicReduce.f k t147).bind fun t150 => ((laws_eqInt64S.f k t150 t144).bind fun t153 => (if t153 = true then ((laws_toInt64S.f k l0).bind fun t154 => ((laws_eqInt64S.f k t147 t154).bind fun t157 => (if t157 = true then ((laws_markInt64S.f k t147 1).bind fun bt158 => (if bt158.1 < 0 then (laws_FnExactCyclicReduce.j0 k l0 t144 t150 true) else ((laws_eqInt64S.f k t150 t144).bind fun t160 => (laws_FnExactCyclicReduce.j0 k l0 t144 t150 (!t160))))) else (some false)))) else (some false)))) = some r := H
    have A5 := Aside0.mk A50
    clear A50
    replace H := Option.bind_eq_some_iff.mp H
    obtain ⟨t150, A60, H⟩ := H
    replace H : ((laws_eqInt64S.f k t150 t144).bind fun t153 => (if t153 = true then ((laws_toInt64S.f k l0).bind fun t154 => ((laws_eqInt64S.f k t147 t154).bind fun t157 => (if t157 = true then ((laws_markInt64S.f k t147 1).bind fun bt158 => (if bt158.1 < 0 then (laws_FnExactCyclicReduce.j0 k l0 t144 t150 true) else ((laws_eqInt64S.f k t150 t144).bind fun t160 => (laws_FnExactCyclicReduce.j0 k l0 t144 t150 (!t160))))) else (some false)))) else (some false))) = some r := H
    have A6 := Aside0.mk A60
    clear A60
    replace H := Option.bind_eq_some_iff.mp H
    obtain ⟨t153, A70, H⟩ := H
    replace H : (if t153 = true then ((laws_toInt64S.f k l0).bind fun t154 => ((laws_eqInt64S.f k t147 t154).bind fun t157 => (if t157 = true then ((laws_markInt64S.f k t147 1).bind fun bt158 => (if bt158.1 < 0 then (laws_FnExactCyclicReduce.j0 k l0 t144 t150 true) else ((laws_eqInt64S.f k t150 t144).bind fun t160 => (laws_FnExactCyclicReduce.j0 k l0 t144 t150 (!t160))))) else (some false)))) else (some false)) = some r := H
    have A7 := Aside0.mk A70
    clear A70
    by_cases c8 : t153 = true
    · subst c8
      have H1 : ((laws_toInt64S.f k l0).bind fun t154 => ((laws_eqInt64S.f k t147 t154).bind fun t157 => (if t157 = true then ((laws_markInt64S.f k t147 1).bind fun bt158 => (if bt158.1 < 0 then (laws_FnExactCyclicReduce.j0 k l0 t144 t150 true) else ((laws_eqInt64S.f k t150 t144).bind fun t160 => (laws_FnExactCyclicReduce.j0 k l0 t144 t150 (!t160))))) else (some false)))) = some r := by rw [if_pos rfl] at H; exact H
      clear H
      have H := H1
      clear H1
      replace H := Option.bind_eq_some_iff.mp H
      obtain ⟨t154, A90, H⟩ := H
      replace H : ((laws_eqInt64S.f k t147 t154).bind fun t157 => (if t157 = true then ((laws_markInt64S.f k t147 1).bind fun bt158 => (if bt158.1 < 0 then (laws_FnExactCyclicReduce.j0 k l0 t144 t150 true) else ((laws_eqInt64S.f k t150 t144).bind fun t160 => (laws_FnExactCyclicReduce.j0 k l0 t144 t150 (!t160))))) else (some false))) = some r := H
      have A9 := Aside0.mk A90
      clear A90
      replace H := Option.bind_eq_some_iff.mp H
      obtain ⟨t157, A100, H⟩ := H
      replace H : (if t157 = true then ((laws_markInt64S.f k t147 1).bind fun bt158 => (if bt158.1 < 0 then (laws_FnExactCyclicReduce.j0 k l0 t144 t150 true) else ((laws_eqInt64S.f k t150 t144).bind fun t160 => (laws_FnExactCyclicReduce.j0 k l0 t144 t150 (!t160))))) else (some false)) = some r := H
      have A10 := Aside0.mk A100
      clear A100
      by_cases c11 : t157 = true
      · subst c11
        have H1 : ((laws_markInt64S.f k t147 1).bind fun bt158 => (if bt158.1 < 0 then (laws_FnExactCyclicReduce.j0 k l0 t144 t150 true) else ((laws_eqInt64S.f k t150 t144).bind fun t160 => (laws_FnExactCyclicReduce.j0 k l0 t144 t150 (!t160))))) = some r := by rw [if_pos rfl] at H; exact H
        clear H
        have H := H1
        clear H1
        replace H := Option.bind_eq_some_iff.mp H
        obtain ⟨⟨t158, t159⟩, A120, H⟩ := H
        replace H : (if t158 < 0 then (laws_FnExactCyclicReduce.j0 k l0 t144 t150 true) else ((laws_eqInt64S.f k t150 t144).bind fun t160 => (laws_FnExactCyclicReduce.j0 k l0 t144 t150 (!t160)))) = some r := H
        have A12 := Aside0.mk A120
        clear A120
        have HC13 := Aside0.mk H
        clear H
        go_enter Try.func5, Try.ntmps5
        go_upto_region 12 with (first | ((with_reducible refine gate_callee (f := 14) rfl ?_); refine goesL_ (some 14) rfl rfl Try.func14 (by kernel_rfl) rfl #[.slice A0 l0.length c0] rfl (by (try simp only [List.map_toArray, List.map_cons, List.map_nil]); first | done | rfl | (simp only [List.length_drop, List.length_take]; rfl)) ?_; (with_reducible refine (laws_toInt64S.calls k _ _ l0 t141 _ ?side1 ?side2 A3.out).mono ?_); (case side1 => repeat (first | exact HR0.out | (with_reducible refine Kd.C_alloc ?_ _) | (with_reducible refine Kd.C_drewN ?_ _) | (with_reducible refine Kd.C_drew ?_))); (case side2 => exact HC0.out); rintro e w14 ⟨v142, rfl, ho0, hb⟩; refine ⟨_, rfl, ?_⟩; have n0_ := Aside0.mk (Kd.R_lower ho0 (below_size (by repeat (first | (with_reducible first | exact HB.out | apply below_alloc | apply pw_below_drewN | apply below_drew1) | exact HB.out)))); have n1_ := Aside0.mk (below_step (by repeat (first | (with_reducible first | exact HB.out | apply below_alloc | apply pw_below_drewN | apply below_drew1) | exact HB.out)) hb); clear HB; have HO143 := n0_; have HB := n1_; clear n0_ n1_; (try clear hb); (try clear hb2); (try clear hk); (try clear hi); (try clear ho0); obtain ⟨Ao15, co15, eo15⟩ := Kd.R_slice HO143.out; subst eo15) | ((with_reducible refine gate_callee (f := 21) rfl ?_); refine goesL_ (some 15) rfl rfl Try.func21 (by kernel_rfl) rfl #[.slice Ao15 t141.length co15] rfl (by (try simp only [List.map_toArray, List.map_cons, List.map_nil]); first | done | rfl | (simp only [List.length_drop, List.length_take]; rfl)) ?_; (with_reducible refine (spec_CyclicReduce.calls k _ _ t141 t144 _ ?side1 ?side2 A4.out).mono ?_); (case side1 => repeat (first | exact (Kd.R_reads' HO143.out).2.2 | (with_reducible refine Kd.C_alloc ?_ _) | (with_reducible refine Kd.C_drewN ?_ _) | (with_reducible refine Kd.C_drew ?_))); (case side2 => exact (Kd.R_reads' HO143.out).2.1); rintro e w16 ⟨v145, rfl, ho0, hb⟩; refine ⟨_, rfl, ?_⟩; have n0_ := Aside0.mk (Kd.R_elder' (by (with_reducible repeat (first | apply Kd.R_alloc | apply Kd.R_drewN | apply Kd.R_drew)); exact HO143.out) (Kd.R_base ho0) hb); have n1_ := Aside0.mk (Kd.R_lower (Kd.R_new' ho0 (Kd.R_lt (by (with_reducible repeat (first | apply Kd.R_alloc | apply Kd.R_drewN | apply Kd.R_drew)); exact HO143.out))) (below_size (by repeat (first | (with_reducible first | exact HB.out | apply below_alloc | apply pw_below_drewN | apply below_drew1) | exact HB.out)))); have n2_ := Aside0.mk (below_step (by repeat (first | (with_reducible first | exact HB.out | apply below_alloc | apply pw_below_drewN | apply below_drew1) | exact HB.out)) hb); clear HO143; clear HB; have HO143 := n0_; have HO146 := n1_; have HB := n2_; clear n0_ n1_ n2_; (try clear hb); (try clear hb2); (try clear hk); (try clear hi); (try clear ho0)) | ((with_reducible refine gate_callee (f := 14) rfl ?_); refine goesL_ (some 17) rfl rfl Try.func14 (by kernel_rfl) rfl #[.slice A0 l0.length c0] rfl (by (try simp only [List.map_toArray, List.map_cons, List.map_nil]); first | done | rfl | (simp only [List.length_drop, List.length_take]; rfl)) ?_; (with_reducible refine (laws_toInt64S.calls k _ _ l0 t147 _ ?side1 ?side2 A5.out).mono ?_); (case side1 => repeat (first | exact (Kd.C_below HR0.out HB.out) | (with_reducible refine Kd.C_alloc ?_ _) | (with_reducible refine Kd.C_drewN ?_ _) | (with_reducible refine Kd.C_drew ?_))); (case side2 => exact HC0.out); rintro e w17 ⟨v148, rfl, ho0, hb⟩; refine ⟨_, rfl, ?_⟩; have n0_ := Aside0.mk (Kd.R_elder' (by (with_reducible repeat (first | apply Kd.R_alloc | apply Kd.R_drewN | apply Kd.R_drew)); exact HO143.out) (Kd.R_base ho0) hb); have n1_ := Aside0.mk (Kd.R_elder' (by (with_reducible repeat (first | apply Kd.R_alloc | apply Kd.R_drewN | apply Kd.R_drew)); exact HO146.out) (Kd.R_base ho0) hb); have n2_ := Aside0.mk (Kd.R_lower (Kd.R_new' (Kd.R_new' ho0 (Kd.R_lt (by (with_reducible repeat (first | apply Kd.R_alloc | apply Kd.R_drewN | apply Kd.R_drew)); exact HO143.out))) (Kd.R_lt (by (with_reducible repeat (first | apply Kd.R_alloc | apply Kd.R_drewN | apply Kd.R_drew)); exact HO146.out))) (below_size (by repeat (first | (with_reducible first | exact HB.out | apply below_alloc | apply pw_below_drewN | apply below_drew1) | exact HB.out)))); have n3_ := Aside0.mk (below_step (by repeat (first | (with_reducible first | exact HB.out | apply below_alloc | apply pw_below_drewN | apply below_drew1) | exact HB.out)) hb); clear HO143; clear HO146; clear HB; have HO143 := n0_; have HO146 := n1_; have HO149 := n2_; have HB := n3_; clear n0_ n1_ n2_ n3_; (try clear hb); (try clear hb2); (try clear hk); (try clear hi); (try clear ho0); obtain ⟨Ao18, co18, eo18⟩ := Kd.R_slice HO149.out; subst eo18) | ((with_reducible refine gate_callee (f := 22) rfl ?_); refine goesL_ (some 19) rfl rfl Try.func22 (by kernel_rfl) rfl #[.slice Ao18 t147.length co18] rfl (by (try simp only [List.map_toArray, List.map_cons, List.map_nil]); first | done | rfl | (simp only [List.length_drop, List.length_take]; rfl)) ?_; (with_reducible refine (impl_CyclicReduce.calls k _ _ t147 t150 _ ?side1 ?side2 A6.out).mono ?_); (case side1 => repeat (first | exact (Kd.R_reads' HO149.out).2.2 | (with_reducible refine Kd.C_alloc ?_ _) | (with_reducible refine Kd.C_drewN ?_ _) | (with_reducible refine Kd.C_drew ?_))); (case side2 => exact (Kd.R_reads' HO149.out).2.1); rintro e w19 ⟨v151, rfl, ho0, hb⟩; refine ⟨_, rfl, ?_⟩; have n0_ := Aside0.mk (Kd.R_elder' (by (with_reducible repeat (first | apply Kd.R_alloc | apply Kd.R_drewN | apply Kd.R_drew)); exact HO143.out) (Kd.R_base ho0) hb); have n1_ := Aside0.mk (Kd.R_elder' (by (with_reducible repeat (first | apply Kd.R_alloc | apply Kd.R_drewN | apply Kd.R_drew)); exact HO146.out) (Kd.R_base ho0) hb); have n2_ := Aside0.mk (Kd.R_elder' (by (with_reducible repeat (first | apply Kd.R_alloc | apply Kd.R_drewN | apply Kd.R_drew)); exact HO149.out) (Kd.R_base ho0) hb); have n3_ := Aside0.mk (Kd.R_lower (Kd.R_new' (Kd.R_new' (Kd.R_new' ho0 (Kd.R_lt (by (with_reducible repeat (first | apply Kd.R_alloc | apply Kd.R_drewN | apply Kd.R_drew)); exact HO143.out))) (Kd.R_lt (by (with_reducible repeat (first | apply Kd.R_alloc | apply Kd.R_drewN | apply Kd.R_drew)); exact HO146.out))) (Kd.R_lt (by (with_reducible repeat (first | apply Kd.R_alloc | apply Kd.R_drewN | apply Kd.R_drew)); exact HO149.out))) (below_size (by repeat (first | (with_reducible first | exact HB.out | apply below_alloc | apply pw_below_drewN | apply below_drew1) | exact HB.out)))); have n4_ := Aside0.mk (below_step (by repeat (first | (with_reducible first | exact HB.out | apply below_alloc | apply pw_below_drewN | apply below_drew1) | exact HB.out)) hb); clear HO143; clear HO146; clear HO149; clear HB; have HO143 := n0_; have HO146 := n1_; have HO149 := n2_; have HO152 := n3_; have HB := n4_; clear n0_ n1_ n2_ n3_ n4_; (try clear hb); (try clear hb2); (try clear hk); (try clear hi); (try clear ho0); obtain ⟨Ao20, co20, eo20⟩ := Kd.R_slice HO152.out; subst eo20; obtain ⟨Ao21, co21, eo21⟩ := Kd.R_slice HO146.out; subst eo21) | ((with_reducible refine gate_callee (f := 16) rfl ?_); refine goesL_ (some 22) rfl rfl Try.func16 (by kernel_rfl) rfl #[.slice Ao20 t150.length co20, .slice Ao21 t144.length co21] rfl (by (try simp only [List.map_toArray, List.map_cons, List.map_nil]); first | done | rfl | (simp only [List.length_drop, List.length_take]; rfl)) ?_; (with_reducible refine (laws_eqInt64S.calls k _ _ t150 _ _ t144 true _ ?side1 ?side2 ?side3 ?side4 A7.out).mono ?_); (case side1 => repeat (first | exact (Kd.R_reads' HO152.out).2.2 | (with_reducible refine Kd.C_alloc ?_ _) | (with_reducible refine Kd.C_drewN ?_ _) | (with_reducible refine Kd.C_drew ?_))); (case side2 => exact (Kd.R_reads' HO152.out).2.1); (case side3 => repeat (first | exact (Kd.R_reads' HO146.out).2.2 | (with_reducible refine Kd.C_alloc ?_ _) | (with_reducible refine Kd.C_drewN ?_ _) | (with_reducible refine Kd.C_drew ?_))); (case side4 => exact (Kd.R_reads' HO146.out).2.1); rintro e w' ⟨rfl, ⟨nd, rfl⟩⟩; refine ⟨_, rfl, ?_⟩) | ((with_reducible refine gate_callee (f := 14) rfl ?_); refine goesL_ (some 26) rfl rfl Try.func14 (by kernel_rfl) rfl #[.slice A0 l0.length c0] rfl (by (try simp only [List.map_toArray, List.map_cons, List.map_nil]); first | done | rfl | (simp only [List.length_drop, List.length_take]; rfl)) ?_; (with_reducible refine (laws_toInt64S.calls k _ _ l0 t154 _ ?side1 ?side2 A9.out).mono ?_); (case side1 => repeat (first | exact (Kd.C_below HR0.out (by repeat (first | (with_reducible first | exact HB.out | apply below_alloc | apply pw_below_drewN | apply below_drew1) | exact HB.out))) | (with_reducible refine Kd.C_alloc ?_ _) | (with_reducible refine Kd.C_drewN ?_ _) | (with_reducible refine Kd.C_drew ?_))); (case side2 => exact HC0.out); rintro e w22 ⟨v155, rfl, ho0, hb⟩; refine ⟨_, rfl, ?_⟩; have n0_ := Aside0.mk (Kd.R_elder' (by (with_reducible repeat (first | apply Kd.R_alloc | apply Kd.R_drewN | apply Kd.R_drew)); exact HO143.out) (Kd.R_base ho0) hb); have n1_ := Aside0.mk (Kd.R_elder' (by (with_reducible repeat (first | apply Kd.R_alloc | apply Kd.R_drewN | apply Kd.R_drew)); exact HO146.out) (Kd.R_base ho0) hb); have n2_ := Aside0.mk (Kd.R_elder' (by (with_reducible repeat (first | apply Kd.R_alloc | apply Kd.R_drewN | apply Kd.R_drew)); exact HO149.out) (Kd.R_base ho0) hb); have n3_ := Aside0.mk (Kd.R_elder' (by (with_reducible repeat (first | apply Kd.R_alloc | apply Kd.R_drewN | apply Kd.R_drew)); exact HO152.out) (Kd.R_base ho0) hb); have n4_ := Aside0.mk (Kd.R_lower (Kd.R_new' (Kd.R_new' (Kd.R_new' (Kd.R_new' ho0 (Kd.R_lt (by (with_reducible repeat (first | apply Kd.R_alloc | apply Kd.R_drewN | apply Kd.R_drew)); exact HO143.out))) (Kd.R_lt (by (with_reducible repeat (first | apply Kd.R_alloc | apply Kd.R_drewN | apply Kd.R_drew)); exact HO146.out))) (Kd.R_lt (by (with_reducible repeat (first | apply Kd.R_alloc | apply Kd.R_drewN | apply Kd.R_drew)); exact HO149.out))) (Kd.R_lt (by (with_reducible repeat (first | apply Kd.R_alloc | apply Kd.R_drewN | apply Kd.R_drew)); exact HO152.out))) (below_size (by repeat (first | (with_reducible first | exact HB.out | apply below_alloc | apply pw_below_drewN | apply below_drew1) | exact HB.out)))); have n5_ := Aside0.mk (below_step (by repeat (first | (with_reducible first | exact HB.out | apply below_alloc | apply pw_below_drewN | apply below_drew1) | exact HB.out)) hb); clear HO143; clear HO146; clear HO149; clear HO152; clear HB; have HO143 := n0_; have HO146 := n1_; have HO149 := n2_; have HO152 := n3_; have HO156 := n4_; have HB := n5_; clear n0_ n1_ n2_ n3_ n4_ n5_; (try clear hb); (try clear hb2); (try clear hk); (try clear hi); (try clear ho0); obtain ⟨Ao23, co23, eo23⟩ := Kd.R_slice HO156.out; subst eo23) | ((with_reducible refine gate_callee (f := 16) rfl ?_); refine goesL_ (some 27) rfl rfl Try.func16 (by kernel_rfl) rfl #[.slice Ao18 t147.length co18, .slice Ao23 t154.length co23] rfl (by (try simp only [List.map_toArray, List.map_cons, List.map_nil]); first | done | rfl | (simp only [List.length_drop, List.length_take]; rfl)) ?_; (with_reducible refine (laws_eqInt64S.calls k _ _ t147 _ _ t154 true _ ?side1 ?side2 ?side3 ?side4 A10.out).mono ?_); (case side1 => repeat (first | exact (Kd.R_reads' HO149.out).2.2 | (with_reducible refine Kd.C_alloc ?_ _) | (with_reducible refine Kd.C_drewN ?_ _) | (with_reducible refine Kd.C_drew ?_))); (case side2 => exact (Kd.R_reads' HO149.out).2.1); (case side3 => repeat (first | exact (Kd.R_reads' HO156.out).2.2 | (with_reducible refine Kd.C_alloc ?_ _) | (with_reducible refine Kd.C_drewN ?_ _) | (with_reducible refine Kd.C_drew ?_))); (case side4 => exact (Kd.R_reads' HO156.out).2.1); rintro e w' ⟨rfl, ⟨nd, rfl⟩⟩; refine ⟨_, rfl, ?_⟩) | ((with_reducible refine gate_callee (f := 17) rfl ?_); refine goesL_ (some 31) rfl rfl Try.func17 (by kernel_rfl) rfl #[.slice Ao18 t147.length co18, .int .i64 1] rfl (by (try simp only [List.map_toArray, List.map_cons, List.map_nil]); first | done | rfl | (simp only [List.length_drop, List.length_take]; rfl)) ?_; (with_reducible refine (laws_markInt64S.calls k (fun k_ => some k_ = (.slice Ao18 t147.length co18 : Value).ownBlock) (.slice Ao18 t147.length co18) t147 1 t158 t159 w _ ?side1 ?side2 A12.out).mono ?_); (case side1 => repeat (first | (with_reducible first | exact HB.out | apply below_alloc | apply pw_below_drewN | apply below_drew1) | exact HB.out)); (case side2 => exact Kd.R_tight rfl HO149.out); rintro e w24 ⟨rfl, hy0, hb, hkp⟩; refine ⟨_, rfl, ?_⟩; have n0_ := Aside0.mk (Kd.R_mono (ok' := fun k_ => some k_ ≠ (.slice Ao21 t144.length co21 : Value).ownBlock ∧ some k_ ≠ (.slice Ao18 t147.length co18 : Value).ownBlock ∧ some k_ ≠ (.slice Ao20 t150.length co20 : Value).ownBlock ∧ some k_ ≠ (.slice Ao23 t154.length co23 : Value).ownBlock) (Kd.R_keptB (HO143.out) hkp (fun k_ hk_ hs_ => (hk_.1.1.2) hs_)) (fun k_ hk_ => ⟨hk_.1.1.1.1.2, hk_.1.1.1.2, hk_.1.1.2, hk_.1.2⟩)); have n1_ := Aside0.mk (Kd.R_mono (ok' := fun k_ => some k_ ≠ (.slice Ao15 t141.length co15 : Value).ownBlock ∧ some k_ ≠ (.slice Ao18 t147.length co18 : Value).ownBlock ∧ some k_ ≠ (.slice Ao20 t150.length co20 : Value).ownBlock ∧ some k_ ≠ (.slice Ao23 t154.length co23 : Value).ownBlock) (Kd.R_keptB (HO146.out) hkp (fun k_ hk_ hs_ => (hk_.1.1.2) hs_)) (fun k_ hk_ => ⟨hk_.1.1.1.1.2, hk_.1.1.1.2, hk_.1.1.2, hk_.1.2⟩)); have n2_ := Aside0.mk (Kd.R_reok rfl hy0 (fun k_ e_ => HO149.out.1 k_ e_)); have n3_ := Aside0.mk (Kd.R_mono (ok' := fun k_ => some k_ ≠ (.slice Ao15 t141.length co15 : Value).ownBlock ∧ some k_ ≠ (.slice Ao21 t144.length co21 : Value).ownBlock ∧ some k_ ≠ (.slice Ao18 t147.length co18 : Value).ownBlock ∧ some k_ ≠ (.slice Ao23 t154.length co23 : Value).ownBlock) (Kd.R_keptB (HO152.out) hkp (fun k_ hk_ hs_ => (hk_.1.2) hs_)) (fun k_ hk_ => ⟨hk_.1.1.1.1.2, hk_.1.1.1.2, hk_.1.1.2, hk_.1.2⟩)); have n4_ := Aside0.mk (Kd.R_mono (ok' := fun k_ => some k_ ≠ (.slice Ao15 t141.length co15 : Value).ownBlock ∧ some k_ ≠ (.slice Ao21 t144.length co21 : Value).ownBlock ∧ some k_ ≠ (.slice Ao18 t147.length co18 : Value).ownBlock ∧ some k_ ≠ (.slice Ao20 t150.length co20 : Value).ownBlock) (Kd.R_keptB (HO156.out) hkp (fun k_ hk_ hs_ => (hk_.1.2) hs_)) (fun k_ hk_ => ⟨hk_.1.1.1.1.2, hk_.1.1.1.2, hk_.1.1.2, hk_.1.2⟩)); have n5_ := Aside0.mk (hb); clear HO143; clear HO146; clear HO149; clear HO152; clear HO156; clear HB; have HO143 := n0_; have HO146 := n1_; have HO149 := n2_; have HO152 := n3_; have HO156 := n4_; have HB := n5_; clear n0_ n1_ n2_ n3_ n4_ n5_; (try clear hb); (try clear hkp); (try clear hy0)))
        (try simp only [Act.put, List.setIfInBounds_toArray, List.set_cons_zero, List.set_cons_succ])
        go_cut [39] (fun v39 wc => ∃ (kq : Nat) (x39_12 : Bool), v39 = .bool x39_12 ∧ Aside0 (laws_FnExactCyclicReduce.j0 kq l0 t144 t150 x39_12 = some r) ∧ Aside0 (kq ≤ k) ∧ Aside0 (Kd.R (Kd.int .i64) 2 wc w.heap.size (fun k_ => some k_ ≠ ((.slice Ao20 t150.length co20) : Value).ownBlock) (.slice Ao21 t144.length co21) t144) ∧ Aside0 (Kd.R (Kd.int .i64) 2 wc w.heap.size (fun k_ => some k_ ≠ ((.slice Ao21 t144.length co21) : Value).ownBlock) (.slice Ao20 t150.length co20) t150) ∧ Aside0 (Below w.heap.size w wc))
        case first =>
          have H := HC13.out
          clear HC13
          by_cases c25 : t158 < 0
          · rw [if_pos c25] at H
            have c25b0 : decide (t158 < 0) = true := decide_eq_true c25
            clear c25
            (first | rw [c25b0] | (simp only [i64_w, i32_w]; rw [c25b0]) | skip)
            have H' := Aside0.mk H
            clear H
            go_wp2
            go_meet
            case rel => exact ⟨_, (true), (by first | rfl | (simp; done) | (simp [*]; done)), H', ⟨by first | omega | exact Nat.le_refl _⟩, ⟨by (with_reducible repeat (first | apply Kd.R_alloc | apply Kd.R_drewN | apply Kd.R_drew)); exact Kd.R_mono HO146.out (fun _ hk => hk.2.2.1)⟩, ⟨by (with_reducible repeat (first | apply Kd.R_alloc | apply Kd.R_drewN | apply Kd.R_drew)); exact Kd.R_mono HO152.out (fun _ hk => hk.2.1)⟩, ⟨by repeat (first | (with_reducible first | exact HB.out | apply below_alloc | apply pw_below_drewN | apply below_drew1) | exact HB.out)⟩⟩
          · rw [if_neg c25] at H
            have c25b0 : decide (t158 < 0) = false := decide_eq_false c25
            clear c25
            (first | rw [c25b0] | (simp only [i64_w, i32_w]; rw [c25b0]) | skip)
            replace H := Option.bind_eq_some_iff.mp H
            obtain ⟨t160, A260, H⟩ := H
            replace H : (laws_FnExactCyclicReduce.j0 k l0 t144 t150 (!t160)) = some r := H
            have A26 := Aside0.mk A260
            clear A260
            have H' := Aside0.mk H
            clear H
            go_wp2_with (first | (go_at_call 16; (with_reducible refine (laws_eqInt64S.calls k _ _ t150 _ _ t144 t160 _ ?side1 ?side2 ?side3 ?side4 A26.out).mono ?_); (case side1 => repeat (first | exact (Kd.R_reads' HO152.out).2.2 | (with_reducible refine Kd.C_alloc ?_ _) | (with_reducible refine Kd.C_drewN ?_ _) | (with_reducible refine Kd.C_drew ?_))); (case side2 => exact (Kd.R_reads' HO152.out).2.1); (case side3 => repeat (first | exact (Kd.R_reads' HO146.out).2.2 | (with_reducible refine Kd.C_alloc ?_ _) | (with_reducible refine Kd.C_drewN ?_ _) | (with_reducible refine Kd.C_drew ?_))); (case side4 => exact (Kd.R_reads' HO146.out).2.1); rintro e w' ⟨rfl, ⟨nd, rfl⟩⟩))
            go_meet
            case rel => exact ⟨_, (!t160), (by first | rfl | (simp; done) | (simp [*]; done)), H', ⟨by first | omega | exact Nat.le_refl _⟩, ⟨by (with_reducible repeat (first | apply Kd.R_alloc | apply Kd.R_drewN | apply Kd.R_drew)); exact Kd.R_mono HO146.out (fun _ hk => hk.2.2.1)⟩, ⟨by (with_reducible repeat (first | apply Kd.R_alloc | apply Kd.R_drewN | apply Kd.R_drew)); exact Kd.R_mono HO152.out (fun _ hk => hk.2.1)⟩, ⟨by repeat (first | (with_reducible first | exact HB.out | apply below_alloc | apply pw_below_drewN | apply below_drew1) | exact HB.out)⟩⟩
        case rest =>
          clear HC13
          try clear c1
          try clear c2
          try clear c2b0
          try clear c2b1
          try clear p2
          try clear c5
          try clear c8
          try clear c11
          try clear c14
          try clear c16
          try clear c17
          try clear c21
          try clear c22
          try clear c25
          try clear c25b0
          obtain ⟨kq, x39_12, rfl, HA, HJ12, HO_3, HO_5, HB⟩ := hcut
          cases kq with
          | zero => exact absurd HA.out (by simp [laws_FnExactCyclicReduce.j0])
          | succ kj12 =>
            have H := HA.out
            clear HA
            simp only [laws_FnExactCyclicReduce.j0] at H
            by_cases c27 : x39_12 = true
            · subst c27
              have H1 : (some false) = some r := by rw [if_pos rfl] at H; exact H
              clear H
              have H := H1
              clear H1
              exact absurd ((Option.some.inj H).trans HT_.out) (by simp)
            · replace c27 := Bool.eq_false_iff.mpr c27
              subst c27
              have H1 : ((laws_markInt64S.f kj12 t150 1).bind fun bt161 => ((laws_heldInt64S.f kj12 bt161.2 1).bind fun t163 => (if t163 < 0 then (some false) else (if t163 = bt161.1 then ((laws_toInt64S.f kj12 l0).bind fun t164 => ((impl_CyclicReduce.f kj12 t164).bind fun t167 => ((laws_eqInt64S.f kj12 t167 t144).bind fun t170 => (if t170 = true then ((laws_heldInt64S.f kj12 bt161.2 1).bind fun t171 => (if t171 < 0 then (some false) else (if t171 = bt161.1 then (some true) else (some false)))) else (some false))))) else (some false))))) = some r := by rw [if_neg (show ¬ (false = true) by decide)] at H; exact H
              clear H
              have H := H1
              clear H1
              replace H := Option.bind_eq_some_iff.mp H
              obtain ⟨⟨t161, t162⟩, A280, H⟩ := H
              replace H : ((laws_heldInt64S.f kj12 t162 1).bind fun t163 => (if t163 < 0 then (some false) else (if t163 = t161 then ((laws_toInt64S.f kj12 l0).bind fun t164 => ((impl_CyclicReduce.f kj12 t164).bind fun t167 => ((laws_eqInt64S.f kj12 t167 t144).bind fun t170 => (if t170 = true then ((laws_heldInt64S.f kj12 t162 1).bind fun t171 => (if t171 < 0 then (some false) else (if t171 = t161 then (some true) else (some false)))) else (some false))))) else (some false)))) = some r := H
              have A28 := Aside0.mk A280
              clear A280
              replace H := Option.bind_eq_some_iff.mp H
              obtain ⟨t163, A290, H⟩ := H
              replace H : (if t163 < 0 then (some false) else (if t163 = t161 then ((laws_toInt64S.f kj12 l0).bind fun t164 => ((impl_CyclicReduce.f kj12 t164).bind fun t167 => ((laws_eqInt64S.f kj12 t167 t144).bind fun t170 => (if t170 = true then ((laws_heldInt64S.f kj12 t162 1).bind fun t171 => (if t171 < 0 then (some false) else (if t171 = t161 then (some true) else (some false)))) else (some false))))) else (some false))) = some r := H
              have A29 := Aside0.mk A290
              clear A290
              by_cases c30 : t163 < 0
              · rw [if_pos c30] at H
                have c30b0 : decide (t163 < 0) = true := decide_eq_true c30
                clear c30
                exact absurd ((Option.some.inj H).trans HT_.out) (by simp)
              · rw [if_neg c30] at H
                have c30b0 : decide (t163 < 0) = false := decide_eq_false c30
                clear c30
                by_cases c31 : t163 = t161
                · rw [if_pos c31] at H
                  have c31b0 : (t163 == t161) = true := beq_iff_eq.mpr c31
                  have c31b1 : (t163 != t161) = false := bne_eq_false_iff_eq.mpr c31
                  clear c31
                  replace H := Option.bind_eq_some_iff.mp H
                  obtain ⟨t164, A320, H⟩ := H
                  replace H : ((impl_CyclicReduce.f kj12 t164).bind fun t167 => ((laws_eqInt64S.f kj12 t167 t144).bind fun t170 => (if t170 = true then ((laws_heldInt64S.f kj12 t162 1).bind fun t171 => (if t171 < 0 then (some false) else (if t171 = t161 then (some true) else (some false)))) else (some false)))) = some r := H
                  have A32 := Aside0.mk A320
                  clear A320
                  replace H := Option.bind_eq_some_iff.mp H
                  obtain ⟨t167, A330, H⟩ := H
                  replace H : ((laws_eqInt64S.f kj12 t167 t144).bind fun t170 => (if t170 = true then ((laws_heldInt64S.f kj12 t162 1).bind fun t171 => (if t171 < 0 then (some false) else (if t171 = t161 then (some true) else (some false)))) else (some false))) = some r := H
                  have A33 := Aside0.mk A330
                  clear A330
                  replace H := Option.bind_eq_some_iff.mp H
                  obtain ⟨t170, A340, H⟩ := H
                  replace H : (if t170 = true then ((laws_heldInt64S.f kj12 t162 1).bind fun t171 => (if t171 < 0 then (some false) else (if t171 = t161 then (some true) else (some false)))) else (some false)) = some r := H
                  have A34 := Aside0.mk A340
                  clear A340
                  by_cases c35 : t170 = true
                  · subst c35
                    have H1 : ((laws_heldInt64S.f kj12 t162 1).bind fun t171 => (if t171 < 0 then (some false) else (if t171 = t161 then (some true) else (some false)))) = some r := by rw [if_pos rfl] at H; exact H
                    clear H
                    have H := H1
                    clear H1
                    replace H := Option.bind_eq_some_iff.mp H
                    obtain ⟨t171, A360, H⟩ := H
                    replace H : (if t171 < 0 then (some false) else (if t171 = t161 then (some true) else (some false))) = some r := H
                    have A36 := Aside0.mk A360
                    clear A360
                    by_cases c37 : t171 < 0
                    · rw [if_pos c37] at H
                      have c37b0 : decide (t171 < 0) = true := decide_eq_true c37
                      clear c37
                      exact absurd ((Option.some.inj H).trans HT_.out) (by simp)
                    · rw [if_neg c37] at H
                      have c37b0 : decide (t171 < 0) = false := decide_eq_false c37
                      clear c37
                      by_cases c38 : t171 = t161
                      · rw [if_pos c38] at H
                        have c38b0 : (t171 == t161) = true := beq_iff_eq.mpr c38
                        have c38b1 : (t171 != t161) = false := bne_eq_false_iff_eq.mpr c38
                        clear c38
                        obtain rfl := Option.some.inj H
                        go_wp2_with (first | ((with_reducible refine gate_callee (f := 17) rfl ?_); refine goesL_ (some 42) rfl rfl Try.func17 (by kernel_rfl) rfl #[.slice Ao20 t150.length co20, .int .i64 1] rfl (by (try simp only [List.map_toArray, List.map_cons, List.map_nil]); first | done | rfl | (simp only [List.length_drop, List.length_take]; rfl)) ?_; (with_reducible refine (laws_markInt64S.calls kj12 (fun k_ => some k_ = (.slice Ao20 t150.length co20 : Value).ownBlock) (.slice Ao20 t150.length co20) t150 1 t161 t162 w _ ?side1 ?side2 A28.out).mono ?_); (case side1 => repeat (first | (with_reducible first | exact HB.out | apply below_alloc | apply pw_below_drewN | apply below_drew1) | exact HB.out)); (case side2 => exact Kd.R_tight rfl HO_5.out); rintro e w39 ⟨rfl, hy0, hb, hkp⟩; refine ⟨_, rfl, ?_⟩; have n0_ := Aside0.mk (Kd.R_mono (ok' := fun k_ => some k_ ≠ (.slice Ao20 t150.length co20 : Value).ownBlock) (Kd.R_keptB (HO_3.out) hkp (fun k_ hk_ hs_ => (hk_) hs_)) (fun k_ hk_ => hk_.1)); have n1_ := Aside0.mk (Kd.R_reok rfl hy0 (fun k_ e_ => HO_5.out.1 k_ e_)); have n2_ := Aside0.mk (hb); clear HO_3; clear HO_5; clear HB; have HO_3 := n0_; have HO_5 := n1_; have HB := n2_; clear n0_ n1_ n2_; (try clear hb); (try clear hkp); (try clear hy0)) | ((with_reducible refine gate_callee (f := 18) rfl ?_); refine goesL_ (some 45) rfl rfl Try.func18 (by kernel_rfl) rfl #[.slice Ao20 t162.length co20, .int .i64 1] rfl (by (try simp only [List.map_toArray, List.map_cons, List.map_nil]); first | done | (rw [show t162.length = t150.length from (Kd.R_reads' HO_5.out).1.symm] <;> rfl) | rfl | (simp only [List.length_drop, List.length_take]; rfl)) ?_; (with_reducible refine (laws_heldInt64S.calls kj12 _ _ t162 1 t163 _ ?side1 ?side2 A29.out).mono ?_); (case side1 => repeat (first | exact (Kd.R_reads' HO_5.out).2.2 | (with_reducible refine Kd.C_alloc ?_ _) | (with_reducible refine Kd.C_drewN ?_ _) | (with_reducible refine Kd.C_drew ?_))); (case side2 => rw [show t162.length = t150.length from (Kd.R_reads' HO_5.out).1.symm]; exact (Kd.R_reads' HO_5.out).2.1); rintro e w' ⟨rfl, ⟨nd, rfl⟩⟩; refine ⟨_, rfl, ?_⟩) | ((with_reducible refine gate_callee (f := 14) rfl ?_); refine goesL_ (some 52) rfl rfl Try.func14 (by kernel_rfl) rfl #[.slice A0 l0.length c0] rfl (by (try simp only [List.map_toArray, List.map_cons, List.map_nil]); first | done | rfl | (simp only [List.length_drop, List.length_take]; rfl)) ?_; (with_reducible refine (laws_toInt64S.calls kj12 _ _ l0 t164 _ ?side1 ?side2 A32.out).mono ?_); (case side1 => repeat (first | exact (Kd.C_below HR0.out (by repeat (first | (with_reducible first | exact HB.out | apply below_alloc | apply pw_below_drewN | apply below_drew1) | exact HB.out))) | (with_reducible refine Kd.C_alloc ?_ _) | (with_reducible refine Kd.C_drewN ?_ _) | (with_reducible refine Kd.C_drew ?_))); (case side2 => exact HC0.out); rintro e w40 ⟨v165, rfl, ho0, hb⟩; refine ⟨_, rfl, ?_⟩; have n0_ := Aside0.mk (Kd.R_elder' (by (with_reducible repeat (first | apply Kd.R_alloc | apply Kd.R_drewN | apply Kd.R_drew)); exact HO_3.out) (Kd.R_base ho0) hb); have n1_ := Aside0.mk (Kd.R_elder' (by (with_reducible repeat (first | apply Kd.R_alloc | apply Kd.R_drewN | apply Kd.R_drew)); exact HO_5.out) (Kd.R_base ho0) hb); have n2_ := Aside0.mk (Kd.R_lower (Kd.R_new' (Kd.R_new' ho0 (Kd.R_lt (by (with_reducible repeat (first | apply Kd.R_alloc | apply Kd.R_drewN | apply Kd.R_drew)); exact HO_3.out))) (Kd.R_lt (by (with_reducible repeat (first | apply Kd.R_alloc | apply Kd.R_drewN | apply Kd.R_drew)); exact HO_5.out))) (below_size (by repeat (first | (with_reducible first | exact HB.out | apply below_alloc | apply pw_below_drewN | apply below_drew1) | exact HB.out)))); have n3_ := Aside0.mk (below_step (by repeat (first | (with_reducible first | exact HB.out | apply below_alloc | apply pw_below_drewN | apply below_drew1) | exact HB.out)) hb); clear HO_3; clear HO_5; clear HB; have HO_3 := n0_; have HO_5 := n1_; have HO166 := n2_; have HB := n3_; clear n0_ n1_ n2_ n3_; (try clear hb); (try clear hb2); (try clear hk); (try clear hi); (try clear ho0); obtain ⟨Ao41, co41, eo41⟩ := Kd.R_slice HO166.out; subst eo41) | ((with_reducible refine gate_callee (f := 22) rfl ?_); refine goesL_ (some 53) rfl rfl Try.func22 (by kernel_rfl) rfl #[.slice Ao41 t164.length co41] rfl (by (try simp only [List.map_toArray, List.map_cons, List.map_nil]); first | done | rfl | (simp only [List.length_drop, List.length_take]; rfl)) ?_; (with_reducible refine (impl_CyclicReduce.calls kj12 _ _ t164 t167 _ ?side1 ?side2 A33.out).mono ?_); (case side1 => repeat (first | exact (Kd.R_reads' HO166.out).2.2 | (with_reducible refine Kd.C_alloc ?_ _) | (with_reducible refine Kd.C_drewN ?_ _) | (with_reducible refine Kd.C_drew ?_))); (case side2 => exact (Kd.R_reads' HO166.out).2.1); rintro e w42 ⟨v168, rfl, ho0, hb⟩; refine ⟨_, rfl, ?_⟩; have n0_ := Aside0.mk (Kd.R_elder' (by (with_reducible repeat (first | apply Kd.R_alloc | apply Kd.R_drewN | apply Kd.R_drew)); exact HO_3.out) (Kd.R_base ho0) hb); have n1_ := Aside0.mk (Kd.R_elder' (by (with_reducible repeat (first | apply Kd.R_alloc | apply Kd.R_drewN | apply Kd.R_drew)); exact HO_5.out) (Kd.R_base ho0) hb); have n2_ := Aside0.mk (Kd.R_elder' (by (with_reducible repeat (first | apply Kd.R_alloc | apply Kd.R_drewN | apply Kd.R_drew)); exact HO166.out) (Kd.R_base ho0) hb); have n3_ := Aside0.mk (Kd.R_lower (Kd.R_new' (Kd.R_new' (Kd.R_new' ho0 (Kd.R_lt (by (with_reducible repeat (first | apply Kd.R_alloc | apply Kd.R_drewN | apply Kd.R_drew)); exact HO_3.out))) (Kd.R_lt (by (with_reducible repeat (first | apply Kd.R_alloc | apply Kd.R_drewN | apply Kd.R_drew)); exact HO_5.out))) (Kd.R_lt (by (with_reducible repeat (first | apply Kd.R_alloc | apply Kd.R_drewN | apply Kd.R_drew)); exact HO166.out))) (below_size (by repeat (first | (with_reducible first | exact HB.out | apply below_alloc | apply pw_below_drewN | apply below_drew1) | exact HB.out)))); have n4_ := Aside0.mk (below_step (by repeat (first | (with_reducible first | exact HB.out | apply below_alloc | apply pw_below_drewN | apply below_drew1) | exact HB.out)) hb); clear HO_3; clear HO_5; clear HO166; clear HB; have HO_3 := n0_; have HO_5 := n1_; have HO166 := n2_; have HO169 := n3_; have HB := n4_; clear n0_ n1_ n2_ n3_ n4_; (try clear hb); (try clear hb2); (try clear hk); (try clear hi); (try clear ho0); obtain ⟨Ao43, co43, eo43⟩ := Kd.R_slice HO169.out; subst eo43) | ((with_reducible refine gate_callee (f := 16) rfl ?_); refine goesL_ (some 56) rfl rfl Try.func16 (by kernel_rfl) rfl #[.slice Ao43 t167.length co43, .slice Ao21 t144.length co21] rfl (by (try simp only [List.map_toArray, List.map_cons, List.map_nil]); first | done | rfl | (simp only [List.length_drop, List.length_take]; rfl)) ?_; (with_reducible refine (laws_eqInt64S.calls kj12 _ _ t167 _ _ t144 true _ ?side1 ?side2 ?side3 ?side4 A34.out).mono ?_); (case side1 => repeat (first | exact (Kd.R_reads' HO169.out).2.2 | (with_reducible refine Kd.C_alloc ?_ _) | (with_reducible refine Kd.C_drewN ?_ _) | (with_reducible refine Kd.C_drew ?_))); (case side2 => exact (Kd.R_reads' HO169.out).2.1); (case side3 => repeat (first | exact (Kd.R_reads' HO_3.out).2.2 | (with_reducible refine Kd.C_alloc ?_ _) | (with_reducible refine Kd.C_drewN ?_ _) | (with_reducible refine Kd.C_drew ?_))); (case side4 => exact (Kd.R_reads' HO_3.out).2.1); rintro e w' ⟨rfl, ⟨nd, rfl⟩⟩; refine ⟨_, rfl, ?_⟩) | ((with_reducible refine gate_callee (f := 18) rfl ?_); refine goesL_ (some 60) rfl rfl Try.func18 (by kernel_rfl) rfl #[.slice Ao20 t162.length co20, .int .i64 1] rfl (by (try simp only [List.map_toArray, List.map_cons, List.map_nil]); first | done | (rw [show t162.length = t150.length from (Kd.R_reads' HO_5.out).1.symm] <;> rfl) | rfl | (simp only [List.length_drop, List.length_take]; rfl)) ?_; (with_reducible refine (laws_heldInt64S.calls kj12 _ _ t162 1 t171 _ ?side1 ?side2 A36.out).mono ?_); (case side1 => repeat (first | exact (Kd.R_reads' HO_5.out).2.2 | (with_reducible refine Kd.C_alloc ?_ _) | (with_reducible refine Kd.C_drewN ?_ _) | (with_reducible refine Kd.C_drew ?_))); (case side2 => rw [show t162.length = t150.length from (Kd.R_reads' HO_5.out).1.symm]; exact (Kd.R_reads' HO_5.out).2.1); rintro e w' ⟨rfl, ⟨nd, rfl⟩⟩; refine ⟨_, rfl, ?_⟩))
                        go_ret
                        exact ⟨by first | rfl | (simp [errW_none, errW_some] <;> rfl) | (simp [*, errW_none, errW_some] <;> rfl), by repeat (first | (with_reducible first | exact HB.out | apply below_alloc | apply pw_below_drewN | apply below_drew1) | exact HB.out)⟩
                      · rw [if_neg c38] at H
                        have c38b0 : (t171 == t161) = false := beq_eq_false_iff_ne.mpr c38
                        have c38b1 : (t171 != t161) = true := bne_iff_ne.mpr c38
                        exact absurd ((Option.some.inj H).trans HT_.out) (by simp)
                  · replace c35 := Bool.eq_false_iff.mpr c35
                    subst c35
                    have H1 : (some false) = some r := by rw [if_neg (show ¬ (false = true) by decide)] at H; exact H
                    clear H
                    have H := H1
                    clear H1
                    exact absurd ((Option.some.inj H).trans HT_.out) (by simp)
                · rw [if_neg c31] at H
                  have c31b0 : (t163 == t161) = false := beq_eq_false_iff_ne.mpr c31
                  have c31b1 : (t163 != t161) = true := bne_iff_ne.mpr c31
                  exact absurd ((Option.some.inj H).trans HT_.out) (by simp)
      · replace c11 := Bool.eq_false_iff.mpr c11
        subst c11
        have H1 : (some false) = some r := by rw [if_neg (show ¬ (false = true) by decide)] at H; exact H
        clear H
        have H := H1
        clear H1
        exact absurd ((Option.some.inj H).trans HT_.out) (by simp)
    · replace c8 := Bool.eq_false_iff.mpr c8
      subst c8
      have H1 : (some false) = some r := by rw [if_neg (show ¬ (false = true) by decide)] at H; exact H
      clear H
      have H := H1
      clear H1
      exact absurd ((Option.some.inj H).trans HT_.out) (by simp)

/-- THE ONE PURE STATEMENT of laws_FnExactCyclicReduce: yours. -/
def laws_FnExactCyclicReduce.Pure : Prop := ∀ (l0 : List Int), l0.length ≤ maxLen → l0.length * 8 ≤ 140737488351232 → (∀ x ∈ l0, (Lit.int .i64 x).wf = true) → ∃ k, laws_FnExactCyclicReduce.f k l0 = some true
theorem laws_FnExactCyclicReduce.walk (P : laws_FnExactCyclicReduce.Pure) (a0 : Option Addr) (len0 cap0 : Nat) (z0 : List Int) (w : World) (w0 : (a0 = none ∧ len0 = 0 ∧ cap0 = 0 ∧ z0 = []) ∨ ∃ x, a0 = some x ∧ len0 ≤ cap0 ∧ cap0 ≤ maxLen ∧ z0.length = cap0 ∧ (∀ i, i < z0.length → w.cell? (x.add i) = some (.int .i64 (z0.getD i 0))) ∧ ∀ n ∈ z0, (Lit.int .i64 n).wf = true) (y0 : len0 * 8 ≤ 140737488351232) :
    Calls Try.prog 5 #[.slice a0 len0 cap0] w fun e w' => e = .returned (.bool true) ∧ Below w.heap.size w w' := by
  obtain ⟨l0, rfl, hr0, hm0, hw0, hc0⟩ := ReadsInt.ofRowC w0
  obtain ⟨k, h⟩ := P l0 hm0 y0 hw0
  refine (laws_FnExactCyclicReduce.calls k _ _ l0 true w (Kd.C_of_reads (d := (0 : Int)) (h1 := fun _ => rfl) hr0) hc0 h ⟨rfl⟩).mono ?_
  rintro e w' ⟨rfl, hd⟩
  exact ⟨rfl, hd⟩

end Go.Proofs.Ythaklblepjbdeaa.PFnExactCyclicReduce
