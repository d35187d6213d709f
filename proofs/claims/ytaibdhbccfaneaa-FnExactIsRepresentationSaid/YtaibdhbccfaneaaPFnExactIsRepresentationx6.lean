/- Written by this session's program out of the kit's print and this session's contracts. -/
import Derived.Test.YtaibdhbccfaneaaPFnExactIsRepresentationx0
import Derived.Test.YtaibdhbccfaneaaPFnExactIsRepresentationx5
namespace Go.Proofs.Ytaibdhbccfaneaa.PFnExactIsRepresentation
open Go.RowKit Go.Proofs.YtaibdhbccfaneaaW.PrintWords Go.Proofs.YtaibdhbccfaneaaW.PrintLast Go.Proofs.YtaibdhbccfaneaaW.PrintMore
attribute [local go_sem] max2_int min2_int max_two min_two max_three min_three max_four min_four   -- for this text's walks alone
set_option linter.unusedVariables false
set_option linter.unusedSimpArgs false

/-! ### impl_isWord: function 64 -/
def abs64 (x : Int) : Int := if x < 0 then wrap64 (-x) else x
def isWord_bad (g x : Int) : Bool := x == 0 || (decide (g < abs64 x) || decide (x < wrap64 (-g)))
def impl_isWord.f (l0 : List Int) (a1 : Int) : Option Bool := some (decide (l0.length ≤ 120) && !(l0.any (isWord_bad a1)))
theorem abs_quiet (x : Int) (w : World) : Calls Try.prog 94 #[.int .i64 x] w fun e w' => e = .returned (.int .i64 (abs64 x)) ∧ w' = w := by
  by_cases h : x < 0
  · have E := Aside0.mk (show abs64 x = wrap64 (-x) from if_pos h)
    go_enter Try.func94, Try.ntmps94
    go_wp2
    go_ret
    exact ⟨by rw [E.out] <;> rfl, rfl⟩
  · have E := Aside0.mk (show abs64 x = x from if_neg h)
    go_enter Try.func94, Try.ntmps94
    go_wp2
    go_ret
    exact ⟨by rw [E.out] <;> rfl, rfl⟩
set_option maxHeartbeats 8000000 in
set_option maxRecDepth 100000 in
theorem isWord_lit (x g : Int) (B : Nat) (w : World) (hc : w.cell? ⟨B, 0, none⟩ = some (.int .i64 g)) :
    Calls Try.prog 93 #[.int .i64 x, .pointer (some ⟨B, 0, none⟩)] w fun e w' => e = .returned (.bool (isWord_bad g x)) ∧ Drawn0 w w' := by
  have ha := abs_quiet x
  by_cases h0 : x = 0
  · have h0b : (x == 0) = true := by simpa using h0
    have E := Aside0.mk (show isWord_bad g x = true by simp [isWord_bad, h0b])
    clear h0
    go_enter Try.func93, Try.ntmps93
    go_wp2
    go_quiet (fail)
    go_wp2
    go_ret
    exact ⟨by rw [E.out] <;> rfl, by repeat (first | exact Drawn0.refl _ | apply Drawn0.step)⟩
  · have h0b : (x == 0) = false := by simpa using h0
    by_cases h1 : g < abs64 x
    · have h1b : decide (g < abs64 x) = true := decide_eq_true h1
      have E := Aside0.mk (show isWord_bad g x = true by simp [isWord_bad, h1b])
      clear h0 h1
      go_enter Try.func93, Try.ntmps93
      go_wp2
      go_quiet ((go_at_call 94; exact Calls.quiet_of_same (ha _)))
      go_wp2
      go_ret
      exact ⟨by rw [E.out] <;> rfl, by repeat (first | exact Drawn0.refl _ | apply Drawn0.step)⟩
    · have h1b : decide (g < abs64 x) = false := decide_eq_false h1
      have E := Aside0.mk (show isWord_bad g x = decide (x < wrap64 (-g)) by simp [isWord_bad, h0b, h1b])
      clear h0 h1
      go_enter Try.func93, Try.ntmps93
      go_wp2
      go_quiet ((go_at_call 94; exact Calls.quiet_of_same (ha _)))
      go_wp2
      go_ret
      exact ⟨by rw [E.out] <;> rfl, by repeat (first | exact Drawn0.refl _ | apply Drawn0.step)⟩
set_option maxHeartbeats 8000000 in
set_option maxRecDepth 100000 in
theorem impl_isWord.calls (A0 : Option Addr) (c0 : Nat) (l0 : List Int) (a1 : Int) (r : Bool) (w : World) (hr0 : Kd.C (Kd.int .i64) w A0 l0.length l0) (hc0 : l0.length ≤ c0) (h : impl_isWord.f l0 a1 = some r) :
    Calls Try.prog 64 #[.slice A0 l0.length c0, .int .i64 a1] w fun e w' => e = .returned (.bool r) ∧ Below w.heap.size w w' := by
  obtain rfl := Option.some.inj h
  clear h
  have hC := fun (W : World) (hb : Below w.heap.size w W) (hB : w.heap.size < W.heap.size) (hc : W.cell? ⟨w.heap.size, 0, none⟩ = some (.int .i64 a1)) =>
    containsInts 93 #[.pointer (some ⟨w.heap.size, 0, none⟩)] (Go.Proofs.enters_of Try.func93 (by kernel_rfl) rfl) (isWord_bad a1) A0 c0 l0 W (Kd.C_below hr0 hb)
      (fun W' x _ hb' => (isWord_lit x a1 w.heap.size W' ((hb'.cell (p := ⟨w.heap.size, 0, none⟩) hB).trans hc)).mono fun _ _ ⟨he, hd⟩ => ⟨he, hd.below⟩)
  have HC := Aside0.mk hC
  clear hC hr0 hc0
  by_cases hl : l0.length ≤ 120
  · have hlz : (l0.length : Int) ≤ 120 := by omega
    have E := Aside0.mk (show (decide (l0.length ≤ 120) && !(l0.any (isWord_bad a1))) = !(l0.any (isWord_bad a1)) by simp [hl])
    clear hl
    go_enter Try.func64, Try.ntmps64
    go_wp2_with (go_at_call 92; refine (HC.out _ ((Below.refl _ w).alloc (Nat.le_refl _) _) (by simp) (by simp)).mono ?_; rintro e w' ⟨rfl, hb'⟩)
    go_ret
    exact ⟨by rw [E.out] <;> rfl, ((Below.refl _ w).alloc (Nat.le_refl _) _).trans (hb'.mono (by simp))⟩
  · have hlz : ¬ (l0.length : Int) ≤ 120 := by omega
    have E := Aside0.mk (show (decide (l0.length ≤ 120) && !(l0.any (isWord_bad a1))) = false by simp [hl])
    clear hl
    go_enter Try.func64, Try.ntmps64
    go_wp2
    go_ret
    exact ⟨by rw [E.out] <;> rfl, (Below.refl _ w).alloc (Nat.le_refl _) _⟩
/-- The letters at both ends taken away as long as they cancel. -/
def cycOf : Nat → List Int → List Int
  | 0, l => l
  | n + 1, l => if 1 < l.length ∧ rd l 0 = wrap64 (-(rd l ((l.length : Int) - 1))) then cycOf n ((l.take (l.length - 1)).drop 1) else l
theorem cycOf_stop (n : Nat) (l : List Int) (h : ¬ (1 < l.length ∧ rd l 0 = wrap64 (-(rd l ((l.length : Int) - 1))))) : cycOf n l = l := by
  cases n with
  | zero => rfl
  | succ n => simp only [cycOf]; rw [if_neg h]
theorem cycOf_go (n : Nat) (l : List Int) (hn : l.length ≤ n) (h : 1 < l.length ∧ rd l 0 = wrap64 (-(rd l ((l.length : Int) - 1)))) : ∃ m, n = m + 1 ∧ cycOf n l = cycOf m ((l.take (l.length - 1)).drop 1) := by
  cases n with
  | zero => omega
  | succ n => exact ⟨n, rfl, by simp only [cycOf]; rw [if_pos h]⟩
theorem cycOf_length : ∀ (n : Nat) (l : List Int), (cycOf n l).length ≤ l.length
  | 0, l => Nat.le_refl _
  | n + 1, l => by
    simp only [cycOf]
    split
    · have := cycOf_length n ((l.take (l.length - 1)).drop 1)
      have h2 : ((l.take (l.length - 1)).drop 1).length ≤ l.length := by simp; omega
      omega
    · exact Nat.le_refl _

/-! ### impl_reduced: function 77 -/
def impl_reduced.l0 : Nat → List Int → List Int → Int → Int → Option (List Int)
  | 0, _, _, _, _ => none
  | k + 1, x3, x7, x8, x9 => if x9 < x8 then (if 0 ≤ x9 then (if x9 < (x7.length : Int) then (if (x3.length : Int) > 0 then (if 0 ≤ (wrap64 ((x3.length : Int) - 1)) then (if (wrap64 ((x3.length : Int) - 1)) < (x3.length : Int) then (if (rd x3 (wrap64 ((x3.length : Int) - 1))) = (wrap64 (-(rd x7 x9))) then (if (wrap64 ((x3.length : Int) - 1)) ≤ (x3.length : Int) then (impl_reduced.l0 k (x3.take ((wrap64 ((x3.length : Int) - 1)) : Int).toNat) x7 x8 (wrap64 (x9 + 1))) else (none)) else (if x3.length < 17592186044416 then (impl_reduced.l0 k (x3 ++ [rd x7 x9]) x7 x8 (wrap64 (x9 + 1))) else (none))) else (none)) else (none)) else (if x3.length < 17592186044416 then (impl_reduced.l0 k (x3 ++ [rd x7 x9]) x7 x8 (wrap64 (x9 + 1))) else (none))) else (none)) else (none)) else (some x3)
def impl_reduced.f (k : Nat) (l0 : List Int) : Option (List Int) := impl_reduced.l0 k ([] : List Int) l0 (l0.length : Int) 0
theorem impl_reduced.mono_l : ∀ k, (∀ y0 y1 y2 y3, LeO (impl_reduced.l0 k y0 y1 y2 y3) (impl_reduced.l0 (k + 1) y0 y1 y2 y3))
  | 0 => fun _ _ _ _ r h => by simp [impl_reduced.l0] at h
  | k + 1 => by
    have ih0 := impl_reduced.mono_l k
    · intro y0 y1 y2 y3
      unfold impl_reduced.l0
      repeat' first
      | (with_reducible exact ih0 _ _ _ _)
      | (with_reducible exact LeO.refl _)
      | (with_reducible exact LeO.none _)
      | (with_reducible refine LeO.ite ?_ ?_)
      | (with_reducible refine LeO.bind ?_ (fun _ => ?_))
      | exact ih0 _ _ _ _
      | exact LeO.none _
      | refine LeO.ite ?_ ?_
      | refine LeO.bind ?_ (fun _ => ?_)
theorem impl_reduced.mono : ∀ a0 k, LeO (impl_reduced.f k a0) (impl_reduced.f (k + 1) a0) := by
  intro a0 k
  have ih0 := impl_reduced.mono_l k
  unfold impl_reduced.f
  repeat' first
      | (with_reducible exact ih0 _ _ _ _)
      | (with_reducible exact LeO.refl _)
      | (with_reducible exact LeO.none _)
      | (with_reducible refine LeO.ite ?_ ?_)
      | (with_reducible refine LeO.bind ?_ (fun _ => ?_))
      | exact ih0 _ _ _ _
      | exact LeO.none _
      | refine LeO.ite ?_ ?_
      | refine LeO.bind ?_ (fun _ => ?_)
set_option maxHeartbeats 8000000 in
set_option maxRecDepth 100000 in
theorem impl_reduced.calls (k : Nat) (A0 : Option Addr) (c0 : Nat) (l0 : List Int) (r : List Int) (w : World) (hr0 : Kd.C (Kd.int .i64) w A0 l0.length l0) (hc0 : l0.length ≤ c0) (h : impl_reduced.f k l0 = some r) :
    Calls Try.prog 77 #[.slice A0 l0.length c0] w fun e w' => ∃ v0_ : Value, e = .returned (v0_) ∧ Kd.R (Kd.int .i64) 2 w' w.heap.size (fun _ => True) v0_ r ∧ Below w.heap.size w w' := by
  have HR0 := Aside0.mk hr0
  have HC0 := Aside0.mk hc0
  clear hr0 hc0
  have HB := Aside0.mk (Below.refl w.heap.size w)
  have H : (impl_reduced.l0 k ([] : List Int) l0 (l0.length : Int) 0) = some r := h
  clear h
  have H' := Aside0.mk H
  clear H
  go_enter Try.func77, Try.ntmps77
  go_wp2
  go_loopg [3, 9] k (fun kq v3 v9 w' => ∃ (x3_1 : List Int) (x9_1 : Int), v9 = .int .i64 x9_1 ∧ Aside0 (impl_reduced.l0 kq x3_1 l0 (l0.length : Int) x9_1 = some r) ∧ Aside0 (kq ≤ k) ∧ Aside0 (Kd.R (Kd.int .i64) 2 w' w.heap.size (fun _ => True) v3 x3_1) ∧ Aside0 (Below w.heap.size w w'))
  case atStart => exact ⟨(([] : List Int)), (0), (by first | rfl | (simp; done) | (simp [*]; done)), H', ⟨Nat.le_refl _⟩, ⟨by first | exact Kd.R_nil _ _ _ _ _ | exact Kd.N_nil _ _ _ _ _ | exact Kd.V_nil _ _ _ _ _ | exact Kd.Q_nil _ _ _ _ _ | exact Kd.S_nil _ _ _ _ _⟩, ⟨by repeat (first | (with_reducible first | exact HB.out | apply below_alloc | apply pw_below_drewN | apply below_drew1) | exact HB.out)⟩⟩
  case round =>
    clear H'
    obtain ⟨x3_1, x9_1, rfl, HA, HK1, HO_3, HB⟩ := hrel
    cases gk with
    | zero => exact absurd HA.out (by simp [impl_reduced.l0])
    | succ k1 =>
      have H := HA.out
      clear HA
      simp only [impl_reduced.l0] at H
      by_cases c2 : x9_1 < (l0.length : Int)
      · rw [if_pos c2] at H
        have c2b0 : decide (x9_1 < (l0.length : Int)) = true := decide_eq_true c2
        clear c2
        by_cases c3 : 0 ≤ x9_1
        · rw [if_pos c3] at H
          have c3b0 : decide (0 ≤ x9_1) = true := decide_eq_true c3
          clear c3
          by_cases c4 : x9_1 < (l0.length : Int)
          · rw [if_pos c4] at H
            have c4b0 : decide (x9_1 < (l0.length : Int)) = true := decide_eq_true c4
            clear c4
            by_cases c5 : (x3_1.length : Int) > 0
            · rw [if_pos c5] at H
              have c5b0 : decide (0 < (x3_1.length : Int)) = true := decide_eq_true c5
              have c5b1 : decide (0 < x3_1.length) = true := decide_eq_true (by omega)
              clear c5
              obtain ⟨ji6, hji6⟩ : ∃ j_ : Int, (wrap64 ((x3_1.length : Int) - 1)) = j_ := ⟨_, rfl⟩
              replace H : (if 0 ≤ (ji6) then (if (ji6) < (x3_1.length : Int) then (if (rd x3_1 (ji6)) = (wrap64 (-(rd l0 x9_1))) then (if (ji6) ≤ (x3_1.length : Int) then (impl_reduced.l0 k1 (x3_1.take ((ji6) : Int).toNat) l0 (l0.length : Int) (wrap64 (x9_1 + 1))) else (none)) else (if x3_1.length < 17592186044416 then (impl_reduced.l0 k1 (x3_1 ++ [rd l0 x9_1]) l0 (l0.length : Int) (wrap64 (x9_1 + 1))) else (none))) else (none)) else (none)) = some r := by first | (rw [hji6] at H; exact H) | (simp only [hji6] at H ⊢; exact H)
              have hji6w : (IntKind.i64.wrap ((x3_1.length : Int) - 1)) = ji6 := (i64_w _).trans hji6
              by_cases c7 : 0 ≤ (ji6)
              · rw [if_pos c7] at H
                have c7b0 : decide (0 ≤ (ji6)) = true := decide_eq_true c7
                clear c7
                by_cases c8 : (ji6) < (x3_1.length : Int)
                · rw [if_pos c8] at H
                  have c8b0 : decide ((ji6) < (x3_1.length : Int)) = true := decide_eq_true c8
                  clear c8
                  by_cases c9 : (rd x3_1 (ji6)) = (wrap64 (-(rd l0 x9_1)))
                  · rw [if_pos c9] at H
                    have c9b0 : ((rd x3_1 (ji6)) == (wrap64 (-(rd l0 x9_1)))) = true := beq_iff_eq.mpr c9
                    have c9b1 : ((rd x3_1 (ji6)) != (wrap64 (-(rd l0 x9_1)))) = false := bne_eq_false_iff_eq.mpr c9
                    clear c9
                    by_cases c10 : (ji6) ≤ (x3_1.length : Int)
                    · rw [if_pos c10] at H
                      have c10b0 := eq_true c10
                      have c10b1 : decide ((ji6) ≤ (x3_1.length : Int)) = true := decide_eq_true c10
                      clear c10
                      obtain ⟨y165, hy165⟩ : ∃ y_ : List Int, y_ = (x3_1.take ((ji6) : Int).toNat) := ⟨_, rfl⟩
                      replace H : (impl_reduced.l0 k1 y165 l0 (l0.length : Int) (wrap64 (x9_1 + 1))) = some r := by first | (rw [hy165]; with_reducible exact H) | (have H2_ := (Option.bind_some _ _).symm.trans H; rw [hy165]; with_reducible exact H2_) | (have H2_ := (Option.bind_some _ _).symm.trans H; with_reducible exact H2_) | with_reducible exact H | (rw [hy165]; exact H) | exact H
                      have Ny165 := Aside0.mk hy165
                      clear hy165
                      have H' := Aside0.mk H
                      clear H
                      have p163 : 0 ≤ (x9_1 : Int) := of_decide_eq_true (by first | (with_reducible assumption) | assumption)
                      have q163 : x9_1 < (l0.length : Int) := of_decide_eq_true (by first | (with_reducible assumption) | assumption)
                      obtain ⟨ad163, e163, hx163_0⟩ := Kd.at_int HR0.out x9_1 p163 q163
                      cases e163
                      replace hx163_0 := (HB.out.cell (World.block_lt_of_cell? w _ hx163_0)).trans hx163_0
                      replace p163 := eq_true p163
                      replace q163 := eq_true q163
                      obtain ⟨Ao11, co11, eo11⟩ := Kd.R_slice HO_3.out
                      subst eo11
                      have p164 : 0 ≤ ((ji6) : Int) := of_decide_eq_true (by first | (with_reducible assumption) | assumption)
                      have q164 : (ji6) < (x3_1.length : Int) := of_decide_eq_true (by first | (with_reducible assumption) | assumption)
                      obtain ⟨ad164, e164, hx164_0⟩ := Kd.at_int (Kd.R_reads' HO_3.out).2.2 (ji6) p164 q164
                      cases e164
                      replace p164 := eq_true p164
                      replace q164 := eq_true q164
                      have q12 : ((ji6) : Int) ≤ ((x3_1.length : Int) : Int) := of_decide_eq_true (by first | (with_reducible assumption) | assumption)
                      obtain ⟨i012, hi012, _, hsz12, _⟩ := info_parts info2
                      have hcut12 := cut_to (P := Try.prog) 25 2 .i64 Try.underlying25 hi012 (some ad164) x3_1.length co11 (ji6) (of_decide_eq_true (by first | (with_reducible assumption) | assumption)) q12 (Kd.R_reads' HO_3.out).2.1
                      have hr12 := Kd.R_take (m := ((ji6) : Int).toNat) HO_3.out (by omega)
                      have hy12 : y165.length = ((ji6) : Int).toNat := (by rw [Ny165.out, List.length_take]; omega)
                      rw [← Ny165.out] at hr12
                      rw [← hy12] at hr12 hcut12
                      clear hy12 hi012 hsz12 HO_3
                      have HO167 := Aside0.mk hr12
                      clear hr12
                      replace q12 := eq_true q12
                      go_wp2
                      go_roundg k1
                      case measure => have := HK1.out; omega
                      case rel => exact ⟨(y165), (wrap64 (x9_1 + 1)), (by first | rfl | (simp; done) | (simp [*]; done)), H', ⟨by have := HK1.out; omega⟩, ⟨by (with_reducible repeat (first | apply Kd.R_alloc | apply Kd.R_drewN | apply Kd.R_drew)); exact HO167.out⟩, ⟨by repeat (first | (with_reducible first | exact HB.out | apply below_alloc | apply pw_below_drewN | apply below_drew1) | exact HB.out)⟩⟩
                    · rw [if_neg c10] at H
                      exact absurd H (by simp)
                  · rw [if_neg c9] at H
                    have c9b0 : ((rd x3_1 (ji6)) == (wrap64 (-(rd l0 x9_1)))) = false := beq_eq_false_iff_ne.mpr c9
                    have c9b1 : ((rd x3_1 (ji6)) != (wrap64 (-(rd l0 x9_1)))) = true := bne_iff_ne.mpr c9
                    by_cases c13 : x3_1.length < 17592186044416
                    · rw [if_pos c13] at H
                      have LMc13 := Aside0.mk c13
                      clear c13
                      obtain ⟨y168, hy168⟩ : ∃ y_ : List Int, y_ = (x3_1 ++ [rd l0 x9_1]) := ⟨_, rfl⟩
                      replace H : (impl_reduced.l0 k1 y168 l0 (l0.length : Int) (wrap64 (x9_1 + 1))) = some r := by first | (rw [hy168]; with_reducible exact H) | (have H2_ := (Option.bind_some _ _).symm.trans H; rw [hy168]; with_reducible exact H2_) | (have H2_ := (Option.bind_some _ _).symm.trans H; with_reducible exact H2_) | with_reducible exact H | (rw [hy168]; exact H) | exact H
                      have Ny168 := Aside0.mk hy168
                      clear hy168
                      have H' := Aside0.mk H
                      clear H
                      have p163 : 0 ≤ (x9_1 : Int) := of_decide_eq_true (by first | (with_reducible assumption) | assumption)
                      have q163 : x9_1 < (l0.length : Int) := of_decide_eq_true (by first | (with_reducible assumption) | assumption)
                      obtain ⟨ad163, e163, hx163_0⟩ := Kd.at_int HR0.out x9_1 p163 q163
                      cases e163
                      replace hx163_0 := (HB.out.cell (World.block_lt_of_cell? w _ hx163_0)).trans hx163_0
                      replace p163 := eq_true p163
                      replace q163 := eq_true q163
                      obtain ⟨Ao14, co14, eo14⟩ := Kd.R_slice HO_3.out
                      subst eo14
                      have p164 : 0 ≤ ((ji6) : Int) := of_decide_eq_true (by first | (with_reducible assumption) | assumption)
                      have q164 : (ji6) < (x3_1.length : Int) := of_decide_eq_true (by first | (with_reducible assumption) | assumption)
                      obtain ⟨ad164, e164, hx164_0⟩ := Kd.at_int (Kd.R_reads' HO_3.out).2.2 (ji6) p164 q164
                      cases e164
                      replace p164 := eq_true p164
                      replace q164 := eq_true q164
                      go_wp2_with (first | ((with_reducible refine gate_builtin (b := .append) (xs := #[.tmp 31, .tmp 33]) rfl ?_); at_builtin; refine Kd.R_append (Kd.int .i64) (w0 := w) w.heap.size rfl (.tmp 31) (.tmp 33) 25 2 (.int .i64 0) 8 rfl Try.underlying25 info2 rfl (by decide) (by omega) (.slice (some ad164) x3_1.length co14) x3_1 (rd l0 x9_1) [.int .i64 (rd l0 x9_1)] (fun _ => True) (fun _ => False) rfl rfl ?aP (fun _ hk => hk.elim) ?aF ?aO ?aB ?aS ?aL ?_; (case aP => exact rfl); (case aB => exact (by repeat (first | (with_reducible first | exact HB.out | apply below_alloc | apply pw_below_drewN | apply below_drew1) | exact HB.out))); (case aF => exact (fun _ _ => trivial)); (case aO => exact (by (with_reducible repeat (first | apply Kd.R_alloc | apply Kd.R_drewN | apply Kd.R_drew)); exact HO_3.out)); (case aS => exact (below_size (by repeat (first | (with_reducible first | exact HB.out | apply below_alloc | apply pw_below_drewN | apply below_drew1) | exact HB.out)))); (case aL => have := LMc13.out; omega); intro v169 w15 ho hb hg hat; rw [← Ny168.out] at ho; have n0_ := Aside0.mk (hb); have n1_ := Aside0.mk (ho); clear HB; clear HO_3; have HB := n0_; have HO170 := n1_; clear n0_ n1_; clear ho hb hg hat))
                      go_roundg k1
                      case measure => have := HK1.out; omega
                      case rel => exact ⟨(y168), (wrap64 (x9_1 + 1)), (by first | rfl | (simp; done) | (simp [*]; done)), H', ⟨by have := HK1.out; omega⟩, ⟨by (with_reducible repeat (first | apply Kd.R_alloc | apply Kd.R_drewN | apply Kd.R_drew)); exact HO170.out⟩, ⟨by repeat (first | (with_reducible first | exact HB.out | apply below_alloc | apply pw_below_drewN | apply below_drew1) | exact HB.out)⟩⟩
                    · rw [if_neg c13] at H
                      exact absurd H (by simp)
                · rw [if_neg c8] at H
                  exact absurd H (by simp)
              · rw [if_neg c7] at H
                exact absurd H (by simp)
            · rw [if_neg c5] at H
              have c5b0 : decide (0 < (x3_1.length : Int)) = false := decide_eq_false c5
              have c5b1 : decide (0 < x3_1.length) = false := decide_eq_false (by omega)
              clear c5
              by_cases c16 : x3_1.length < 17592186044416
              · rw [if_pos c16] at H
                have LMc16 := Aside0.mk c16
                clear c16
                obtain ⟨y171, hy171⟩ : ∃ y_ : List Int, y_ = (x3_1 ++ [rd l0 x9_1]) := ⟨_, rfl⟩
                replace H : (impl_reduced.l0 k1 y171 l0 (l0.length : Int) (wrap64 (x9_1 + 1))) = some r := by first | (rw [hy171]; with_reducible exact H) | (have H2_ := (Option.bind_some _ _).symm.trans H; rw [hy171]; with_reducible exact H2_) | (have H2_ := (Option.bind_some _ _).symm.trans H; with_reducible exact H2_) | with_reducible exact H | (rw [hy171]; exact H) | exact H
                have Ny171 := Aside0.mk hy171
                clear hy171
                have H' := Aside0.mk H
                clear H
                have p163 : 0 ≤ (x9_1 : Int) := of_decide_eq_true (by first | (with_reducible assumption) | assumption)
                have q163 : x9_1 < (l0.length : Int) := of_decide_eq_true (by first | (with_reducible assumption) | assumption)
                obtain ⟨ad163, e163, hx163_0⟩ := Kd.at_int HR0.out x9_1 p163 q163
                cases e163
                replace hx163_0 := (HB.out.cell (World.block_lt_of_cell? w _ hx163_0)).trans hx163_0
                replace p163 := eq_true p163
                replace q163 := eq_true q163
                obtain ⟨Ao17, co17, eo17⟩ := Kd.R_slice HO_3.out
                subst eo17
                go_wp2_with (first | ((with_reducible refine gate_builtin (b := .append) (xs := #[.tmp 31, .tmp 33]) rfl ?_); at_builtin; refine Kd.R_append (Kd.int .i64) (w0 := w) w.heap.size rfl (.tmp 31) (.tmp 33) 25 2 (.int .i64 0) 8 rfl Try.underlying25 info2 rfl (by decide) (by omega) (.slice Ao17 x3_1.length co17) x3_1 (rd l0 x9_1) [.int .i64 (rd l0 x9_1)] (fun _ => True) (fun _ => False) rfl rfl ?aP (fun _ hk => hk.elim) ?aF ?aO ?aB ?aS ?aL ?_; (case aP => exact rfl); (case aB => exact (by repeat (first | (with_reducible first | exact HB.out | apply below_alloc | apply pw_below_drewN | apply below_drew1) | exact HB.out))); (case aF => exact (fun _ _ => trivial)); (case aO => exact (by (with_reducible repeat (first | apply Kd.R_alloc | apply Kd.R_drewN | apply Kd.R_drew)); exact HO_3.out)); (case aS => exact (below_size (by repeat (first | (with_reducible first | exact HB.out | apply below_alloc | apply pw_below_drewN | apply below_drew1) | exact HB.out)))); (case aL => have := LMc16.out; omega); intro v172 w18 ho hb hg hat; rw [← Ny171.out] at ho; have n0_ := Aside0.mk (hb); have n1_ := Aside0.mk (ho); clear HB; clear HO_3; have HB := n0_; have HO173 := n1_; clear n0_ n1_; clear ho hb hg hat))
                go_roundg k1
                case measure => have := HK1.out; omega
                case rel => exact ⟨(y171), (wrap64 (x9_1 + 1)), (by first | rfl | (simp; done) | (simp [*]; done)), H', ⟨by have := HK1.out; omega⟩, ⟨by (with_reducible repeat (first | apply Kd.R_alloc | apply Kd.R_drewN | apply Kd.R_drew)); exact HO173.out⟩, ⟨by repeat (first | (with_reducible first | exact HB.out | apply below_alloc | apply pw_below_drewN | apply below_drew1) | exact HB.out)⟩⟩
              · rw [if_neg c16] at H
                exact absurd H (by simp)
          · rw [if_neg c4] at H
            exact absurd H (by simp)
        · rw [if_neg c3] at H
          exact absurd H (by simp)
      · rw [if_neg c2] at H
        have c2b0 : decide (x9_1 < (l0.length : Int)) = false := decide_eq_false c2
        clear c2
        obtain rfl := Option.some.inj H
        go_wp2
        go_ret
        exact ⟨_, by first | rfl | (simp [errW_none, errW_some] <;> rfl) | (simp [*, errW_none, errW_some] <;> rfl), by (with_reducible repeat (first | apply Kd.R_alloc | apply Kd.R_drewN | apply Kd.R_drew)); exact HO_3.out, by repeat (first | (with_reducible first | exact HB.out | apply below_alloc | apply pw_below_drewN | apply below_drew1) | exact HB.out)⟩

/-! ### impl_isReduced: function 49 -/
def impl_isReduced.f (k : Nat) (l0 : List Int) (a1 : Int) : Option (Bool) := (impl_isWord.f l0 a1).bind fun t174 => (if t174 = true then ((impl_reduced.f k l0).bind fun t175 => (some ((t175.length : Int) == (l0.length : Int)))) else (some false))
theorem impl_isReduced.mono : ∀ a0 a1 k, LeO (impl_isReduced.f k a0 a1) (impl_isReduced.f (k + 1) a0 a1) := by
  intro a0 a1 k
  unfold impl_isReduced.f
  repeat' first
      | (with_reducible exact impl_reduced.mono _ _)
      | (with_reducible exact LeO.refl _)
      | (with_reducible exact LeO.none _)
      | (with_reducible refine LeO.ite ?_ ?_)
      | (with_reducible refine LeO.bind ?_ (fun _ => ?_))
      | exact impl_reduced.mono _ _
      | exact LeO.none _
      | refine LeO.ite ?_ ?_
      | refine LeO.bind ?_ (fun _ => ?_)
set_option maxHeartbeats 8000000 in
set_option maxRecDepth 100000 in
theorem impl_isReduced.calls (k : Nat) (A0 : Option Addr) (c0 : Nat) (l0 : List Int) (a1 : Int) (r : Bool) (w : World) (hr0 : Kd.C (Kd.int .i64) w A0 l0.length l0) (hc0 : l0.length ≤ c0) (h : impl_isReduced.f k l0 a1 = some r) :
    Calls Try.prog 49 #[.slice A0 l0.length c0, .int .i64 a1] w fun e w' => e = .returned (.bool r) ∧ Below w.heap.size w w' := by
  have HR0 := Aside0.mk hr0
  have HC0 := Aside0.mk hc0
  clear hr0 hc0
  have HB := Aside0.mk (Below.refl w.heap.size w)
  have H : ((impl_isWord.f l0 a1).bind fun t174 => (if t174 = true then ((impl_reduced.f k l0).bind fun t175 => (some ((t175.length : Int) == (l0.length : Int)))) else (some false))) = some r := h
  clear h
  replace H := Option.bind_eq_some_iff.mp H
  obtain ⟨t174, A30, H⟩ := H
  replace H : (if t174 = true then ((impl_reduced.f k l0).bind fun t175 => (some ((t175.length : Int) == (l0.length : Int)))) else (some false)) = some r := H
  have A3 := Aside0.mk A30
  clear A30
  by_cases c4 : t174 = true
  · subst c4
    have H1 : ((impl_reduced.f k l0).bind fun t175 => (some ((t175.length : Int) == (l0.length : Int)))) = some r := by rw [if_pos rfl] at H; exact H
    clear H
    have H := H1
    clear H1
    replace H := Option.bind_eq_some_iff.mp H
    obtain ⟨t175, A50, H⟩ := H
    replace H : (some ((t175.length : Int) == (l0.length : Int))) = some r := H
    have A5 := Aside0.mk A50
    clear A50
    obtain rfl := Option.some.inj H
    go_enter Try.func49, Try.ntmps49
    go_wp2_with (first | ((with_reducible refine gate_callee (f := 64) rfl ?_); refine goesL_ (some 7) rfl rfl Try.func64 (by kernel_rfl) rfl #[.slice A0 l0.length c0, .int .i64 a1] rfl (by (try simp only [List.map_toArray, List.map_cons, List.map_nil]); first | done | rfl | (simp only [List.length_drop, List.length_take]; rfl)) ?_; (with_reducible refine (impl_isWord.calls _ _ l0 a1 true _ ?side1 ?side2 A3.out).mono ?_); (case side1 => repeat (first | exact HR0.out | (with_reducible refine Kd.C_alloc ?_ _) | (with_reducible refine Kd.C_drewN ?_ _) | (with_reducible refine Kd.C_drew ?_))); (case side2 => exact HC0.out); rintro e w6 ⟨rfl, hb⟩; refine ⟨_, rfl, ?_⟩; have n0_ := Aside0.mk (below_step (by repeat (first | (with_reducible first | exact HB.out | apply below_alloc | apply pw_below_drewN | apply below_drew1) | exact HB.out)) hb); clear HB; have HB := n0_; clear n0_; (try clear hb); (try clear hb2); (try clear hk); (try clear hi)) | (go_at_call 77; (with_reducible refine (impl_reduced.calls k _ _ l0 t175 _ ?side1 ?side2 A5.out).mono ?_); (case side1 => repeat (first | exact (Kd.C_below HR0.out HB.out) | (with_reducible refine Kd.C_alloc ?_ _) | (with_reducible refine Kd.C_drewN ?_ _) | (with_reducible refine Kd.C_drew ?_))); (case side2 => exact HC0.out); rintro e w7 ⟨v176, rfl, ho0, hb⟩; have n0_ := Aside0.mk (Kd.R_lower ho0 (below_size (by repeat (first | (with_reducible first | exact HB.out | apply below_alloc | apply pw_below_drewN | apply below_drew1) | exact HB.out)))); have n1_ := Aside0.mk (below_step (by repeat (first | (with_reducible first | exact HB.out | apply below_alloc | apply pw_below_drewN | apply below_drew1) | exact HB.out)) hb); clear HB; have HO177 := n0_; have HB := n1_; clear n0_ n1_; (try clear hb); (try clear hb2); (try clear hk); (try clear hi); (try clear ho0); obtain ⟨Ao8, co8, eo8⟩ := Kd.R_slice HO177.out; subst eo8))
    go_ret
    exact ⟨by first | rfl | (simp [errW_none, errW_some] <;> rfl) | (simp [*, errW_none, errW_some] <;> rfl), by repeat (first | (with_reducible first | exact HB.out | apply below_alloc | apply pw_below_drewN | apply below_drew1) | exact HB.out)⟩
  · replace c4 := Bool.eq_false_iff.mpr c4
    subst c4
    have H1 : (some false) = some r := by rw [if_neg (show ¬ (false = true) by decide)] at H; exact H
    clear H
    have H := H1
    clear H1
    obtain rfl := Option.some.inj H
    go_enter Try.func49, Try.ntmps49
    go_wp2_with (first | ((with_reducible refine gate_callee (f := 64) rfl ?_); refine goesL_ (some 7) rfl rfl Try.func64 (by kernel_rfl) rfl #[.slice A0 l0.length c0, .int .i64 a1] rfl (by (try simp only [List.map_toArray, List.map_cons, List.map_nil]); first | done | rfl | (simp only [List.length_drop, List.length_take]; rfl)) ?_; (with_reducible refine (impl_isWord.calls _ _ l0 a1 false _ ?side1 ?side2 A3.out).mono ?_); (case side1 => repeat (first | exact HR0.out | (with_reducible refine Kd.C_alloc ?_ _) | (with_reducible refine Kd.C_drewN ?_ _) | (with_reducible refine Kd.C_drew ?_))); (case side2 => exact HC0.out); rintro e w9 ⟨rfl, hb⟩; refine ⟨_, rfl, ?_⟩; have n0_ := Aside0.mk (below_step (by repeat (first | (with_reducible first | exact HB.out | apply below_alloc | apply pw_below_drewN | apply below_drew1) | exact HB.out)) hb); clear HB; have HB := n0_; clear n0_; (try clear hb); (try clear hb2); (try clear hk); (try clear hi)))
    go_ret
    exact ⟨by first | rfl | (simp [errW_none, errW_some] <;> rfl) | (simp [*, errW_none, errW_some] <;> rfl), by repeat (first | (with_reducible first | exact HB.out | apply below_alloc | apply pw_below_drewN | apply below_drew1) | exact HB.out)⟩

/-! ### slices_IndexFunc_int64_int64_96: function 96 -/
/-- The first element at which q says yes, counted from i on, or -1; none where q has no answer. -/
def scanI {α : Type} (q : α → Option Bool) : List α → Int → Option Int
  | [], _ => some (-1)
  | x :: t, i => (q x).bind fun b => if b = true then some i else scanI q t (i + 1)
theorem rows_drop (l : List (List Int)) (k : Nat) (h : k < l.length) : l.drop k = l[k] :: l.drop (k + 1) := List.drop_eq_getElem_cons h
theorem Kd.at_row {e : Nat} {d : Kd Int} {w : World} {A : Option Addr} {l : List (List Int)} (h : (Kd.slice e d).C w A l.length l) (k : Nat) (hk : k < l.length) :
    ∃ ad A' c', A = some ad ∧ w.cell? (ad.add k) = some (.slice A' l[k].length c') ∧ l[k].length ≤ c' ∧ d.C w A' l[k].length l[k] := by
  obtain ⟨ad, rfl, hc⟩ := h.2.2 (by omega)
  obtain ⟨cs, hl, ⟨A', c', rfl, h1, h2⟩, hcell⟩ := hc k l[k] (List.getElem?_eq_getElem hk)
  exact ⟨ad, A', c', rfl, by simpa [Kd.slice] using hcell 0 _ rfl, h1, h2⟩
set_option maxHeartbeats 8000000 in
set_option maxRecDepth 100000 in
theorem indexRows (e : Nat) (g : Nat) (lb : Array Value) (eg : ∀ args W, (callFunc g args).run Try.prog W = .ok (.enter g args) W)
    (q : List Int → Option Bool) (A0 : Option Addr) (c0 : Nat) (l0 : List (List Int)) (r : Int) (w : World) (hr0 : Kd.C (Kd.slice e (Kd.int .i64)) w A0 l0.length l0)
    (hp : ∀ (W : World) (A : Option Addr) (c : Nat) (x : List Int) (b : Bool), x ∈ l0 → Below w.heap.size w W → Kd.C (Kd.int .i64) W A x.length x → x.length ≤ c → q x = some b →
      Calls Try.prog g (#[.slice A x.length c] ++ lb) W fun e w' => e = .returned (.bool b) ∧ Below W.heap.size W w')
    (h : scanI q l0 0 = some r) :
    Calls Try.prog 96 #[.slice A0 l0.length c0, .func (.func g) #[] lb] w fun e w' => e = .returned (.int .i64 r) ∧ Below w.heap.size w w' := by
  have hbig := hr0.2.1
  have HR0 := Aside0.mk hr0
  have HP := Aside0.mk hp
  have H' := Aside0.mk h
  clear hr0 hp h
  go_enter Try.func96, Try.ntmps96
  go_wp2
  go_loopg [5, 8] l0.length (fun gg _ s8 wr => ∃ kk : Nat, kk ≤ l0.length ∧ l0.length - kk ≤ gg ∧ s8 = .int .i64 kk ∧ Aside0 (Below w.heap.size w wr) ∧ Aside0 (scanI q (l0.drop kk) kk = some r))
  case atStart => exact ⟨0, Nat.zero_le _, by omega, rfl, ⟨Below.refl _ w⟩, ⟨by simpa using H'.out⟩⟩
  case round =>
    clear H'
    obtain ⟨kk, hkk, hg, rfl, BW, AI⟩ := hrel
    by_cases hlt : kk < l0.length
    · have hltz : (kk : Int) < (l0.length : Int) := by omega
      obtain ⟨ad, A', c', e, hx0, hle, hrow⟩ := Kd.at_row HR0.out kk hlt
      cases e
      have hx : wr.cell? (ad.add kk) = some (.slice A' l0[kk].length c') := (BW.out.cell (World.block_lt_of_cell? w _ hx0)).trans hx0
      have HROW := Aside0.mk (Kd.C_below hrow BW.out)
      have HLE := Aside0.mk hle
      clear hx0 hrow hle
      have HS := AI.out
      rw [rows_drop l0 kk hlt] at HS
      simp only [scanI] at HS
      obtain ⟨b, hq, HS⟩ := Option.bind_eq_some_iff.mp HS
      have hcall := HP.out wr A' c' l0[kk] b (List.getElem_mem hlt) BW.out HROW.out HLE.out hq
      clear hq HLE HROW
      generalize l0[kk] = y at hx hcall
      cases b with
      | true =>
        have HS2 := Aside0.mk (Option.some.inj ((if_pos rfl).symm.trans HS))
        clear HS
        go_wp2_with ((with_reducible refine hcall.mono ?_); rintro e w' ⟨rfl, hb'⟩)
        go_ret
        exact ⟨by rw [← HS2.out] <;> rfl, BW.out.trans (hb'.mono BW.out.size)⟩
      | false =>
        have HS2 := Aside0.mk ((if_neg (by simp)).symm.trans HS)
        clear HS
        go_wp2_with ((with_reducible refine hcall.mono ?_); rintro e w' ⟨rfl, hb'⟩)
        go_roundg (l0.length - (kk + 1))
        case measure => omega
        case rel => exact ⟨kk + 1, by omega, by omega, by go_num, ⟨BW.out.trans (hb'.mono BW.out.size)⟩, ⟨by simpa using HS2.out⟩⟩
    · have hltz : ¬ (kk : Int) < (l0.length : Int) := by omega
      have HS := AI.out
      rw [List.drop_of_length_le (by omega)] at HS
      have HS2 := Aside0.mk (Option.some.inj HS)
      clear HS
      go_wp2
      go_ret
      exact ⟨by rw [← HS2.out] <;> rfl, BW.out⟩


/-! ### slices_ContainsFunc_int64_int64_68: function 68 -/
/-- Is there an element at which q says yes? -/
def anyO {α : Type} (q : α → Option Bool) : List α → Option Bool
  | [] => some false
  | x :: t => (q x).bind fun b => if b = true then some true else anyO q t
theorem anyO_scan {α : Type} (q : α → Option Bool) : ∀ (l : List α) (i : Int) (b : Bool), 0 ≤ i → anyO q l = some b → ∃ r, scanI q l i = some r ∧ decide (0 ≤ r) = b
  | [], i, b, h, e => ⟨-1, rfl, by simp [anyO] at e; simp [e]⟩
  | x :: t, i, b, h, e => by
    simp only [anyO] at e
    obtain ⟨c, hc, e⟩ := Option.bind_eq_some_iff.mp e
    cases c with
    | true =>
      obtain rfl : true = b := by simpa using e
      exact ⟨i, by simp [scanI, hc], by simpa using h⟩
    | false =>
      obtain ⟨r, hr, hb⟩ := anyO_scan q t (i + 1) b (by omega) (by simpa using e)
      exact ⟨r, by simp [scanI, hc, hr], hb⟩
theorem anyO_le {α : Type} {q q' : α → Option Bool} (h : ∀ x, LeO (q x) (q' x)) : ∀ l : List α, LeO (anyO q l) (anyO q' l)
  | [] => LeO.refl _
  | x :: t => by
    simp only [anyO]
    exact LeO.bind (h x) fun b => LeO.ite (LeO.refl _) (anyO_le h t)
set_option maxHeartbeats 8000000 in
set_option maxRecDepth 100000 in
theorem containsRows (e : Nat) (g : Nat) (lb : Array Value) (eg : ∀ args W, (callFunc g args).run Try.prog W = .ok (.enter g args) W)
    (q : List Int → Option Bool) (A0 : Option Addr) (c0 : Nat) (l0 : List (List Int)) (b : Bool) (w : World) (hr0 : Kd.C (Kd.slice e (Kd.int .i64)) w A0 l0.length l0)
    (hp : ∀ (W : World) (A : Option Addr) (c : Nat) (x : List Int) (b : Bool), x ∈ l0 → Below w.heap.size w W → Kd.C (Kd.int .i64) W A x.length x → x.length ≤ c → q x = some b →
      Calls Try.prog g (#[.slice A x.length c] ++ lb) W fun e w' => e = .returned (.bool b) ∧ Below W.heap.size W w')
    (h : anyO q l0 = some b) :
    Calls Try.prog 68 #[.slice A0 l0.length c0, .func (.func g) #[] lb] w fun e w' => e = .returned (.bool b) ∧ Below w.heap.size w w' := by
  obtain ⟨r, hr, hb⟩ := anyO_scan q l0 0 b (Int.le_refl 0) h
  have hI := indexRows e g lb eg q A0 c0 l0 r w hr0 hp hr
  have HB := Aside0.mk hb
  clear hr0 hp eg h hr hb
  go_enter Try.func68, Try.ntmps68
  go_wp2_with (go_at_call 96; refine hI.mono ?_; rintro e w' ⟨rfl, hb'⟩)
  go_ret
  exact ⟨by rw [← HB.out] <;> rfl, hb'⟩


/-! ### impl_isPresentation: function 46 -/
def impl_isPresentation.q (k : Nat) (g : Int) (x : List Int) : Option Bool := (impl_isReduced.f k x g).bind fun b => some (!b)
def impl_isPresentation.f (k : Nat) (a0_0 : Int) (l0_1 : List (List Int)) : Option Bool :=
  if 0 ≤ a0_0 ∧ a0_0 ≤ 24 then (if l0_1.length ≤ 48 then (anyO (impl_isPresentation.q k a0_0) l0_1).bind fun b => some (!b) else some false) else some false
theorem impl_isPresentation.mono : ∀ a0_0 l0_1 k, LeO (impl_isPresentation.f k a0_0 l0_1) (impl_isPresentation.f (k + 1) a0_0 l0_1) := by
  intro a l k
  unfold impl_isPresentation.f
  exact LeO.ite (LeO.ite (LeO.bind (anyO_le (fun x => LeO.bind (impl_isReduced.mono x a k) fun _ => LeO.refl _) l) fun _ => LeO.refl _) (LeO.refl _)) (LeO.refl _)
set_option maxHeartbeats 8000000 in
set_option maxRecDepth 100000 in
theorem isPresentation_lit (k : Nat) (A : Option Addr) (c : Nat) (x : List Int) (g : Int) (b : Bool) (B : Nat) (w : World) (hc : w.cell? ⟨B, 0, none⟩ = some (.int .i64 g)) (hr : Kd.C (Kd.int .i64) w A x.length x) (hl : x.length ≤ c)
    (h : impl_isPresentation.q k g x = some b) :
    Calls Try.prog 75 #[.slice A x.length c, .pointer (some ⟨B, 0, none⟩)] w fun e w' => e = .returned (.bool b) ∧ Below w.heap.size w w' := by
  obtain ⟨b1, h1, h2⟩ := Option.bind_eq_some_iff.mp h
  obtain rfl : (!b1) = b := Option.some.inj h2
  have hC := impl_isReduced.calls k A c x g b1 w hr hl h1
  clear h h1 h2 hr hl
  go_enter Try.func75, Try.ntmps75
  go_wp2_with (go_at_call 49; (with_reducible refine hC.mono ?_); rintro e w' ⟨rfl, hb'⟩)
  go_ret
  exact ⟨rfl, hb'⟩
theorem inRange_quiet (x a b : Int) (w : World) : Calls Try.prog 47 #[.int .i64 x, .int .i64 a, .int .i64 b] w fun e w' => e = .returned (.bool (decide (a ≤ x) && decide (x ≤ b))) ∧ Drawn0 w w' := by
  refine impl_inRange.calls x a b _ w ?_
  unfold impl_inRange.f
  by_cases h : a ≤ x <;> simp [h]
set_option maxHeartbeats 8000000 in
set_option maxRecDepth 100000 in
theorem impl_isPresentation.calls (k : Nat) (a0_0 : Int) (A0_1 : Option Addr) (c0_1 : Nat) (l0_1 : List (List Int)) (r : Bool) (w : World) (hr0_1 : Kd.C (Kd.slice 2 (Kd.int .i64)) w A0_1 l0_1.length l0_1) (hc0_1 : l0_1.length ≤ c0_1) (h : impl_isPresentation.f k a0_0 l0_1 = some r) :
    Calls Try.prog 46 #[.agg #[.int .i64 a0_0, .slice A0_1 l0_1.length c0_1]] w fun e w' => e = .returned (.bool r) ∧ Below w.heap.size w w' := by
  have hR := fun W => inRange_quiet a0_0 0 24 W
  have HR := Aside0.mk hR
  clear hR
  unfold impl_isPresentation.f at h
  by_cases h1 : 0 ≤ a0_0 ∧ a0_0 ≤ 24
  · rw [if_pos h1] at h
    have E1 : (decide ((0 : Int) ≤ a0_0) && decide (a0_0 ≤ 24)) = true := by simp [h1.1, h1.2]
    have EH1 := Aside0.mk E1
    clear h1 E1
    by_cases h2 : l0_1.length ≤ 48
    · rw [if_pos h2] at h
      obtain ⟨b, hb, h3⟩ := Option.bind_eq_some_iff.mp h
      have hC := fun (W : World) (hw : Below w.heap.size w W) (hB : w.heap.size < W.heap.size) (hc : W.cell? ⟨w.heap.size, 0, none⟩ = some (.int .i64 a0_0)) =>
        containsRows 2 75 #[.pointer (some ⟨w.heap.size, 0, none⟩)] (Go.Proofs.enters_of Try.func75 (by kernel_rfl) rfl) (impl_isPresentation.q k a0_0) A0_1 c0_1 l0_1 b W (Kd.C_below hr0_1 hw)
          (fun W' A c x b' _ hb' hrx hlx hq => isPresentation_lit k A c x a0_0 b' w.heap.size W' ((hb'.cell (p := ⟨w.heap.size, 0, none⟩) hB).trans hc) hrx hlx hq) hb
      have HC := Aside0.mk hC
      have H3 := Aside0.mk (Option.some.inj h3)
      have h2z : (l0_1.length : Int) ≤ 48 := by omega
      clear hC hr0_1 hc0_1 h h3 hb h2
      go_enter Try.func46, Try.ntmps46
      go_wp2_with (first
        | (go_at_call 47; refine (HR.out _).mono ?_; rintro e w' ⟨rfl, ⟨nd, rfl⟩⟩; rw [EH1.out])
        | (go_at_call 68; refine (HC.out _ (by repeat (first | exact Below.refl _ _ | apply pw_below_drewN | apply below_alloc)) (by simp) (by simp)).mono ?_; rintro e w' ⟨rfl, hb'⟩))
      go_ret
      refine ⟨by rw [← H3.out] <;> rfl, ?_⟩
      exact (below_then (pw_below_drewN (below_alloc (Below.refl _ w) _) _) (by simp) hb')
    · rw [if_neg h2] at h
      have H3 := Aside0.mk (Option.some.inj h)
      have h2z : ¬ (l0_1.length : Int) ≤ 48 := by omega
      clear h h2 hr0_1 hc0_1
      go_enter Try.func46, Try.ntmps46
      go_wp2_with (go_at_call 47; refine (HR.out _).mono ?_; rintro e w' ⟨rfl, ⟨nd, rfl⟩⟩; rw [EH1.out])
      go_ret
      exact ⟨by rw [← H3.out] <;> rfl, by repeat (first | exact Below.refl _ _ | apply pw_below_drewN | apply below_alloc)⟩
  · rw [if_neg h1] at h
    have E1 : (decide ((0 : Int) ≤ a0_0) && decide (a0_0 ≤ 24)) = false := by
      by_cases h0 : (0 : Int) ≤ a0_0 <;> by_cases h4 : a0_0 ≤ 24 <;> simp [h0, h4]
      exact h1 ⟨h0, h4⟩
    have EH1 := Aside0.mk E1
    have H3 := Aside0.mk (Option.some.inj h)
    clear h1 E1 h hr0_1 hc0_1
    go_enter Try.func46, Try.ntmps46
    go_wp2_with (go_at_call 47; refine (HR.out _).mono ?_; rintro e w' ⟨rfl, ⟨nd, rfl⟩⟩; rw [EH1.out])
    go_ret
    exact ⟨by rw [← H3.out] <;> rfl, by repeat (first | exact Below.refl _ _ | apply pw_below_drewN | apply below_alloc)⟩

/-! ### impl_size_int64_107: function 107 -/
def impl_size_int64_107.f (l0 : List Int) : Option (Int) := some (l0.length : Int)
set_option maxHeartbeats 8000000 in
set_option maxRecDepth 100000 in
theorem impl_size_int64_107.calls (A0 : Option Addr) (c0 : Nat) (l0 : List Int) (r : Int) (w : World) (hr0 : Kd.C (Kd.int .i64) w A0 l0.length l0) (hc0 : l0.length ≤ c0) (h : impl_size_int64_107.f l0 = some r) :
    Calls Try.prog 107 #[.slice A0 l0.length c0] w fun e w' => e = .returned (.int .i64 r) ∧ Drawn0 w w' := by
  have HR0 := Aside0.mk hr0
  have HC0 := Aside0.mk hc0
  clear hr0 hc0
  have H : (some (l0.length : Int)) = some r := h
  clear h
  obtain rfl := Option.some.inj H
  go_enter Try.func107, Try.ntmps107
  go_wp2
  go_ret
  exact ⟨by first | rfl | (simp; done) | (simp [*]; done), by repeat (first | exact Drawn0.refl _ | apply Drawn0.step)⟩

theorem sizeInts (A : Option Addr) (c : Nat) (l : List Int) (w : World) : Calls Try.prog 107 #[.slice A l.length c] w fun e w' => e = .returned (.int .i64 l.length) ∧ w' = w := by
  go_enter Try.func107, Try.ntmps107
  go_wp2
  go_ret
  exact ⟨rfl, rfl⟩

/-! ### impl_isPermutation: function 91 -/
def impl_isPermutation.l0 : Nat → List Int → Int → List Bool → List Int → Int → Int → Option (Bool)
  | 0, _, _, _, _, _, _ => none
  | k + 1, x0, x1, x5, x10, x11, x12 => if x12 < x11 then (if 0 ≤ x12 then (if x12 < (x10.length : Int) then ((impl_inRange.f (rd x10 x12) 0 (wrap64 (x1 - 1))).bind fun t182 => (if t182 = true then (if 0 ≤ (rd x10 x12) then (if (rd x10 x12) < (x5.length : Int) then (if rdOf false x5 (rd x10 x12) = true then (some false) else (impl_isPermutation.l0 k x0 x1 (x5.set ((rd x10 x12) : Int).toNat true) x10 x11 (wrap64 (x12 + 1)))) else (none)) else (none)) else (some false))) else (none)) else (none)) else ((impl_size_int64_107.f x0).bind fun t185 => (some (t185 == x1)))
def impl_isPermutation.f (k : Nat) (l0 : List Int) (a1 : Int) : Option (Bool) := if 0 ≤ a1 then (if (a1 : Int).toNat ≤ 281474976710656 then (impl_isPermutation.l0 k l0 a1 (List.replicate (a1 : Int).toNat false) l0 (l0.length : Int) 0) else (none)) else (none)
theorem impl_isPermutation.mono_l : ∀ k, (∀ y0 y1 y2 y3 y4 y5, LeO (impl_isPermutation.l0 k y0 y1 y2 y3 y4 y5) (impl_isPermutation.l0 (k + 1) y0 y1 y2 y3 y4 y5))
  | 0 => fun _ _ _ _ _ _ r h => by simp [impl_isPermutation.l0] at h
  | k + 1 => by
    have ih0 := impl_isPermutation.mono_l k
    · intro y0 y1 y2 y3 y4 y5
      unfold impl_isPermutation.l0
      repeat' first
      | (with_reducible exact ih0 _ _ _ _ _ _)
      | (with_reducible exact LeO.refl _)
      | (with_reducible exact LeO.none _)
      | (with_reducible refine LeO.ite ?_ ?_)
      | (with_reducible refine LeO.bind ?_ (fun _ => ?_))
      | exact ih0 _ _ _ _ _ _
      | exact LeO.none _
      | refine LeO.ite ?_ ?_
      | refine LeO.bind ?_ (fun _ => ?_)
theorem impl_isPermutation.mono : ∀ a0 a1 k, LeO (impl_isPermutation.f k a0 a1) (impl_isPermutation.f (k + 1) a0 a1) := by
  intro a0 a1 k
  have ih0 := impl_isPermutation.mono_l k
  unfold impl_isPermutation.f
  repeat' first
      | (with_reducible exact ih0 _ _ _ _ _ _)
      | (with_reducible exact LeO.refl _)
      | (with_reducible exact LeO.none _)
      | (with_reducible refine LeO.ite ?_ ?_)
      | (with_reducible refine LeO.bind ?_ (fun _ => ?_))
      | exact ih0 _ _ _ _ _ _
      | exact LeO.none _
      | refine LeO.ite ?_ ?_
      | refine LeO.bind ?_ (fun _ => ?_)
set_option maxHeartbeats 8000000 in
set_option maxRecDepth 100000 in
theorem impl_isPermutation.calls (k : Nat) (A0 : Option Addr) (c0 : Nat) (l0 : List Int) (a1 : Int) (r : Bool) (w : World) (hr0 : Kd.C (Kd.int .i64) w A0 l0.length l0) (hc0 : l0.length ≤ c0) (h : impl_isPermutation.f k l0 a1 = some r) :
    Calls Try.prog 91 #[.slice A0 l0.length c0, .int .i64 a1] w fun e w' => e = .returned (.bool r) ∧ Below w.heap.size w w' := by
  have HR0 := Aside0.mk hr0
  have HC0 := Aside0.mk hc0
  clear hr0 hc0
  have HB := Aside0.mk (Below.refl w.heap.size w)
  have H : (if 0 ≤ a1 then (if (a1 : Int).toNat ≤ 281474976710656 then (impl_isPermutation.l0 k l0 a1 (List.replicate (a1 : Int).toNat false) l0 (l0.length : Int) 0) else (none)) else (none)) = some r := h
  clear h
  by_cases c3 : 0 ≤ a1
  · rw [if_pos c3] at H
    have c3b0 := eq_true c3
    have c3b1 : decide (0 ≤ a1) = true := decide_eq_true c3
    clear c3
    by_cases c4 : (a1 : Int).toNat ≤ 281474976710656
    · rw [if_pos c4] at H
      have c4b0 := eq_true c4
      have c4b1 : decide ((a1 : Int).toNat ≤ 281474976710656) = true := decide_eq_true c4
      clear c4
      obtain ⟨y178, hy178⟩ : ∃ y_ : List Bool, y_ = (List.replicate (a1 : Int).toNat false) := ⟨_, rfl⟩
      replace H : (impl_isPermutation.l0 k l0 a1 y178 l0 (l0.length : Int) 0) = some r := by first | (rw [hy178]; with_reducible exact H) | (have H2_ := (Option.bind_some _ _).symm.trans H; rw [hy178]; with_reducible exact H2_) | (have H2_ := (Option.bind_some _ _).symm.trans H; with_reducible exact H2_) | with_reducible exact H | (rw [hy178]; exact H) | exact H
      have Ny178 := Aside0.mk hy178
      clear hy178
      have H' := Aside0.mk H
      clear H
      go_enter Try.func91, Try.ntmps91
      go_wp2_with (first | ((with_reducible refine gate_dst (N := 9) rfl ?_); refine Kd.R_make Kd.bool _ 4 rfl (N := 9) rfl 101 _ _ rfl a1 rfl rfl Try.underlying101 (.bool false) 1 info4 rfl (by decide) (by omega) false (ok := fun _ => True) (okp := fun _ => True) rfl (fun _ hk => hk) trivial (of_decide_eq_true (by first | (with_reducible assumption) | assumption)) (Nat.le_trans (Nat.mul_le_mul_right _ (of_decide_eq_true (by first | (with_reducible assumption) | assumption) : a1.toNat ≤ 281474976710656)) (by omega)) (Below.refl _ _) (Nat.le_refl _) ?_; intro v179 w5 ho6 hb hg_ hnew_; clear hg_ hnew_; (first | rw [← Ny178.out] at ho6 | (simp only [Int.reduceToNat] at ho6; rw [← Ny178.out] at ho6)); have n0_ := Aside0.mk (Kd.R_lower ho6 (below_size (by repeat (first | (with_reducible first | exact HB.out | apply below_alloc | apply pw_below_drewN | apply below_drew1) | exact HB.out)))); have n1_ := Aside0.mk (below_step (by repeat (first | (with_reducible first | exact HB.out | apply below_alloc | apply pw_below_drewN | apply below_drew1) | exact HB.out)) hb); clear HB; have HO180 := n0_; have HB := n1_; clear n0_ n1_; clear hb ho6))
      go_loopg [12] k (fun kq v12 w' => ∃ (x5_1 : List Bool) (x12_1 : Int), v12 = .int .i64 x12_1 ∧ Aside0 (impl_isPermutation.l0 kq l0 a1 x5_1 l0 (l0.length : Int) x12_1 = some r) ∧ Aside0 (kq ≤ k) ∧ Aside0 (Kd.R Kd.bool 4 w' w.heap.size (fun _ => True) v179 x5_1) ∧ Aside0 (Below w.heap.size w w'))
      case atStart => exact ⟨(y178), (0), (by first | rfl | (simp; done) | (simp [*]; done)), H', ⟨Nat.le_refl _⟩, ⟨by (with_reducible repeat (first | apply Kd.R_alloc | apply Kd.R_drewN | apply Kd.R_drew)); exact HO180.out⟩, ⟨by repeat (first | (with_reducible first | exact HB.out | apply below_alloc | apply pw_below_drewN | apply below_drew1) | exact HB.out)⟩⟩
      case round =>
        clear H'
        try clear p2
        try clear c3
        try clear c3b0
        try clear c3b1
        try clear c4
        try clear c4b0
        try clear c4b1
        obtain ⟨x5_1, x12_1, rfl, HA, HK1, HO_5, HB⟩ := hrel
        cases gk with
        | zero => exact absurd HA.out (by simp [impl_isPermutation.l0])
        | succ k1 =>
          have H := HA.out
          clear HA
          simp only [impl_isPermutation.l0] at H
          by_cases c7 : x12_1 < (l0.length : Int)
          · rw [if_pos c7] at H
            have c7b0 : decide (x12_1 < (l0.length : Int)) = true := decide_eq_true c7
            clear c7
            by_cases c8 : 0 ≤ x12_1
            · rw [if_pos c8] at H
              have c8b0 : decide (0 ≤ x12_1) = true := decide_eq_true c8
              clear c8
              by_cases c9 : x12_1 < (l0.length : Int)
              · rw [if_pos c9] at H
                have c9b0 : decide (x12_1 < (l0.length : Int)) = true := decide_eq_true c9
                clear c9
                replace H := Option.bind_eq_some_iff.mp H
                obtain ⟨t182, A100, H⟩ := H
                replace H : (if t182 = true then (if 0 ≤ (rd l0 x12_1) then (if (rd l0 x12_1) < (x5_1.length : Int) then (if rdOf false x5_1 (rd l0 x12_1) = true then (some false) else (impl_isPermutation.l0 k1 l0 a1 (x5_1.set ((rd l0 x12_1) : Int).toNat true) l0 (l0.length : Int) (wrap64 (x12_1 + 1)))) else (none)) else (none)) else (some false)) = some r := H
                have A10 := Aside0.mk A100
                clear A100
                by_cases c11 : t182 = true
                · subst c11
                  have H1 : (if 0 ≤ (rd l0 x12_1) then (if (rd l0 x12_1) < (x5_1.length : Int) then (if rdOf false x5_1 (rd l0 x12_1) = true then (some false) else (impl_isPermutation.l0 k1 l0 a1 (x5_1.set ((rd l0 x12_1) : Int).toNat true) l0 (l0.length : Int) (wrap64 (x12_1 + 1)))) else (none)) else (none)) = some r := by rw [if_pos rfl] at H; exact H
                  clear H
                  have H := H1
                  clear H1
                  by_cases c12 : 0 ≤ (rd l0 x12_1)
                  · rw [if_pos c12] at H
                    have c12b0 : decide (0 ≤ (rd l0 x12_1)) = true := decide_eq_true c12
                    clear c12
                    by_cases c13 : (rd l0 x12_1) < (x5_1.length : Int)
                    · rw [if_pos c13] at H
                      have c13b0 : decide ((rd l0 x12_1) < (x5_1.length : Int)) = true := decide_eq_true c13
                      clear c13
                      obtain ⟨bq14, hbq14⟩ : ∃ b_ : Bool, b_ = (rdOf false x5_1 (rd l0 x12_1)) := ⟨_, rfl⟩
                      replace H : (if bq14 = true then (some false) else (impl_isPermutation.l0 k1 l0 a1 (x5_1.set ((rd l0 x12_1) : Int).toNat true) l0 (l0.length : Int) (wrap64 (x12_1 + 1)))) = some r := by rw [← hbq14] at H; exact H
                      have Nbq14 := Aside0.mk hbq14
                      clear hbq14
                      by_cases c15 : bq14 = true
                      · subst c15
                        have H1 : (some false) = some r := by rw [if_pos rfl] at H; exact H
                        clear H
                        have H := H1
                        clear H1
                        obtain rfl := Option.some.inj H
                        have p181 : 0 ≤ (x12_1 : Int) := of_decide_eq_true (by first | (with_reducible assumption) | assumption)
                        have q181 : x12_1 < (l0.length : Int) := of_decide_eq_true (by first | (with_reducible assumption) | assumption)
                        obtain ⟨ad181, e181, hx181_0⟩ := Kd.at_int HR0.out x12_1 p181 q181
                        cases e181
                        replace hx181_0 := (HB.out.cell (World.block_lt_of_cell? w _ hx181_0)).trans hx181_0
                        replace p181 := eq_true p181
                        replace q181 := eq_true q181
                        go_wp2_with (first | ((with_reducible refine gate_callee (f := 47) rfl ?_); refine goesL_ (some 19) rfl rfl Try.func47 (by kernel_rfl) rfl #[.int .i64 (rd l0 x12_1), .int .i64 0, .int .i64 (wrap64 (a1 - 1))] rfl (by (try simp only [List.map_toArray, List.map_cons, List.map_nil]); first | done | rfl | (simp only [List.length_drop, List.length_take]; rfl)) ?_; (with_reducible refine (impl_inRange.calls (rd l0 x12_1) 0 (wrap64 (a1 - 1)) true _ A10.out).mono ?_); rintro e w' ⟨rfl, ⟨nd, rfl⟩⟩; refine ⟨_, rfl, ?_⟩; obtain ⟨Ao16, co16, eo16⟩ := Kd.R_slice HO_5.out; subst eo16; have p183 : 0 ≤ ((rd l0 x12_1) : Int) := of_decide_eq_true (by first | (with_reducible assumption) | assumption); have q183 : (rd l0 x12_1) < (x5_1.length : Int) := of_decide_eq_true (by first | (with_reducible assumption) | assumption); obtain ⟨ad183, e183, hx183_0⟩ := Kd.at_bool (Kd.R_reads' HO_5.out).2.2 (rd l0 x12_1) p183 q183; (try rw [← Nbq14.out] at hx183_0); cases e183; replace p183 := eq_true p183; replace q183 := eq_true q183))
                        go_ret
                        exact ⟨by first | rfl | (simp [errW_none, errW_some] <;> rfl) | (simp [*, errW_none, errW_some] <;> rfl), by repeat (first | (with_reducible first | exact HB.out | apply below_alloc | apply pw_below_drewN | apply below_drew1) | exact HB.out)⟩
                      · replace c15 := Bool.eq_false_iff.mpr c15
                        subst c15
                        have H1 : (impl_isPermutation.l0 k1 l0 a1 (x5_1.set ((rd l0 x12_1) : Int).toNat true) l0 (l0.length : Int) (wrap64 (x12_1 + 1))) = some r := by rw [if_neg (show ¬ (false = true) by decide)] at H; exact H
                        clear H
                        have H := H1
                        clear H1
                        obtain ⟨y184, hy184⟩ : ∃ y_ : List Bool, y_ = (x5_1.set ((rd l0 x12_1) : Int).toNat true) := ⟨_, rfl⟩
                        replace H : (impl_isPermutation.l0 k1 l0 a1 y184 l0 (l0.length : Int) (wrap64 (x12_1 + 1))) = some r := by first | (rw [hy184]; with_reducible exact H) | (have H2_ := (Option.bind_some _ _).symm.trans H; rw [hy184]; with_reducible exact H2_) | (have H2_ := (Option.bind_some _ _).symm.trans H; with_reducible exact H2_) | with_reducible exact H | (rw [hy184]; exact H) | exact H
                        have Ny184 := Aside0.mk hy184
                        clear hy184
                        have H' := Aside0.mk H
                        clear H
                        have p181 : 0 ≤ (x12_1 : Int) := of_decide_eq_true (by first | (with_reducible assumption) | assumption)
                        have q181 : x12_1 < (l0.length : Int) := of_decide_eq_true (by first | (with_reducible assumption) | assumption)
                        obtain ⟨ad181, e181, hx181_0⟩ := Kd.at_int HR0.out x12_1 p181 q181
                        cases e181
                        replace hx181_0 := (HB.out.cell (World.block_lt_of_cell? w _ hx181_0)).trans hx181_0
                        replace p181 := eq_true p181
                        replace q181 := eq_true q181
                        go_wp2_with (first | ((with_reducible refine gate_callee (f := 47) rfl ?_); refine goesL_ (some 19) rfl rfl Try.func47 (by kernel_rfl) rfl #[.int .i64 (rd l0 x12_1), .int .i64 0, .int .i64 (wrap64 (a1 - 1))] rfl (by (try simp only [List.map_toArray, List.map_cons, List.map_nil]); first | done | rfl | (simp only [List.length_drop, List.length_take]; rfl)) ?_; (with_reducible refine (impl_inRange.calls (rd l0 x12_1) 0 (wrap64 (a1 - 1)) true _ A10.out).mono ?_); rintro e w' ⟨rfl, ⟨nd, rfl⟩⟩; refine ⟨_, rfl, ?_⟩; (try (rw [drewN_self wr]; generalize hq_ : World.drewN wr _ = wr; have n0_ : Aside0 (Kd.R Kd.bool 4 wr w.heap.size (fun _ => True) v179 x5_1) := ⟨by rw [← hq_]; exact (by (with_reducible repeat (first | apply Kd.R_alloc | apply Kd.R_drewN | apply Kd.R_drew)); exact HO_5.out)⟩; have n1_ : Aside0 (Below w.heap.size w wr) := ⟨by rw [← hq_]; exact (by repeat (first | (with_reducible first | exact HB.out | apply below_alloc | apply pw_below_drewN | apply below_drew1) | exact HB.out))⟩; clear HO_5 HB hq_; have HO_5 := n0_; have HB := n1_; clear n0_ n1_)); obtain ⟨Ao18, co18, eo18⟩ := Kd.R_slice HO_5.out; subst eo18; have p183 : 0 ≤ ((rd l0 x12_1) : Int) := of_decide_eq_true (by first | (with_reducible assumption) | assumption); have q183 : (rd l0 x12_1) < (x5_1.length : Int) := of_decide_eq_true (by first | (with_reducible assumption) | assumption); obtain ⟨ad183, e183, hx183_0⟩ := Kd.at_bool (Kd.R_reads' HO_5.out).2.2 (rd l0 x12_1) p183 q183; (try rw [← Nbq14.out] at hx183_0); cases e183; replace p183 := eq_true p183; replace q183 := eq_true q183; have p17 : 0 ≤ ((rd l0 x12_1) : Int) := of_decide_eq_true (by first | (with_reducible assumption) | assumption); have q17 : ((rd l0 x12_1) : Int) < ((x5_1.length : Int) : Int) := of_decide_eq_true (by first | (with_reducible assumption) | assumption); obtain ⟨go17, co17, eo17, gb17, gl17, cl17, HG17⟩ := Kd.R_form HO_5.out (by omega); (first | cases eo17 | (injection eo17 with ea_ en_ ec_; (first | subst ea_ | (injection ea_ with ea_; subst ea_)); subst ec_; clear en_)); have GB17 := Aside0.mk gb17; have GG17 := Aside0.mk HG17; clear gb17 gl17 HG17; (first | simp only [add_plain] at hx183_0 | skip); obtain ⟨hx17_0, hf17_0⟩ := Kd.R_celln false HO_5.out ((rd l0 x12_1) : Int) p17 q17; replace p17 := eq_true p17; replace q17 := eq_true q17; obtain ⟨hy19_, hz19_⟩ := Kd.R_celln false HO_5.out ((rd l0 x12_1) : Int) (of_decide_eq_true (by first | (with_reducible assumption) | assumption)) (of_decide_eq_true (by first | (with_reducible assumption) | assumption)); have HP19 := Kd.R_putg HO_5.out ((rd l0 x12_1) : Int) true) | ((with_reducible refine gate_store (t := 4) (p := 29) rfl ?_); refine store_event (t := 4) (p := 29) (v := ?vo_w20) (w1 := (wr.setCell ⟨go17, ((rd l0 x12_1) : Int).toNat, none⟩ (.bool true))) ?hg ?ho ?hn ?hr ?_; (case ho => rfl); (case hg => rfl); (case hn => rfl); (case hr => first | (go_simp; done) | (go_simp; rfl)); intro w20 hw; have hg : wr.grownBy w20 (some go17) := (by rw [hw]; exact HP19.2); have hp_ : Kd.R Kd.bool 4 w20 w.heap.size (fun _ => True) (.slice (some ⟨go17, 0, none⟩) x5_1.length co18) y184 := (by rw [hw, Ny184.out]; exact HP19.1); clear HP19; have n0_ := Aside0.mk (hp_); have n1_ := Aside0.mk ((by rw [hw]; exact below_set (HB.out) GB17.out : Below w.heap.size w w20)); clear HO_5; clear HB; have HO_5 := n0_; have HB := n1_; clear n0_ n1_; clear hg hw hp_))
                        go_roundg k1
                        case measure => have := HK1.out; omega
                        case rel => exact ⟨(y184), (wrap64 (x12_1 + 1)), (by first | rfl | (simp; done) | (simp [*]; done)), H', ⟨by have := HK1.out; omega⟩, ⟨by (with_reducible repeat (first | apply Kd.R_alloc | apply Kd.R_drewN | apply Kd.R_drew)); exact HO_5.out⟩, ⟨by repeat (first | (with_reducible first | exact HB.out | apply below_alloc | apply pw_below_drewN | apply below_drew1) | exact HB.out)⟩⟩
                    · rw [if_neg c13] at H
                      exact absurd H (by simp)
                  · rw [if_neg c12] at H
                    exact absurd H (by simp)
                · replace c11 := Bool.eq_false_iff.mpr c11
                  subst c11
                  have H1 : (some false) = some r := by rw [if_neg (show ¬ (false = true) by decide)] at H; exact H
                  clear H
                  have H := H1
                  clear H1
                  obtain rfl := Option.some.inj H
                  have p181 : 0 ≤ (x12_1 : Int) := of_decide_eq_true (by first | (with_reducible assumption) | assumption)
                  have q181 : x12_1 < (l0.length : Int) := of_decide_eq_true (by first | (with_reducible assumption) | assumption)
                  obtain ⟨ad181, e181, hx181_0⟩ := Kd.at_int HR0.out x12_1 p181 q181
                  cases e181
                  replace hx181_0 := (HB.out.cell (World.block_lt_of_cell? w _ hx181_0)).trans hx181_0
                  replace p181 := eq_true p181
                  replace q181 := eq_true q181
                  go_wp2_with (first | ((with_reducible refine gate_callee (f := 47) rfl ?_); refine goesL_ (some 19) rfl rfl Try.func47 (by kernel_rfl) rfl #[.int .i64 (rd l0 x12_1), .int .i64 0, .int .i64 (wrap64 (a1 - 1))] rfl (by (try simp only [List.map_toArray, List.map_cons, List.map_nil]); first | done | rfl | (simp only [List.length_drop, List.length_take]; rfl)) ?_; (with_reducible refine (impl_inRange.calls (rd l0 x12_1) 0 (wrap64 (a1 - 1)) false _ A10.out).mono ?_); rintro e w' ⟨rfl, ⟨nd, rfl⟩⟩; refine ⟨_, rfl, ?_⟩))
                  go_ret
                  exact ⟨by first | rfl | (simp [errW_none, errW_some] <;> rfl) | (simp [*, errW_none, errW_some] <;> rfl), by repeat (first | (with_reducible first | exact HB.out | apply below_alloc | apply pw_below_drewN | apply below_drew1) | exact HB.out)⟩
              · rw [if_neg c9] at H
                exact absurd H (by simp)
            · rw [if_neg c8] at H
              exact absurd H (by simp)
          · rw [if_neg c7] at H
            have c7b0 : decide (x12_1 < (l0.length : Int)) = false := decide_eq_false c7
            clear c7
            replace H := Option.bind_eq_some_iff.mp H
            obtain ⟨t185, A210, H⟩ := H
            replace H : (some (t185 == a1)) = some r := H
            have A21 := Aside0.mk A210
            clear A210
            obtain rfl := Option.some.inj H
            go_wp2_with (first | ((with_reducible refine gate_callee (f := 107) rfl ?_); refine goesL_ (some 32) rfl rfl Try.func107 (by kernel_rfl) rfl #[.slice A0 l0.length c0] rfl (by (try simp only [List.map_toArray, List.map_cons, List.map_nil]); first | done | rfl | (simp only [List.length_drop, List.length_take]; rfl)) ?_; (with_reducible refine (impl_size_int64_107.calls _ _ l0 t185 _ ?side1 ?side2 A21.out).mono ?_); (case side1 => repeat (first | exact (Kd.C_below HR0.out HB.out) | (with_reducible refine Kd.C_alloc ?_ _) | (with_reducible refine Kd.C_drewN ?_ _) | (with_reducible refine Kd.C_drew ?_))); (case side2 => exact HC0.out); rintro e w' ⟨rfl, ⟨nd, rfl⟩⟩; refine ⟨_, rfl, ?_⟩))
            go_ret
            exact ⟨by first | rfl | (simp [errW_none, errW_some] <;> rfl) | (simp [*, errW_none, errW_some] <;> rfl), by repeat (first | (with_reducible first | exact HB.out | apply below_alloc | apply pw_below_drewN | apply below_drew1) | exact HB.out)⟩
    · rw [if_neg c4] at H
      exact absurd H (by simp)
  · rw [if_neg c3] at H
    exact absurd H (by simp)

/-! ### impl_arePermutations: function 62 -/
def impl_arePermutations.q (k : Nat) (n : Int) (x : List Int) : Option Bool := (impl_isPermutation.f k x n).bind fun b => some (!b)
def impl_arePermutations.f (k : Nat) (a0 : Int) (l1 : List (List Int)) : Option Bool :=
  if 1 ≤ a0 ∧ a0 ≤ 4 then (anyO (impl_arePermutations.q k a0) l1).bind fun b => some (!b) else some false
theorem impl_arePermutations.mono : ∀ a0 l1 k, LeO (impl_arePermutations.f k a0 l1) (impl_arePermutations.f (k + 1) a0 l1) := by
  intro a l k
  unfold impl_arePermutations.f
  exact LeO.ite (LeO.bind (anyO_le (fun x => LeO.bind (impl_isPermutation.mono x a k) fun _ => LeO.refl _) l) fun _ => LeO.refl _) (LeO.refl _)
set_option maxHeartbeats 8000000 in
set_option maxRecDepth 100000 in
theorem arePermutations_lit (k : Nat) (A : Option Addr) (c : Nat) (x : List Int) (g : Int) (b : Bool) (B : Nat) (w : World) (hc : w.cell? ⟨B, 0, none⟩ = some (.int .i64 g)) (hr : Kd.C (Kd.int .i64) w A x.length x) (hl : x.length ≤ c)
    (h : impl_arePermutations.q k g x = some b) :
    Calls Try.prog 90 #[.slice A x.length c, .pointer (some ⟨B, 0, none⟩)] w fun e w' => e = .returned (.bool b) ∧ Below w.heap.size w w' := by
  obtain ⟨b1, h1, h2⟩ := Option.bind_eq_some_iff.mp h
  obtain rfl : (!b1) = b := Option.some.inj h2
  have hC := impl_isPermutation.calls k A c x g b1 w hr hl h1
  clear h h1 h2 hr hl
  go_enter Try.func90, Try.ntmps90
  go_wp2_with (go_at_call 91; (with_reducible refine hC.mono ?_); rintro e w' ⟨rfl, hb'⟩)
  go_ret
  exact ⟨rfl, hb'⟩
theorem inRange_quiet2 (x a b : Int) (w : World) : Calls Try.prog 47 #[.int .i64 x, .int .i64 a, .int .i64 b] w fun e w' => e = .returned (.bool (decide (a ≤ x) && decide (x ≤ b))) ∧ Drawn0 w w' := by
  refine impl_inRange.calls x a b _ w ?_
  unfold impl_inRange.f
  by_cases h : a ≤ x <;> simp [h]
set_option maxHeartbeats 8000000 in
set_option maxRecDepth 100000 in
theorem impl_arePermutations.calls (k : Nat) (a0 : Int) (A1 : Option Addr) (c1 : Nat) (l1 : List (List Int)) (r : Bool) (w : World) (hr1 : Kd.C (Kd.slice 2 (Kd.int .i64)) w A1 l1.length l1) (hc1 : l1.length ≤ c1) (h : impl_arePermutations.f k a0 l1 = some r) :
    Calls Try.prog 62 #[.int .i64 a0, .slice A1 l1.length c1] w fun e w' => e = .returned (.bool r) ∧ Below w.heap.size w w' := by
  have hR := fun W => inRange_quiet2 a0 1 4 W
  have HR := Aside0.mk hR
  clear hR
  unfold impl_arePermutations.f at h
  by_cases h1 : 1 ≤ a0 ∧ a0 ≤ 4
  · rw [if_pos h1] at h
    have E1 : (decide ((1 : Int) ≤ a0) && decide (a0 ≤ 4)) = true := by simp [h1.1, h1.2]
    have EH1 := Aside0.mk E1
    clear h1 E1
    obtain ⟨b, hb, h3⟩ := Option.bind_eq_some_iff.mp h
    have hC := fun (W : World) (hw : Below w.heap.size w W) (hB : w.heap.size < W.heap.size) (hc : W.cell? ⟨w.heap.size, 0, none⟩ = some (.int .i64 a0)) =>
      containsRows 2 90 #[.pointer (some ⟨w.heap.size, 0, none⟩)] (Go.Proofs.enters_of Try.func90 (by kernel_rfl) rfl) (impl_arePermutations.q k a0) A1 c1 l1 b W (Kd.C_below hr1 hw)
        (fun W' A c x b' _ hb' hrx hlx hq => arePermutations_lit k A c x a0 b' w.heap.size W' ((hb'.cell (p := ⟨w.heap.size, 0, none⟩) hB).trans hc) hrx hlx hq) hb
    have HC := Aside0.mk hC
    have H3 := Aside0.mk (Option.some.inj h3)
    clear hC hr1 hc1 h h3 hb
    go_enter Try.func62, Try.ntmps62
    go_wp2_with (first
      | (go_at_call 47; refine (HR.out _).mono ?_; rintro e w' ⟨rfl, ⟨nd, rfl⟩⟩; rw [EH1.out])
      | (go_at_call 68; refine (HC.out _ (by repeat (first | exact Below.refl _ _ | apply pw_below_drewN | apply below_alloc)) (by simp) (by simp)).mono ?_; rintro e w' ⟨rfl, hb'⟩))
    go_ret
    refine ⟨by rw [← H3.out] <;> rfl, ?_⟩
    exact (below_then (pw_below_drewN (below_alloc (Below.refl _ w) _) _) (by simp) hb')
  · rw [if_neg h1] at h
    have E1 : (decide ((1 : Int) ≤ a0) && decide (a0 ≤ 4)) = false := by
      by_cases h0 : (1 : Int) ≤ a0 <;> by_cases h4 : a0 ≤ 4 <;> simp [h0, h4]
      exact h1 ⟨h0, h4⟩
    have EH1 := Aside0.mk E1
    have H3 := Aside0.mk (Option.some.inj h)
    clear h1 E1 h hr1 hc1
    go_enter Try.func62, Try.ntmps62
    go_wp2_with (go_at_call 47; refine (HR.out _).mono ?_; rintro e w' ⟨rfl, ⟨nd, rfl⟩⟩; rw [EH1.out])
    go_ret
    exact ⟨by rw [← H3.out] <;> rfl, by repeat (first | exact Below.refl _ _ | apply pw_below_drewN | apply below_alloc)⟩

/-! ### impl_size_int64_65: function 65 -/
def impl_size_int64_65.f (l0 : List (List Int)) : Option (Int) := some (l0.length : Int)
set_option maxHeartbeats 8000000 in
set_option maxRecDepth 100000 in
theorem impl_size_int64_65.calls (A0 : Option Addr) (c0 : Nat) (l0 : List (List Int)) (r : Int) (w : World) (hr0 : Kd.C (Kd.slice 2 (Kd.int .i64)) w A0 l0.length l0) (hc0 : l0.length ≤ c0) (h : impl_size_int64_65.f l0 = some r) :
    Calls Try.prog 65 #[.slice A0 l0.length c0] w fun e w' => e = .returned (.int .i64 r) ∧ Drawn0 w w' := by
  have HR0 := Aside0.mk hr0
  have HC0 := Aside0.mk hc0
  clear hr0 hc0
  have H : (some (l0.length : Int)) = some r := h
  clear h
  obtain rfl := Option.some.inj H
  go_enter Try.func65, Try.ntmps65
  go_wp2
  go_ret
  exact ⟨by first | rfl | (simp; done) | (simp [*]; done), by repeat (first | exact Drawn0.refl _ | apply Drawn0.step)⟩

end Go.Proofs.Ytaibdhbccfaneaa.PFnExactIsRepresentation
