/- Written by this session's program out of the kit's print and this session's contracts. -/
import Derived.Test.YtinpfomadogadaaPFnExactOrbitsOfx0
import Derived.Test.YtinpfomadogadaaPFnExactOrbitsOfx1
import Derived.Test.YtinpfomadogadaaPFnExactOrbitsOfx2
import Derived.Test.YtinpfomadogadaaPFnExactOrbitsOfx3
import Derived.Test.YtinpfomadogadaaPFnExactOrbitsOfx4
import Derived.Test.YtinpfomadogadaaPFnExactOrbitsOfx5
namespace Go.Proofs.Ytinpfomadogadaa.PFnExactOrbitsOf
open Go.RowKit Go.Proofs.YtinpfomadogadaaW.PrintWords Go.Proofs.YtinpfomadogadaaW.PrintLast Go.Proofs.YtinpfomadogadaaW.PrintMore
attribute [local go_sem] max2_int min2_int max_two min_two max_three min_three max_four min_four   -- for this text's walks alone
set_option linter.unusedVariables false
set_option linter.unusedSimpArgs false

/-! ### impl_orbits: function 74 -/
mutual
def impl_orbits.l0 : Nat → List (List Int) → List (List Int) → List Bool → Int → Int → Option ((List (List Int)))
  | 0, _, _, _, _, _ => none
  | k + 1, x1, x5, x6, x15, x16 => if x16 < x15 then (if 0 ≤ x16 then (if x16 < (x6.length : Int) then (if rdOf false x6 x16 = true then (impl_orbits.l0 k x1 x5 x6 x15 (wrap64 (x16 + 1))) else (impl_orbits.l1 k x1 x5 (x6.set (x16 : Int).toNat true) (([x16] : List Int)) 0 x15 x16)) else (none)) else (none)) else (some x5)
def impl_orbits.l1 : Nat → List (List Int) → List (List Int) → List Bool → List Int → Int → Int → Int → Option ((List (List Int)))
  | 0, _, _, _, _, _, _, _ => none
  | k + 1, x1, x5, x6, x8, x9, x15, x16 => if x9 < (x8.length : Int) then (impl_orbits.l2 k x1 x5 x6 x8 x9 x15 x16 x1 (x1.length : Int) 0) else ((slices_Sort_int64_int64.f k x8).bind fun t191 => (if x5.length < 5864062014805 then (impl_orbits.l0 k x1 (x5 ++ [t191]) x6 x15 (wrap64 (x16 + 1))) else (none)))
def impl_orbits.l2 : Nat → List (List Int) → List (List Int) → List Bool → List Int → Int → Int → Int → List (List Int) → Int → Int → Option ((List (List Int)))
  | 0, _, _, _, _, _, _, _, _, _, _ => none
  | k + 1, x1, x5, x6, x8, x9, x15, x16, x34, x35, x36 => if x36 < x35 then (if 0 ≤ x36 then (if x36 < (x34.length : Int) then (if 0 ≤ x9 then (if x9 < (x8.length : Int) then (if 0 ≤ (rd x8 x9) then (if (rd x8 x9) < ((rd_L1 x34 x36).length : Int) then (if 0 ≤ (rd (rd_L1 x34 x36) (rd x8 x9)) then (if (rd (rd_L1 x34 x36) (rd x8 x9)) < (x6.length : Int) then (if (rdOf false x6 (rd (rd_L1 x34 x36) (rd x8 x9)) = true) then (impl_orbits.l2 k x1 x5 x6 x8 x9 x15 x16 x34 x35 (wrap64 (x36 + 1))) else (if x8.length < 17592186044416 then (impl_orbits.l2 k x1 x5 (x6.set ((rd (rd_L1 x34 x36) (rd x8 x9)) : Int).toNat true) (x8 ++ [rd (rd_L1 x34 x36) (rd x8 x9)]) x9 x15 x16 x34 x35 (wrap64 (x36 + 1))) else (none))) else (none)) else (none)) else (none)) else (none)) else (none)) else (none)) else (none)) else (none)) else (impl_orbits.l1 k x1 x5 x6 x8 (wrap64 (x9 + 1)) x15 x16)
end
def impl_orbits.f (k : Nat) (a0 : Int) (l1 : List (List Int)) : Option ((List (List Int))) := if 0 ≤ a0 then (if (a0 : Int).toNat ≤ 281474976710656 then (impl_orbits.l0 k l1 ([] : List (List Int)) (List.replicate (a0 : Int).toNat false) a0 0) else (none)) else (none)
theorem impl_orbits.mono_l : ∀ k, (∀ y0 y1 y2 y3 y4, LeO (impl_orbits.l0 k y0 y1 y2 y3 y4) (impl_orbits.l0 (k + 1) y0 y1 y2 y3 y4)) ∧ (∀ y0 y1 y2 y3 y4 y5 y6, LeO (impl_orbits.l1 k y0 y1 y2 y3 y4 y5 y6) (impl_orbits.l1 (k + 1) y0 y1 y2 y3 y4 y5 y6)) ∧ (∀ y0 y1 y2 y3 y4 y5 y6 y7 y8 y9, LeO (impl_orbits.l2 k y0 y1 y2 y3 y4 y5 y6 y7 y8 y9) (impl_orbits.l2 (k + 1) y0 y1 y2 y3 y4 y5 y6 y7 y8 y9))
  | 0 => ⟨fun _ _ _ _ _ r h => by simp [impl_orbits.l0] at h, fun _ _ _ _ _ _ _ r h => by simp [impl_orbits.l1] at h, fun _ _ _ _ _ _ _ _ _ _ r h => by simp [impl_orbits.l2] at h⟩
  | k + 1 => by
    obtain ⟨ih0, ih1, ih2⟩ := impl_orbits.mono_l k
    refine ⟨?_, ?_, ?_⟩
    · intro y0 y1 y2 y3 y4
      unfold impl_orbits.l0
      repeat' first
      | (with_reducible exact ih0 _ _ _ _ _)
      | (with_reducible exact ih1 _ _ _ _ _ _ _)
      | (with_reducible exact ih2 _ _ _ _ _ _ _ _ _ _)
      | (with_reducible exact slices_Sort_int64_int64.mono _ _)
      | (with_reducible exact LeO.refl _)
      | (with_reducible exact LeO.none _)
      | (with_reducible refine LeO.ite ?_ ?_)
      | (with_reducible refine LeO.bind ?_ (fun _ => ?_))
      | exact ih0 _ _ _ _ _
      | exact ih1 _ _ _ _ _ _ _
      | exact ih2 _ _ _ _ _ _ _ _ _ _
      | exact slices_Sort_int64_int64.mono _ _
      | exact LeO.none _
      | refine LeO.ite ?_ ?_
      | refine LeO.bind ?_ (fun _ => ?_)
    · intro y0 y1 y2 y3 y4 y5 y6
      unfold impl_orbits.l1
      repeat' first
      | (with_reducible exact ih0 _ _ _ _ _)
      | (with_reducible exact ih1 _ _ _ _ _ _ _)
      | (with_reducible exact ih2 _ _ _ _ _ _ _ _ _ _)
      | (with_reducible exact slices_Sort_int64_int64.mono _ _)
      | (with_reducible exact LeO.refl _)
      | (with_reducible exact LeO.none _)
      | (with_reducible refine LeO.ite ?_ ?_)
      | (with_reducible refine LeO.bind ?_ (fun _ => ?_))
      | exact ih0 _ _ _ _ _
      | exact ih1 _ _ _ _ _ _ _
      | exact ih2 _ _ _ _ _ _ _ _ _ _
      | exact slices_Sort_int64_int64.mono _ _
      | exact LeO.none _
      | refine LeO.ite ?_ ?_
      | refine LeO.bind ?_ (fun _ => ?_)
    · intro y0 y1 y2 y3 y4 y5 y6 y7 y8 y9
      unfold impl_orbits.l2
      repeat' first
      | (with_reducible exact ih0 _ _ _ _ _)
      | (with_reducible exact ih1 _ _ _ _ _ _ _)
      | (with_reducible exact ih2 _ _ _ _ _ _ _ _ _ _)
      | (with_reducible exact slices_Sort_int64_int64.mono _ _)
      | (with_reducible exact LeO.refl _)
      | (with_reducible exact LeO.none _)
      | (with_reducible refine LeO.ite ?_ ?_)
      | (with_reducible refine LeO.bind ?_ (fun _ => ?_))
      | exact ih0 _ _ _ _ _
      | exact ih1 _ _ _ _ _ _ _
      | exact ih2 _ _ _ _ _ _ _ _ _ _
      | exact slices_Sort_int64_int64.mono _ _
      | exact LeO.none _
      | refine LeO.ite ?_ ?_
      | refine LeO.bind ?_ (fun _ => ?_)
theorem impl_orbits.mono : ∀ a0 a1 k, LeO (impl_orbits.f k a0 a1) (impl_orbits.f (k + 1) a0 a1) := by
  intro a0 a1 k
  obtain ⟨ih0, ih1, ih2⟩ := impl_orbits.mono_l k
  unfold impl_orbits.f
  repeat' first
      | (with_reducible exact ih0 _ _ _ _ _)
      | (with_reducible exact ih1 _ _ _ _ _ _ _)
      | (with_reducible exact ih2 _ _ _ _ _ _ _ _ _ _)
      | (with_reducible exact slices_Sort_int64_int64.mono _ _)
      | (with_reducible exact LeO.refl _)
      | (with_reducible exact LeO.none _)
      | (with_reducible refine LeO.ite ?_ ?_)
      | (with_reducible refine LeO.bind ?_ (fun _ => ?_))
      | exact ih0 _ _ _ _ _
      | exact ih1 _ _ _ _ _ _ _
      | exact ih2 _ _ _ _ _ _ _ _ _ _
      | exact slices_Sort_int64_int64.mono _ _
      | exact LeO.none _
      | refine LeO.ite ?_ ?_
      | refine LeO.bind ?_ (fun _ => ?_)
set_option maxHeartbeats 8000000 in
set_option maxRecDepth 100000 in
theorem impl_orbits.calls (k : Nat) (a0 : Int) (A1 : Option Addr) (c1 : Nat) (l1 : List (List Int)) (r : List (List Int)) (w : World) (hr1 : Kd.C (Kd.slice 2 (Kd.int .i64)) w A1 l1.length l1) (hc1 : l1.length ≤ c1) (h : impl_orbits.f k a0 l1 = some r) :
    Calls Try.prog 74 #[.int .i64 a0, .slice A1 l1.length c1] w fun e w' => ∃ v0_ : Value, e = .returned (v0_) ∧ Kd.S (Kd.slice 2 (Kd.int .i64)) 47 w' w.heap.size (fun _ => True) v0_ r ∧ Below w.heap.size w w' := by
  have HR1 := Aside0.mk hr1
  have HC1 := Aside0.mk hc1
  clear hr1 hc1
  have HB := Aside0.mk (Below.refl w.heap.size w)
  have H : (if 0 ≤ a0 then (if (a0 : Int).toNat ≤ 281474976710656 then (impl_orbits.l0 k l1 ([] : List (List Int)) (List.replicate (a0 : Int).toNat false) a0 0) else (none)) else (none)) = some r := h
  clear h
  by_cases c3 : 0 ≤ a0
  · rw [if_pos c3] at H
    have c3b0 := eq_true c3
    have c3b1 : decide (0 ≤ a0) = true := decide_eq_true c3
    clear c3
    by_cases c4 : (a0 : Int).toNat ≤ 281474976710656
    · rw [if_pos c4] at H
      have c4b0 := eq_true c4
      have c4b1 : decide ((a0 : Int).toNat ≤ 281474976710656) = true := decide_eq_true c4
      clear c4
      obtain ⟨y183, hy183⟩ : ∃ y_ : List Bool, y_ = (List.replicate (a0 : Int).toNat false) := ⟨_, rfl⟩
      replace H : (impl_orbits.l0 k l1 ([] : List (List Int)) y183 a0 0) = some r := by first | (rw [hy183]; with_reducible exact H) | (have H2_ := (Option.bind_some _ _).symm.trans H; rw [hy183]; with_reducible exact H2_) | (have H2_ := (Option.bind_some _ _).symm.trans H; with_reducible exact H2_) | with_reducible exact H | (rw [hy183]; exact H) | exact H
      have Ny183 := Aside0.mk hy183
      clear hy183
      have H' := Aside0.mk H
      clear H
      go_enter Try.func74, Try.ntmps74
      go_wp2_with (first | ((with_reducible refine gate_dst (N := 14) rfl ?_); refine Kd.R_make Kd.bool _ 4 rfl (N := 14) rfl 74 _ _ rfl a0 rfl rfl Try.underlying74 (.bool false) 1 info4 rfl (by decide) (by omega) false (ok := fun _ => True) (okp := fun _ => True) rfl (fun _ hk => hk) trivial (of_decide_eq_true (by first | (with_reducible assumption) | assumption)) (Nat.le_trans (Nat.mul_le_mul_right _ (of_decide_eq_true (by first | (with_reducible assumption) | assumption) : a0.toNat ≤ 281474976710656)) (by omega)) (Below.refl _ _) (Nat.le_refl _) ?_; intro v184 w5 ho6 hb hg_ hnew_; clear hg_ hnew_; (first | rw [← Ny183.out] at ho6 | (simp only [Int.reduceToNat] at ho6; rw [← Ny183.out] at ho6)); have n0_ := Aside0.mk (Kd.R_lower ho6 (below_size (by repeat (first | (with_reducible first | exact HB.out | apply below_alloc | apply pw_below_drewN | apply below_drew1) | exact HB.out)))); have n1_ := Aside0.mk (below_step (by repeat (first | (with_reducible first | exact HB.out | apply below_alloc | apply pw_below_drewN | apply below_drew1) | exact HB.out)) hb); clear HB; have HO185 := n0_; have HB := n1_; clear n0_ n1_; clear hb ho6))
      go_loopg [5, 16] k (fun kq v5 v16 w' => ∃ (x5_1 : List (List Int)) (x6_1 : List Bool) (x16_1 : Int), v16 = .int .i64 x16_1 ∧ Aside0 (impl_orbits.l0 kq l1 x5_1 x6_1 a0 x16_1 = some r) ∧ Aside0 (kq ≤ k) ∧ Aside0 (Kd.S (Kd.slice 2 (Kd.int .i64)) 47 w' w.heap.size (fun _ => True) v5 x5_1) ∧ Aside0 (Kd.R Kd.bool 4 w' w.heap.size (fun _ => True) v184 x6_1) ∧ Aside0 (Below w.heap.size w w'))
      case atStart => exact ⟨(([] : List (List Int))), (y183), (0), (by first | rfl | (simp; done) | (simp [*]; done)), H', ⟨Nat.le_refl _⟩, ⟨by first | exact Kd.S_nil _ _ _ _ _ | exact Kd.N_nil _ _ _ _ _ | exact Kd.V_nil _ _ _ _ _ | exact Kd.Q_nil _ _ _ _ _ | exact Kd.R_nil _ _ _ _ _⟩, ⟨by (with_reducible repeat (first | apply Kd.R_alloc | apply Kd.R_drewN | apply Kd.R_drew)); exact HO185.out⟩, ⟨by repeat (first | (with_reducible first | exact HB.out | apply below_alloc | apply pw_below_drewN | apply below_drew1) | exact HB.out)⟩⟩
      case round =>
        clear H'
        try clear c1
        try clear p2
        try clear c3
        try clear c3b0
        try clear c3b1
        try clear c4
        try clear c4b0
        try clear c4b1
        obtain ⟨x5_1, x6_1, x16_1, rfl, HA, HK1, HO_5, HO_6, HB⟩ := hrel
        cases gk with
        | zero => exact absurd HA.out (by simp [impl_orbits.l0])
        | succ k1 =>
          have H := HA.out
          clear HA
          simp only [impl_orbits.l0] at H
          by_cases c7 : x16_1 < a0
          · rw [if_pos c7] at H
            have c7b0 : decide (x16_1 < a0) = true := decide_eq_true c7
            clear c7
            by_cases c8 : 0 ≤ x16_1
            · rw [if_pos c8] at H
              have c8b0 : decide (0 ≤ x16_1) = true := decide_eq_true c8
              clear c8
              by_cases c9 : x16_1 < (x6_1.length : Int)
              · rw [if_pos c9] at H
                have c9b0 : decide (x16_1 < (x6_1.length : Int)) = true := decide_eq_true c9
                clear c9
                obtain ⟨bq10, hbq10⟩ : ∃ b_ : Bool, b_ = (rdOf false x6_1 x16_1) := ⟨_, rfl⟩
                replace H : (if bq10 = true then (impl_orbits.l0 k1 l1 x5_1 x6_1 a0 (wrap64 (x16_1 + 1))) else (impl_orbits.l1 k1 l1 x5_1 (x6_1.set (x16_1 : Int).toNat true) (([x16_1] : List Int)) 0 a0 x16_1)) = some r := by rw [← hbq10] at H; exact H
                have Nbq10 := Aside0.mk hbq10
                clear hbq10
                by_cases c11 : bq10 = true
                · subst c11
                  have H1 : (impl_orbits.l0 k1 l1 x5_1 x6_1 a0 (wrap64 (x16_1 + 1))) = some r := by rw [if_pos rfl] at H; exact H
                  clear H
                  have H := H1
                  clear H1
                  have H' := Aside0.mk H
                  clear H
                  obtain ⟨Ao12, co12, eo12⟩ := Kd.R_slice HO_6.out
                  subst eo12
                  have p186 : 0 ≤ (x16_1 : Int) := of_decide_eq_true (by first | (with_reducible assumption) | assumption)
                  have q186 : x16_1 < (x6_1.length : Int) := of_decide_eq_true (by first | (with_reducible assumption) | assumption)
                  obtain ⟨ad186, e186, hx186_0⟩ := Kd.at_bool (Kd.R_reads' HO_6.out).2.2 x16_1 p186 q186
                  (try rw [← Nbq10.out] at hx186_0)
                  cases e186
                  replace p186 := eq_true p186
                  replace q186 := eq_true q186
                  go_wp2
                  go_roundg k1
                  case measure => have := HK1.out; omega
                  case rel => exact ⟨(x5_1), (x6_1), (wrap64 (x16_1 + 1)), (by first | rfl | (simp; done) | (simp [*]; done)), H', ⟨by have := HK1.out; omega⟩, ⟨by (with_reducible repeat (first | apply Kd.S_alloc | apply Kd.S_drewN | apply Kd.S_drew)); exact HO_5.out⟩, ⟨by (with_reducible repeat (first | apply Kd.R_alloc | apply Kd.R_drewN | apply Kd.R_drew)); exact HO_6.out⟩, ⟨by repeat (first | (with_reducible first | exact HB.out | apply below_alloc | apply pw_below_drewN | apply below_drew1) | exact HB.out)⟩⟩
                · replace c11 := Bool.eq_false_iff.mpr c11
                  subst c11
                  have H1 : (impl_orbits.l1 k1 l1 x5_1 (x6_1.set (x16_1 : Int).toNat true) (([x16_1] : List Int)) 0 a0 x16_1) = some r := by rw [if_neg (show ¬ (false = true) by decide)] at H; exact H
                  clear H
                  have H := H1
                  clear H1
                  obtain ⟨y187, hy187⟩ : ∃ y_ : List Bool, y_ = (x6_1.set (x16_1 : Int).toNat true) := ⟨_, rfl⟩
                  replace H : (impl_orbits.l1 k1 l1 x5_1 y187 (([x16_1] : List Int)) 0 a0 x16_1) = some r := by first | (rw [hy187]; with_reducible exact H) | (have H2_ := (Option.bind_some _ _).symm.trans H; rw [hy187]; with_reducible exact H2_) | (have H2_ := (Option.bind_some _ _).symm.trans H; with_reducible exact H2_) | with_reducible exact H | (rw [hy187]; exact H) | exact H
                  have Ny187 := Aside0.mk hy187
                  clear hy187
                  obtain ⟨y188, hy188⟩ : ∃ y_ : List Int, y_ = (([x16_1] : List Int)) := ⟨_, rfl⟩
                  replace H : (impl_orbits.l1 k1 l1 x5_1 y187 y188 0 a0 x16_1) = some r := by first | (rw [hy188]; with_reducible exact H) | (have H2_ := (Option.bind_some _ _).symm.trans H; rw [hy188]; with_reducible exact H2_) | (have H2_ := (Option.bind_some _ _).symm.trans H; with_reducible exact H2_) | with_reducible exact H | (rw [hy188]; exact H) | exact H
                  have Ny188 := Aside0.mk hy188
                  clear hy188
                  have H' := Aside0.mk H
                  clear H
                  obtain ⟨Ao14, co14, eo14⟩ := Kd.R_slice HO_6.out
                  subst eo14
                  have p186 : 0 ≤ (x16_1 : Int) := of_decide_eq_true (by first | (with_reducible assumption) | assumption)
                  have q186 : x16_1 < (x6_1.length : Int) := of_decide_eq_true (by first | (with_reducible assumption) | assumption)
                  obtain ⟨ad186, e186, hx186_0⟩ := Kd.at_bool (Kd.R_reads' HO_6.out).2.2 x16_1 p186 q186
                  (try rw [← Nbq10.out] at hx186_0)
                  cases e186
                  replace p186 := eq_true p186
                  replace q186 := eq_true q186
                  have p13 : 0 ≤ (x16_1 : Int) := of_decide_eq_true (by first | (with_reducible assumption) | assumption)
                  have q13 : (x16_1 : Int) < ((x6_1.length : Int) : Int) := of_decide_eq_true (by first | (with_reducible assumption) | assumption)
                  obtain ⟨go13, co13, eo13, gb13, gl13, cl13, HG13⟩ := Kd.R_form HO_6.out (by omega)
                  (first | cases eo13 | (injection eo13 with ea_ en_ ec_; (first | subst ea_ | (injection ea_ with ea_; subst ea_)); subst ec_; clear en_))
                  have GB13 := Aside0.mk gb13
                  have GG13 := Aside0.mk HG13
                  clear gb13 gl13 HG13
                  (first | simp only [add_plain] at hx186_0 | skip)
                  obtain ⟨hx13_0, hf13_0⟩ := Kd.R_celln false HO_6.out (x16_1 : Int) p13 q13
                  replace p13 := eq_true p13
                  replace q13 := eq_true q13
                  have HP15 := Kd.R_putg HO_6.out (x16_1 : Int) true
                  go_wp2_with (first | ((with_reducible refine gate_store (t := 4) (p := 25) rfl ?_); refine store_event (t := 4) (p := 25) (v := ?vo_w16) (w1 := (wr.setCell ⟨go13, (x16_1 : Int).toNat, none⟩ (.bool true))) ?hg ?ho ?hn ?hr ?_; (case ho => rfl); (case hg => rfl); (case hn => rfl); (case hr => first | (go_simp; done) | (go_simp; rfl)); intro w16 hw; have hg : wr.grownBy w16 (some go13) := (by rw [hw]; exact HP15.2); have hp_ : Kd.R Kd.bool 4 w16 w.heap.size (fun _ => True) (.slice (some ⟨go13, 0, none⟩) x6_1.length co14) y187 := (by rw [hw, Ny187.out]; exact HP15.1); clear HP15; have n0_ := Aside0.mk (Kd.S_over' (v := (.slice (some ⟨go13, 0, none⟩) x6_1.length co14)) (by (with_reducible repeat (first | apply Kd.S_alloc | apply Kd.S_drewN | apply Kd.S_drew)); exact HO_5.out) (Kd.R_typed HO_6.out) (by decide) hg); have n1_ := Aside0.mk (hp_); have n2_ := Aside0.mk ((by rw [hw]; exact below_set (HB.out) GB13.out : Below w.heap.size w w16)); clear HO_5; clear HO_6; clear HB; have HO_5 := n0_; have HO_6 := n1_; have HB := n2_; clear n0_ n1_ n2_; clear hg hw hp_) | ((with_reducible refine gate_dst (N := 27) rfl ?_); refine Kd.R_lit (Kd.int .i64) _ 2 ?hg (N := 27) ?hd (xs := ([x16_1] : List Int)) (inner := [.int .i64 x16_1]) (ok := fun _ => True) (okp := fun _ => True) ?hr ?hp (fun _ hk => hk) trivial (Below.refl _ _) (Nat.le_refl _) (by simp) ?_; (case hd => rfl); (case hg => rfl); (case hr => first | (go_simp; done) | (go_simp; rfl)); (case hp => exact (Reps.one (show Kd.M (Kd.int .i64) _ _ _ x16_1 [.int .i64 x16_1] from rfl) (Reps.none _ _))); intro v189 w17 ho18 hb hg_ hnew_; clear hg_ hnew_; (first | rw [← Ny188.out] at ho18 | (simp only [Int.reduceToNat] at ho18; rw [← Ny188.out] at ho18)); have n0_ := Aside0.mk (Kd.S_elder' (by (with_reducible repeat (first | apply Kd.S_alloc | apply Kd.S_drewN | apply Kd.S_drew)); exact HO_5.out) (Kd.R_base ho18) hb); have n1_ := Aside0.mk (Kd.R_below (by (with_reducible repeat (first | apply Kd.R_alloc | apply Kd.R_drewN | apply Kd.R_drew)); exact HO_6.out) hb); have n2_ := Aside0.mk (Kd.R_lower ho18 (below_size (by repeat (first | (with_reducible first | exact HB.out | apply below_alloc | apply pw_below_drewN | apply below_drew1) | exact HB.out)))); have n3_ := Aside0.mk (below_step (by repeat (first | (with_reducible first | exact HB.out | apply below_alloc | apply pw_below_drewN | apply below_drew1) | exact HB.out)) hb); clear HO_5; clear HO_6; clear HB; have HO_5 := n0_; have HO_6 := n1_; have HO190 := n2_; have HB := n3_; clear n0_ n1_ n2_ n3_; clear hb ho18))
                  go_loopg [8, 9] k1 (fun kq v8 v9 w' => ∃ (x6_2 : List Bool) (x8_2 : List Int) (x9_2 : Int), v9 = .int .i64 x9_2 ∧ Aside0 (impl_orbits.l1 kq l1 x5_1 x6_2 x8_2 x9_2 a0 x16_1 = some r) ∧ Aside0 (kq ≤ k1) ∧ Aside0 (Kd.S (Kd.slice 2 (Kd.int .i64)) 47 w' w.heap.size (fun k_ => some k_ ≠ (v8 : Value).ownBlock) u5 x5_1) ∧ Aside0 (Kd.R Kd.bool 4 w' w.heap.size (fun _ => True) (.slice (some ⟨go13, 0, none⟩) x6_1.length co14) x6_2) ∧ Aside0 (Kd.R (Kd.int .i64) 2 w' w.heap.size (fun _ => True) v8 x8_2) ∧ Aside0 (Below w.heap.size w w'))
                  case atStart => exact ⟨(y187), (y188), (0), (by first | rfl | (simp; done) | (simp [*]; done)), H', ⟨Nat.le_refl _⟩, ⟨by (with_reducible repeat (first | apply Kd.S_alloc | apply Kd.S_drewN | apply Kd.S_drew)); exact Kd.S_mono HO_5.out (fun _ hk => hk.2)⟩, ⟨by (with_reducible repeat (first | apply Kd.R_alloc | apply Kd.R_drewN | apply Kd.R_drew)); exact HO_6.out⟩, ⟨by (with_reducible repeat (first | apply Kd.R_alloc | apply Kd.R_drewN | apply Kd.R_drew)); exact HO190.out⟩, ⟨by repeat (first | (with_reducible first | exact HB.out | apply below_alloc | apply pw_below_drewN | apply below_drew1) | exact HB.out)⟩⟩
                  case round =>
                    clear H'
                    try clear c1
                    try clear p1
                    try clear q1
                    try clear hx1
                    try clear p2
                    try clear c3
                    try clear c3b0
                    try clear c3b1
                    try clear c4
                    try clear c4b0
                    try clear c4b1
                    try clear p6
                    try clear c7
                    try clear c7b0
                    try clear c8
                    try clear c8b0
                    try clear c9
                    try clear c9b0
                    try clear q10
                    try clear c11
                    try clear p13
                    try clear q13
                    try clear hx13
                    try clear hf13
                    try clear p18
                    try clear q18
                    try clear hx18
                    try clear hx13_0
                    try clear hx186_0
                    try clear p13
                    try clear p186
                    try clear p2
                    try clear q13
                    try clear q186
                    obtain ⟨x6_2, x8_2, x9_2, rfl, HA, HK2, HO_5, HO_6, HO_8, HB⟩ := hrel
                    have hl6_2 := (Kd.R_reads' HO_6.out).1
                    rw [hl6_2] at HO_6
                    (try simp only [hl6_2])
                    (try simp only [hl6_2] at HO_5)
                    (try simp only [hl6_2] at HO_8)
                    cases gk with
                    | zero => exact absurd HA.out (by simp [impl_orbits.l1])
                    | succ k2 =>
                      have H := HA.out
                      clear HA
                      simp only [impl_orbits.l1] at H
                      by_cases c19 : x9_2 < (x8_2.length : Int)
                      · rw [if_pos c19] at H
                        have c19b0 : decide (x9_2 < (x8_2.length : Int)) = true := decide_eq_true c19
                        clear c19
                        have H' := Aside0.mk H
                        clear H
                        obtain ⟨Ao20, co20, eo20⟩ := Kd.R_slice HO_8.out
                        subst eo20
                        go_wp2
                        go_loopg [8, 36] k2 (fun kq v8 v36 w' => ∃ (x6_3 : List Bool) (x8_3 : List Int) (x36_3 : Int), v36 = .int .i64 x36_3 ∧ Aside0 (impl_orbits.l2 kq l1 x5_1 x6_3 x8_3 x9_2 a0 x16_1 l1 (l1.length : Int) x36_3 = some r) ∧ Aside0 (kq ≤ k2) ∧ Aside0 (Kd.S (Kd.slice 2 (Kd.int .i64)) 47 w' w.heap.size (fun k_ => some k_ ≠ (v8 : Value).ownBlock) u5 x5_1) ∧ Aside0 (Kd.R Kd.bool 4 w' w.heap.size (fun _ => True) (.slice (some ⟨go13, 0, none⟩) x6_2.length co14) x6_3) ∧ Aside0 (Kd.R (Kd.int .i64) 2 w' w.heap.size (fun _ => True) v8 x8_3) ∧ Aside0 (Below w.heap.size w w'))
                        case atStart => exact ⟨(x6_2), (x8_2), (0), (by first | rfl | (simp; done) | (simp [*]; done)), H', ⟨Nat.le_refl _⟩, ⟨by (try simp only [hl6_2]); (with_reducible repeat (first | apply Kd.S_alloc | apply Kd.S_drewN | apply Kd.S_drew)); exact HO_5.out⟩, ⟨by (try simp only [hl6_2]); (with_reducible repeat (first | apply Kd.R_alloc | apply Kd.R_drewN | apply Kd.R_drew)); exact HO_6.out⟩, ⟨by (try simp only [hl6_2]); (with_reducible repeat (first | apply Kd.R_alloc | apply Kd.R_drewN | apply Kd.R_drew)); exact HO_8.out⟩, ⟨by repeat (first | (with_reducible first | exact HB.out | apply below_alloc | apply pw_below_drewN | apply below_drew1) | exact HB.out)⟩⟩
                        case round =>
                          clear H'
                          try clear c1
                          try clear p1
                          try clear q1
                          try clear hx1
                          try clear p2
                          try clear c3
                          try clear c3b0
                          try clear c3b1
                          try clear c4
                          try clear c4b0
                          try clear c4b1
                          try clear p6
                          try clear c7
                          try clear c7b0
                          try clear c8
                          try clear c8b0
                          try clear c9
                          try clear c9b0
                          try clear q10
                          try clear c11
                          try clear p13
                          try clear q13
                          try clear hx13
                          try clear hf13
                          try clear p18
                          try clear q18
                          try clear hx18
                          try clear c19
                          try clear c19b0
                          try clear hx13_0
                          try clear hx186_0
                          try clear p1
                          try clear p13
                          try clear p18
                          try clear p186
                          try clear p2
                          try clear p6
                          try clear q1
                          try clear q10
                          try clear q13
                          try clear q18
                          try clear q186
                          obtain ⟨x6_3, x8_3, x36_3, rfl, HA, HK3, HO_5, HO_6, HO_8, HB⟩ := hrel
                          have hl6_3 := (Kd.R_reads' HO_6.out).1
                          rw [hl6_3] at HO_6
                          (try simp only [hl6_3])
                          (try simp only [hl6_3] at HO_5)
                          (try simp only [hl6_3] at HO_8)
                          cases gk with
                          | zero => exact absurd HA.out (by simp [impl_orbits.l2])
                          | succ k3 =>
                            have H := HA.out
                            clear HA
                            simp only [impl_orbits.l2] at H
                            by_cases c21 : x36_3 < (l1.length : Int)
                            · rw [if_pos c21] at H
                              have c21b0 : decide (x36_3 < (l1.length : Int)) = true := decide_eq_true c21
                              clear c21
                              by_cases c22 : 0 ≤ x36_3
                              · rw [if_pos c22] at H
                                have c22b0 : decide (0 ≤ x36_3) = true := decide_eq_true c22
                                clear c22
                                by_cases c23 : x36_3 < (l1.length : Int)
                                · rw [if_pos c23] at H
                                  have c23b0 : decide (x36_3 < (l1.length : Int)) = true := decide_eq_true c23
                                  clear c23
                                  by_cases c24 : 0 ≤ x9_2
                                  · rw [if_pos c24] at H
                                    have c24b0 : decide (0 ≤ x9_2) = true := decide_eq_true c24
                                    clear c24
                                    by_cases c25 : x9_2 < (x8_3.length : Int)
                                    · rw [if_pos c25] at H
                                      have c25b0 : decide (x9_2 < (x8_3.length : Int)) = true := decide_eq_true c25
                                      clear c25
                                      by_cases c26 : 0 ≤ (rd x8_3 x9_2)
                                      · rw [if_pos c26] at H
                                        have c26b0 : decide (0 ≤ (rd x8_3 x9_2)) = true := decide_eq_true c26
                                        clear c26
                                        by_cases c27 : (rd x8_3 x9_2) < ((rd_L1 l1 x36_3).length : Int)
                                        · rw [if_pos c27] at H
                                          have c27b0 : decide ((rd x8_3 x9_2) < ((rd_L1 l1 x36_3).length : Int)) = true := decide_eq_true c27
                                          clear c27
                                          by_cases c28 : 0 ≤ (rd (rd_L1 l1 x36_3) (rd x8_3 x9_2))
                                          · rw [if_pos c28] at H
                                            have c28b0 : decide (0 ≤ (rd (rd_L1 l1 x36_3) (rd x8_3 x9_2))) = true := decide_eq_true c28
                                            clear c28
                                            by_cases c29 : (rd (rd_L1 l1 x36_3) (rd x8_3 x9_2)) < (x6_3.length : Int)
                                            · rw [if_pos c29] at H
                                              have c29b0 : decide ((rd (rd_L1 l1 x36_3) (rd x8_3 x9_2)) < (x6_3.length : Int)) = true := decide_eq_true c29
                                              clear c29
                                              obtain ⟨bq30, hbq30⟩ : ∃ b_ : Bool, b_ = (rdOf false x6_3 (rd (rd_L1 l1 x36_3) (rd x8_3 x9_2))) := ⟨_, rfl⟩
                                              replace H : (if (bq30 = true) then (impl_orbits.l2 k3 l1 x5_1 x6_3 x8_3 x9_2 a0 x16_1 l1 (l1.length : Int) (wrap64 (x36_3 + 1))) else (if x8_3.length < 17592186044416 then (impl_orbits.l2 k3 l1 x5_1 (x6_3.set ((rd (rd_L1 l1 x36_3) (rd x8_3 x9_2)) : Int).toNat true) (x8_3 ++ [rd (rd_L1 l1 x36_3) (rd x8_3 x9_2)]) x9_2 a0 x16_1 l1 (l1.length : Int) (wrap64 (x36_3 + 1))) else (none))) = some r := by rw [← hbq30] at H; exact H
                                              have Nbq30 := Aside0.mk hbq30
                                              clear hbq30
                                              by_cases c31 : (bq30 = true)
                                              · subst c31
                                                have H1 : (impl_orbits.l2 k3 l1 x5_1 x6_3 x8_3 x9_2 a0 x16_1 l1 (l1.length : Int) (wrap64 (x36_3 + 1))) = some r := by rw [if_pos rfl] at H; exact H
                                                clear H
                                                have H := H1
                                                clear H1
                                                have H' := Aside0.mk H
                                                clear H
                                                have p195 : 0 ≤ (x36_3 : Int) := of_decide_eq_true (by first | (with_reducible assumption) | assumption)
                                                have q195 : x36_3 < (l1.length : Int) := of_decide_eq_true (by first | (with_reducible assumption) | assumption)
                                                obtain ⟨ad195, A195_0, c195_0, e195, hx195_0, hl195_0, hi195_0⟩ := at_L1 HR1.out x36_3 p195 q195
                                                cases e195
                                                replace hx195_0 := (HB.out.cell (World.block_lt_of_cell? w _ hx195_0)).trans hx195_0
                                                have HR195_0 := Aside0.mk hi195_0
                                                have HC195_0 := Aside0.mk hl195_0
                                                clear hi195_0 hl195_0
                                                replace p195 := eq_true p195
                                                replace q195 := eq_true q195
                                                obtain ⟨Ao32, co32, eo32⟩ := Kd.R_slice HO_8.out
                                                subst eo32
                                                have p196 : 0 ≤ (x9_2 : Int) := of_decide_eq_true (by first | (with_reducible assumption) | assumption)
                                                have q196 : x9_2 < (x8_3.length : Int) := of_decide_eq_true (by first | (with_reducible assumption) | assumption)
                                                obtain ⟨ad196, e196, hx196_0⟩ := Kd.at_int (Kd.R_reads' HO_8.out).2.2 x9_2 p196 q196
                                                cases e196
                                                replace p196 := eq_true p196
                                                replace q196 := eq_true q196
                                                have p197 : 0 ≤ ((rd x8_3 x9_2) : Int) := of_decide_eq_true (by first | (with_reducible assumption) | assumption)
                                                have q197 : (rd x8_3 x9_2) < ((rd_L1 l1 x36_3).length : Int) := of_decide_eq_true (by first | (with_reducible assumption) | assumption)
                                                obtain ⟨ad197, e197, hx197_0⟩ := Kd.at_int HR195_0.out (rd x8_3 x9_2) p197 q197
                                                cases e197
                                                replace hx197_0 := (HB.out.cell (World.block_lt_of_cell? w _ hx197_0)).trans hx197_0
                                                replace p197 := eq_true p197
                                                replace q197 := eq_true q197
                                                have p198 : 0 ≤ ((rd (rd_L1 l1 x36_3) (rd x8_3 x9_2)) : Int) := of_decide_eq_true (by first | (with_reducible assumption) | assumption)
                                                have q198 : (rd (rd_L1 l1 x36_3) (rd x8_3 x9_2)) < (x6_3.length : Int) := of_decide_eq_true (by first | (with_reducible assumption) | assumption)
                                                obtain ⟨ad198, e198, hx198_0⟩ := Kd.at_bool (Kd.R_reads' HO_6.out).2.2 (rd (rd_L1 l1 x36_3) (rd x8_3 x9_2)) p198 q198
                                                (try rw [← Nbq10.out] at hx198_0)
                                                (try rw [← Nbq30.out] at hx198_0)
                                                obtain rfl : (⟨go13, 0, none⟩ : Addr) = ad198 := (by injection e198)
                                                (first | simp only [add_plain] at hx198_0 | simp only [add_at] at hx198_0 | simp only [Addr.add, Nat.zero_add] at hx198_0 | skip)
                                                replace p198 := eq_true p198
                                                replace q198 := eq_true q198
                                                go_wp2
                                                (try simp only [← hl6_3])
                                                go_roundg k3
                                                case measure => have := HK1.out; have := HK2.out; have := HK3.out; omega
                                                case rel => exact ⟨(x6_3), (x8_3), (wrap64 (x36_3 + 1)), (by first | rfl | (simp; done) | (simp [*]; done)), H', ⟨by have := HK1.out; have := HK2.out; have := HK3.out; omega⟩, ⟨by (try simp only [hl6_2]); (try simp only [hl6_3]); (with_reducible repeat (first | apply Kd.S_alloc | apply Kd.S_drewN | apply Kd.S_drew)); exact HO_5.out⟩, ⟨by (try simp only [hl6_2]); (try simp only [hl6_3]); (with_reducible repeat (first | apply Kd.R_alloc | apply Kd.R_drewN | apply Kd.R_drew)); exact HO_6.out⟩, ⟨by (try simp only [hl6_2]); (try simp only [hl6_3]); (with_reducible repeat (first | apply Kd.R_alloc | apply Kd.R_drewN | apply Kd.R_drew)); exact HO_8.out⟩, ⟨by repeat (first | (with_reducible first | exact HB.out | apply below_alloc | apply pw_below_drewN | apply below_drew1) | exact HB.out)⟩⟩
                                              · replace c31 := Bool.eq_false_iff.mpr c31
                                                subst c31
                                                have H1 : (if x8_3.length < 17592186044416 then (impl_orbits.l2 k3 l1 x5_1 (x6_3.set ((rd (rd_L1 l1 x36_3) (rd x8_3 x9_2)) : Int).toNat true) (x8_3 ++ [rd (rd_L1 l1 x36_3) (rd x8_3 x9_2)]) x9_2 a0 x16_1 l1 (l1.length : Int) (wrap64 (x36_3 + 1))) else (none)) = some r := by rw [if_neg (show ¬ (false = true) by decide)] at H; exact H
                                                clear H
                                                have H := H1
                                                clear H1
                                                obtain ⟨y199, hy199⟩ : ∃ y_ : List Bool, y_ = (x6_3.set ((rd (rd_L1 l1 x36_3) (rd x8_3 x9_2)) : Int).toNat true) := ⟨_, rfl⟩
                                                replace H : (if x8_3.length < 17592186044416 then (impl_orbits.l2 k3 l1 x5_1 y199 (x8_3 ++ [rd (rd_L1 l1 x36_3) (rd x8_3 x9_2)]) x9_2 a0 x16_1 l1 (l1.length : Int) (wrap64 (x36_3 + 1))) else (none)) = some r := by first | (rw [hy199]; with_reducible exact H) | (have H2_ := (Option.bind_some _ _).symm.trans H; rw [hy199]; with_reducible exact H2_) | (have H2_ := (Option.bind_some _ _).symm.trans H; with_reducible exact H2_) | with_reducible exact H | (rw [hy199]; exact H) | exact H
                                                have Ny199 := Aside0.mk hy199
                                                clear hy199
                                                by_cases c34 : x8_3.length < 17592186044416
                                                · rw [if_pos c34] at H
                                                  have LMc34 := Aside0.mk c34
                                                  clear c34
                                                  obtain ⟨y200, hy200⟩ : ∃ y_ : List Int, y_ = (x8_3 ++ [rd (rd_L1 l1 x36_3) (rd x8_3 x9_2)]) := ⟨_, rfl⟩
                                                  replace H : (impl_orbits.l2 k3 l1 x5_1 y199 y200 x9_2 a0 x16_1 l1 (l1.length : Int) (wrap64 (x36_3 + 1))) = some r := by first | (rw [hy200]; with_reducible exact H) | (have H2_ := (Option.bind_some _ _).symm.trans H; rw [hy200]; with_reducible exact H2_) | (have H2_ := (Option.bind_some _ _).symm.trans H; with_reducible exact H2_) | with_reducible exact H | (rw [hy200]; exact H) | exact H
                                                  have Ny200 := Aside0.mk hy200
                                                  clear hy200
                                                  have H' := Aside0.mk H
                                                  clear H
                                                  have p195 : 0 ≤ (x36_3 : Int) := of_decide_eq_true (by first | (with_reducible assumption) | assumption)
                                                  have q195 : x36_3 < (l1.length : Int) := of_decide_eq_true (by first | (with_reducible assumption) | assumption)
                                                  obtain ⟨ad195, A195_0, c195_0, e195, hx195_0, hl195_0, hi195_0⟩ := at_L1 HR1.out x36_3 p195 q195
                                                  cases e195
                                                  replace hx195_0 := (HB.out.cell (World.block_lt_of_cell? w _ hx195_0)).trans hx195_0
                                                  have HR195_0 := Aside0.mk hi195_0
                                                  have HC195_0 := Aside0.mk hl195_0
                                                  clear hi195_0 hl195_0
                                                  replace p195 := eq_true p195
                                                  replace q195 := eq_true q195
                                                  obtain ⟨Ao35, co35, eo35⟩ := Kd.R_slice HO_8.out
                                                  subst eo35
                                                  have p196 : 0 ≤ (x9_2 : Int) := of_decide_eq_true (by first | (with_reducible assumption) | assumption)
                                                  have q196 : x9_2 < (x8_3.length : Int) := of_decide_eq_true (by first | (with_reducible assumption) | assumption)
                                                  obtain ⟨ad196, e196, hx196_0⟩ := Kd.at_int (Kd.R_reads' HO_8.out).2.2 x9_2 p196 q196
                                                  cases e196
                                                  replace p196 := eq_true p196
                                                  replace q196 := eq_true q196
                                                  have p197 : 0 ≤ ((rd x8_3 x9_2) : Int) := of_decide_eq_true (by first | (with_reducible assumption) | assumption)
                                                  have q197 : (rd x8_3 x9_2) < ((rd_L1 l1 x36_3).length : Int) := of_decide_eq_true (by first | (with_reducible assumption) | assumption)
                                                  obtain ⟨ad197, e197, hx197_0⟩ := Kd.at_int HR195_0.out (rd x8_3 x9_2) p197 q197
                                                  cases e197
                                                  replace hx197_0 := (HB.out.cell (World.block_lt_of_cell? w _ hx197_0)).trans hx197_0
                                                  replace p197 := eq_true p197
                                                  replace q197 := eq_true q197
                                                  have p198 : 0 ≤ ((rd (rd_L1 l1 x36_3) (rd x8_3 x9_2)) : Int) := of_decide_eq_true (by first | (with_reducible assumption) | assumption)
                                                  have q198 : (rd (rd_L1 l1 x36_3) (rd x8_3 x9_2)) < (x6_3.length : Int) := of_decide_eq_true (by first | (with_reducible assumption) | assumption)
                                                  obtain ⟨ad198, e198, hx198_0⟩ := Kd.at_bool (Kd.R_reads' HO_6.out).2.2 (rd (rd_L1 l1 x36_3) (rd x8_3 x9_2)) p198 q198
                                                  (try rw [← Nbq10.out] at hx198_0)
                                                  (try rw [← Nbq30.out] at hx198_0)
                                                  obtain rfl : (⟨go13, 0, none⟩ : Addr) = ad198 := (by injection e198)
                                                  (first | simp only [add_plain] at hx198_0 | simp only [add_at] at hx198_0 | simp only [Addr.add, Nat.zero_add] at hx198_0 | skip)
                                                  replace p198 := eq_true p198
                                                  replace q198 := eq_true q198
                                                  have p33 : 0 ≤ ((rd (rd_L1 l1 x36_3) (rd x8_3 x9_2)) : Int) := of_decide_eq_true (by first | (with_reducible assumption) | assumption)
                                                  have q33 : ((rd (rd_L1 l1 x36_3) (rd x8_3 x9_2)) : Int) < ((x6_3.length : Int) : Int) := of_decide_eq_true (by first | (with_reducible assumption) | assumption)
                                                  obtain ⟨hx33_0, hf33_0⟩ := Kd.R_celln false HO_6.out ((rd (rd_L1 l1 x36_3) (rd x8_3 x9_2)) : Int) p33 q33
                                                  replace p33 := eq_true p33
                                                  replace q33 := eq_true q33
                                                  have HP36 := Kd.R_putg HO_6.out ((rd (rd_L1 l1 x36_3) (rd x8_3 x9_2)) : Int) true
                                                  go_wp2_with (first | ((with_reducible refine gate_store (t := 4) (p := 54) rfl ?_); refine store_event (t := 4) (p := 54) (v := ?vo_w37) (w1 := (wr.setCell ⟨go13, ((rd (rd_L1 l1 x36_3) (rd x8_3 x9_2)) : Int).toNat, none⟩ (.bool true))) ?hg ?ho ?hn ?hr ?_; (case ho => rfl); (case hg => rfl); (case hn => rfl); (case hr => first | (go_simp; done) | (go_simp; rfl)); intro w37 hw; have hg : wr.grownBy w37 (some go13) := (by rw [hw]; exact HP36.2); have hp_ : Kd.R Kd.bool 4 w37 w.heap.size (fun _ => True) (.slice (some ⟨go13, 0, none⟩) x6_3.length co14) y199 := (by rw [hw, Ny199.out]; exact HP36.1); clear HP36; have n0_ := Aside0.mk (Kd.S_over' (v := (.slice (some ⟨go13, 0, none⟩) x6_3.length co14)) (by (with_reducible repeat (first | apply Kd.S_alloc | apply Kd.S_drewN | apply Kd.S_drew)); exact HO_5.out) (Kd.R_typed HO_6.out) (by decide) hg); have n1_ := Aside0.mk (hp_); have n2_ := Aside0.mk (Kd.R_over' (v := (.slice (some ⟨go13, 0, none⟩) x6_3.length co14)) (by (with_reducible repeat (first | apply Kd.R_alloc | apply Kd.R_drewN | apply Kd.R_drew)); exact HO_8.out) (Kd.R_typed HO_6.out) (by decide) hg); have n3_ := Aside0.mk ((by rw [hw]; exact below_set (HB.out) GB13.out : Below w.heap.size w w37)); clear HO_5; clear HO_6; clear HO_8; clear HB; have HO_5 := n0_; have HO_6 := n1_; have HO_8 := n2_; have HB := n3_; clear n0_ n1_ n2_ n3_; clear hg hw hp_) | ((with_reducible refine gate_builtin (b := .append) (xs := #[.tmp 55, .tmp 57]) rfl ?_); at_builtin; refine Kd.R_append (Kd.int .i64) (w0 := w) w.heap.size rfl (.tmp 55) (.tmp 57) 47 2 (.int .i64 0) 8 rfl Try.underlying47 info2 rfl (by decide) (by omega) (.slice (some ad196) x8_3.length co35) x8_3 (rd (rd_L1 l1 x36_3) (rd x8_3 x9_2)) [.int .i64 (rd (rd_L1 l1 x36_3) (rd x8_3 x9_2))] (fun _ => True) (fun _ => False) rfl rfl ?aP (fun _ hk => hk.elim) ?aF ?aO ?aB ?aS ?aL ?_; (case aP => exact rfl); (case aB => exact (by repeat (first | (with_reducible first | exact HB.out | apply below_alloc | apply pw_below_drewN | apply below_drew1) | exact HB.out))); (case aF => exact (fun _ _ => trivial)); (case aO => exact (by (with_reducible repeat (first | apply Kd.R_alloc | apply Kd.R_drewN | apply Kd.R_drew)); exact HO_8.out)); (case aS => exact (below_size (by repeat (first | (with_reducible first | exact HB.out | apply below_alloc | apply pw_below_drewN | apply below_drew1) | exact HB.out)))); (case aL => have := LMc34.out; omega); intro v201 w38 ho hb hg hat; rw [← Ny200.out] at ho; have n0_ := Aside0.mk (Kd.S_after (ok := (fun _ => True)) (by (with_reducible repeat (first | apply Kd.S_alloc | apply Kd.S_drewN | apply Kd.S_drew)); exact Kd.S_mono HO_5.out (fun _ hk => ⟨trivial, hk⟩)) hg hat); have n1_ := Aside0.mk (Kd.R_over' (by (with_reducible repeat (first | apply Kd.R_alloc | apply Kd.R_drewN | apply Kd.R_drew)); exact HO_6.out) (Kd.R_typed (by (with_reducible repeat (first | apply Kd.R_alloc | apply Kd.R_drewN | apply Kd.R_drew)); exact HO_8.out)) (by decide) hg); have n2_ := Aside0.mk (hb); have n3_ := Aside0.mk (ho); clear HO_5; clear HO_6; clear HB; clear HO_8; have HO_5 := n0_; have HO_6 := n1_; have HB := n2_; have HO202 := n3_; clear n0_ n1_ n2_ n3_; clear ho hb hg hat))
                                                  (try simp only [← hl6_3])
                                                  go_roundg k3
                                                  case measure => have := HK1.out; have := HK2.out; have := HK3.out; omega
                                                  case rel => exact ⟨(y199), (y200), (wrap64 (x36_3 + 1)), (by first | rfl | (simp; done) | (simp [*]; done)), H', ⟨by have := HK1.out; have := HK2.out; have := HK3.out; omega⟩, ⟨by (try simp only [hl6_2]); (try simp only [hl6_3]); (with_reducible repeat (first | apply Kd.S_alloc | apply Kd.S_drewN | apply Kd.S_drew)); exact Kd.S_mono HO_5.out (fun _ hk => hk.2)⟩, ⟨by (try simp only [hl6_2]); (try simp only [hl6_3]); (with_reducible repeat (first | apply Kd.R_alloc | apply Kd.R_drewN | apply Kd.R_drew)); exact HO_6.out⟩, ⟨by (try simp only [hl6_2]); (try simp only [hl6_3]); (with_reducible repeat (first | apply Kd.R_alloc | apply Kd.R_drewN | apply Kd.R_drew)); exact HO202.out⟩, ⟨by repeat (first | (with_reducible first | exact HB.out | apply below_alloc | apply pw_below_drewN | apply below_drew1) | exact HB.out)⟩⟩
                                                · rw [if_neg c34] at H
                                                  exact absurd H (by simp)
                                            · rw [if_neg c29] at H
                                              exact absurd H (by simp)
                                          · rw [if_neg c28] at H
                                            exact absurd H (by simp)
                                        · rw [if_neg c27] at H
                                          exact absurd H (by simp)
                                      · rw [if_neg c26] at H
                                        exact absurd H (by simp)
                                    · rw [if_neg c25] at H
                                      exact absurd H (by simp)
                                  · rw [if_neg c24] at H
                                    exact absurd H (by simp)
                                · rw [if_neg c23] at H
                                  exact absurd H (by simp)
                              · rw [if_neg c22] at H
                                exact absurd H (by simp)
                            · rw [if_neg c21] at H
                              have c21b0 : decide (x36_3 < (l1.length : Int)) = false := decide_eq_false c21
                              clear c21
                              have H' := Aside0.mk H
                              clear H
                              go_wp2
                              (try simp only [← hl6_2, ← hl6_3])
                              go_roundg k3
                              case measure => have := HK1.out; have := HK2.out; have := HK3.out; omega
                              case rel => exact ⟨(x6_3), (x8_3), (wrap64 (x9_2 + 1)), (by first | rfl | (simp; done) | (simp [*]; done)), H', ⟨by have := HK1.out; have := HK2.out; have := HK3.out; omega⟩, ⟨by (try simp only [hl6_2]); (try simp only [hl6_3]); (with_reducible repeat (first | apply Kd.S_alloc | apply Kd.S_drewN | apply Kd.S_drew)); exact HO_5.out⟩, ⟨by (try simp only [hl6_2]); (try simp only [hl6_3]); (with_reducible repeat (first | apply Kd.R_alloc | apply Kd.R_drewN | apply Kd.R_drew)); exact HO_6.out⟩, ⟨by (try simp only [hl6_2]); (try simp only [hl6_3]); (with_reducible repeat (first | apply Kd.R_alloc | apply Kd.R_drewN | apply Kd.R_drew)); exact HO_8.out⟩, ⟨by repeat (first | (with_reducible first | exact HB.out | apply below_alloc | apply pw_below_drewN | apply below_drew1) | exact HB.out)⟩⟩
                      · rw [if_neg c19] at H
                        have c19b0 : decide (x9_2 < (x8_2.length : Int)) = false := decide_eq_false c19
                        clear c19
                        replace H := Option.bind_eq_some_iff.mp H
                        obtain ⟨t191, A390, H⟩ := H
                        replace H : (if x5_1.length < 5864062014805 then (impl_orbits.l0 k2 l1 (x5_1 ++ [t191]) x6_2 a0 (wrap64 (x16_1 + 1))) else (none)) = some r := H
                        have A39 := Aside0.mk A390
                        clear A390
                        by_cases c40 : x5_1.length < 5864062014805
                        · rw [if_pos c40] at H
                          have LMc40 := Aside0.mk c40
                          clear c40
                          obtain ⟨y192, hy192⟩ : ∃ y_ : List (List Int), y_ = (x5_1 ++ [t191]) := ⟨_, rfl⟩
                          replace H : (impl_orbits.l0 k2 l1 y192 x6_2 a0 (wrap64 (x16_1 + 1))) = some r := by first | (rw [hy192]; with_reducible exact H) | (have H2_ := (Option.bind_some _ _).symm.trans H; rw [hy192]; with_reducible exact H2_) | (have H2_ := (Option.bind_some _ _).symm.trans H; with_reducible exact H2_) | with_reducible exact H | (rw [hy192]; exact H) | exact H
                          have Ny192 := Aside0.mk hy192
                          clear hy192
                          have H' := Aside0.mk H
                          clear H
                          obtain ⟨Ao41, co41, eo41⟩ := Kd.R_slice HO_8.out
                          subst eo41
                          go_wp2_with (first | ((with_reducible refine gate_callee (f := 103) rfl ?_); refine goesL_ (some 61) rfl rfl Try.func103 (by kernel_rfl) rfl #[.slice Ao41 x8_2.length co41] rfl (by (try simp only [List.map_toArray, List.map_cons, List.map_nil]); first | done | rfl | (simp only [List.length_drop, List.length_take]; rfl)) ?_; (with_reducible refine (slices_Sort_int64_int64.calls k2 (fun k_ => some k_ = (.slice Ao41 x8_2.length co41 : Value).ownBlock) (.slice Ao41 x8_2.length co41) x8_2 t191 w _ ?side1 ?side2 A39.out).mono ?_); (case side1 => repeat (first | (with_reducible first | exact HB.out | apply below_alloc | apply pw_below_drewN | apply below_drew1) | exact HB.out)); (case side2 => exact Kd.R_tight rfl HO_8.out); rintro e w42 ⟨rfl, hy0, hb, hkp⟩; refine ⟨_, rfl, ?_⟩; have n0_ := Aside0.mk (Kd.S_mono (ok' := fun k_ => some k_ ≠ (.slice Ao41 x8_2.length co41 : Value).ownBlock) (Kd.S_keptB (HO_5.out) hkp (fun k_ hk_ hs_ => (hk_) hs_)) (fun k_ hk_ => hk_.1)); have n1_ := Aside0.mk (Kd.R_mono (ok' := fun k_ => True) (Kd.R_keptB ((Kd.R_apart' HO_6.out (Kd.R_typed HO_8.out) (by decide))) hkp (fun k_ hk_ hs_ => (hk_.2) hs_)) (fun k_ hk_ => trivial)); have n2_ := Aside0.mk (Kd.R_reok rfl hy0 (fun k_ e_ => HO_8.out.1 k_ e_)); have n3_ := Aside0.mk (hb); clear HO_5; clear HO_6; clear HO_8; clear HB; have HO_5 := n0_; have HO_6 := n1_; have HO_8 := n2_; have HB := n3_; clear n0_ n1_ n2_ n3_; (try clear hb); (try clear hkp); (try clear hy0)) | ((with_reducible refine gate_builtin (b := .append) (xs := #[.tmp 62, .tmp 64]) rfl ?_); at_builtin; refine Kd.S_append (Kd.slice 2 (Kd.int .i64)) (w0 := w) w.heap.size rfl (.tmp 62) (.tmp 64) 22 47 (.slice none 0 0) 24 rfl Try.underlying22 info47 rfl (by decide) (by omega) u5 x5_1 t191 [.slice Ao41 x8_2.length co41] (fun _ => True) (fun k_ => some k_ = (.slice Ao41 x8_2.length co41 : Value).ownBlock) rfl rfl ?aP (fun k_ hk_ => ((Kd.R_mono (ok' := fun k_ => ((fun _ => True)) k_ ∧ some k_ ≠ (u5 : Value).ownBlock) (Kd.R_apart' (HO_8.out) (Kd.S_typed HO_5.out) (by decide)) (fun k_ hk => ⟨trivial, hk.2⟩))).1 k_ hk_.symm) ?aF ?aO ?aB ?aS ?aL ?_; (case aP => exact Kd.M_row (Kd.R_mono (Kd.R_tight rfl (Kd.R_mono (ok' := fun k_ => ((fun _ => True)) k_ ∧ some k_ ≠ (u5 : Value).ownBlock) (Kd.R_apart' (HO_8.out) (Kd.S_typed HO_5.out) (by decide)) (fun k_ hk => ⟨trivial, hk.2⟩))) (fun _ h_ => h_))); (case aB => exact (by repeat (first | (with_reducible first | exact HB.out | apply below_alloc | apply pw_below_drewN | apply below_drew1) | exact HB.out))); (case aF => exact (fun _ _ => trivial)); (case aO => exact (by (with_reducible repeat (first | apply Kd.S_alloc | apply Kd.S_drewN | apply Kd.S_drew)); exact Kd.S_mono HO_5.out (fun k_ hk => ⟨trivial, fun e_ => hk e_⟩))); (case aS => exact (below_size (by repeat (first | (with_reducible first | exact HB.out | apply below_alloc | apply pw_below_drewN | apply below_drew1) | exact HB.out)))); (case aL => have := LMc40.out; omega); intro v193 w43 ho hb hg hat; rw [← Ny192.out] at ho; have n0_ := Aside0.mk (Kd.R_over' (by (with_reducible repeat (first | apply Kd.R_alloc | apply Kd.R_drewN | apply Kd.R_drew)); exact HO_6.out) (Kd.S_typed (by (with_reducible repeat (first | apply Kd.S_alloc | apply Kd.S_drewN | apply Kd.S_drew)); exact HO_5.out)) (by decide) hg); have n1_ := Aside0.mk (hb); have n2_ := Aside0.mk (ho); clear HO_6; clear HB; clear HO_5; clear HO_8; have HO_6 := n0_; have HB := n1_; have HO194 := n2_; clear n0_ n1_ n2_; clear ho hb hg hat))
                          (try simp only [← hl6_2])
                          go_roundg k2
                          case measure => have := HK1.out; have := HK2.out; omega
                          case rel => exact ⟨(y192), (x6_2), (wrap64 (x16_1 + 1)), (by first | rfl | (simp; done) | (simp [*]; done)), H', ⟨by have := HK1.out; have := HK2.out; omega⟩, ⟨by (try simp only [hl6_2]); (with_reducible repeat (first | apply Kd.S_alloc | apply Kd.S_drewN | apply Kd.S_drew)); exact HO194.out⟩, ⟨by (try simp only [hl6_2]); (with_reducible repeat (first | apply Kd.R_alloc | apply Kd.R_drewN | apply Kd.R_drew)); exact HO_6.out⟩, ⟨by repeat (first | (with_reducible first | exact HB.out | apply below_alloc | apply pw_below_drewN | apply below_drew1) | exact HB.out)⟩⟩
                        · rw [if_neg c40] at H
                          exact absurd H (by simp)
              · rw [if_neg c9] at H
                exact absurd H (by simp)
            · rw [if_neg c8] at H
              exact absurd H (by simp)
          · rw [if_neg c7] at H
            have c7b0 : decide (x16_1 < a0) = false := decide_eq_false c7
            clear c7
            obtain rfl := Option.some.inj H
            go_wp2
            go_ret
            exact ⟨_, by first | rfl | (simp [errW_none, errW_some] <;> rfl) | (simp [*, errW_none, errW_some] <;> rfl), by (with_reducible repeat (first | apply Kd.S_alloc | apply Kd.S_drewN | apply Kd.S_drew)); exact HO_5.out, by repeat (first | (with_reducible first | exact HB.out | apply below_alloc | apply pw_below_drewN | apply below_drew1) | exact HB.out)⟩
    · rw [if_neg c4] at H
      exact absurd H (by simp)
  · rw [if_neg c3] at H
    exact absurd H (by simp)

/-! ### impl_OrbitsOf: function 33 -/
def impl_OrbitsOf.f (k : Nat) (a0 : Int) (l1 : List (List Int)) : Option ((List (List Int))) := (impl_arePermutations.f k a0 l1).bind fun t203 => (if t203 = true then ((impl_orbits.f k a0 l1).bind fun t204 => (some t204)) else (some ([] : List (List Int))))
theorem impl_OrbitsOf.mono : ∀ a0 a1 k, LeO (impl_OrbitsOf.f k a0 a1) (impl_OrbitsOf.f (k + 1) a0 a1) := by
  intro a0 a1 k
  unfold impl_OrbitsOf.f
  repeat' first
      | (with_reducible exact impl_arePermutations.mono _ _ _)
      | (with_reducible exact impl_orbits.mono _ _ _)
      | (with_reducible exact LeO.refl _)
      | (with_reducible exact LeO.none _)
      | (with_reducible refine LeO.ite ?_ ?_)
      | (with_reducible refine LeO.bind ?_ (fun _ => ?_))
      | exact impl_arePermutations.mono _ _ _
      | exact impl_orbits.mono _ _ _
      | exact LeO.none _
      | refine LeO.ite ?_ ?_
      | refine LeO.bind ?_ (fun _ => ?_)
set_option maxHeartbeats 8000000 in
set_option maxRecDepth 100000 in
theorem impl_OrbitsOf.calls (k : Nat) (a0 : Int) (A1 : Option Addr) (c1 : Nat) (l1 : List (List Int)) (r : List (List Int)) (w : World) (hr1 : Kd.C (Kd.slice 2 (Kd.int .i64)) w A1 l1.length l1) (hc1 : l1.length ≤ c1) (h : impl_OrbitsOf.f k a0 l1 = some r) :
    Calls Try.prog 33 #[.int .i64 a0, .slice A1 l1.length c1] w fun e w' => ∃ v0_ : Value, e = .returned (v0_) ∧ Kd.S (Kd.slice 2 (Kd.int .i64)) 47 w' w.heap.size (fun _ => True) v0_ r ∧ Below w.heap.size w w' := by
  have HR1 := Aside0.mk hr1
  have HC1 := Aside0.mk hc1
  clear hr1 hc1
  have HB := Aside0.mk (Below.refl w.heap.size w)
  have H : ((impl_arePermutations.f k a0 l1).bind fun t203 => (if t203 = true then ((impl_orbits.f k a0 l1).bind fun t204 => (some t204)) else (some ([] : List (List Int))))) = some r := h
  clear h
  replace H := Option.bind_eq_some_iff.mp H
  obtain ⟨t203, A30, H⟩ := H
  replace H : (if t203 = true then ((impl_orbits.f k a0 l1).bind fun t204 => (some t204)) else (some ([] : List (List Int)))) = some r := H
  have A3 := Aside0.mk A30
  clear A30
  by_cases c4 : t203 = true
  · subst c4
    have H1 : ((impl_orbits.f k a0 l1).bind fun t204 => (some t204)) = some r := by rw [if_pos rfl] at H; exact H
    clear H
    have H := H1
    clear H1
    replace H := Option.bind_eq_some_iff.mp H
    obtain ⟨t204, A50, H⟩ := H
    replace H : (some t204) = some r := H
    have A5 := Aside0.mk A50
    clear A50
    obtain rfl := Option.some.inj H
    go_enter Try.func33, Try.ntmps33
    go_wp2_with (first | ((with_reducible refine gate_callee (f := 59) rfl ?_); refine goesL_ (some 7) rfl rfl Try.func59 (by kernel_rfl) rfl #[.int .i64 a0, .slice A1 l1.length c1] rfl (by (try simp only [List.map_toArray, List.map_cons, List.map_nil]); first | done | rfl | (simp only [List.length_drop, List.length_take]; rfl)) ?_; (with_reducible refine (impl_arePermutations.calls k a0 _ _ l1 true _ ?side1 ?side2 A3.out).mono ?_); (case side1 => repeat (first | exact HR1.out | (with_reducible refine Kd.C_alloc ?_ _) | (with_reducible refine Kd.C_drewN ?_ _) | (with_reducible refine Kd.C_drew ?_))); (case side2 => exact HC1.out); rintro e w6 ⟨rfl, hb⟩; refine ⟨_, rfl, ?_⟩; have n0_ := Aside0.mk (below_step (by repeat (first | (with_reducible first | exact HB.out | apply below_alloc | apply pw_below_drewN | apply below_drew1) | exact HB.out)) hb); clear HB; have HB := n0_; clear n0_; (try clear hb); (try clear hb2); (try clear hk); (try clear hi)) | ((with_reducible refine gate_callee (f := 74) rfl ?_); refine goesL_ (some 11) rfl rfl Try.func74 (by kernel_rfl) rfl #[.int .i64 a0, .slice A1 l1.length c1] rfl (by (try simp only [List.map_toArray, List.map_cons, List.map_nil]); first | done | rfl | (simp only [List.length_drop, List.length_take]; rfl)) ?_; (with_reducible refine (impl_orbits.calls k a0 _ _ l1 t204 _ ?side1 ?side2 A5.out).mono ?_); (case side1 => repeat (first | exact (Kd.C_below HR1.out HB.out) | (with_reducible refine Kd.C_alloc ?_ _) | (with_reducible refine Kd.C_drewN ?_ _) | (with_reducible refine Kd.C_drew ?_))); (case side2 => exact HC1.out); rintro e w7 ⟨v205, rfl, ho0, hb⟩; refine ⟨_, rfl, ?_⟩; have n0_ := Aside0.mk (Kd.S_lower ho0 (below_size (by repeat (first | (with_reducible first | exact HB.out | apply below_alloc | apply pw_below_drewN | apply below_drew1) | exact HB.out)))); have n1_ := Aside0.mk (below_step (by repeat (first | (with_reducible first | exact HB.out | apply below_alloc | apply pw_below_drewN | apply below_drew1) | exact HB.out)) hb); clear HB; have HO206 := n0_; have HB := n1_; clear n0_ n1_; (try clear hb); (try clear hb2); (try clear hk); (try clear hi); (try clear ho0)))
    go_ret
    exact ⟨_, by first | rfl | (simp [errW_none, errW_some] <;> rfl) | (simp [*, errW_none, errW_some] <;> rfl), by (with_reducible repeat (first | apply Kd.S_alloc | apply Kd.S_drewN | apply Kd.S_drew)); exact HO206.out, by repeat (first | (with_reducible first | exact HB.out | apply below_alloc | apply pw_below_drewN | apply below_drew1) | exact HB.out)⟩
  · replace c4 := Bool.eq_false_iff.mpr c4
    subst c4
    have H1 : (some ([] : List (List Int))) = some r := by rw [if_neg (show ¬ (false = true) by decide)] at H; exact H
    clear H
    have H := H1
    clear H1
    obtain rfl := Option.some.inj H
    go_enter Try.func33, Try.ntmps33
    go_wp2_with (first | ((with_reducible refine gate_callee (f := 59) rfl ?_); refine goesL_ (some 7) rfl rfl Try.func59 (by kernel_rfl) rfl #[.int .i64 a0, .slice A1 l1.length c1] rfl (by (try simp only [List.map_toArray, List.map_cons, List.map_nil]); first | done | rfl | (simp only [List.length_drop, List.length_take]; rfl)) ?_; (with_reducible refine (impl_arePermutations.calls k a0 _ _ l1 false _ ?side1 ?side2 A3.out).mono ?_); (case side1 => repeat (first | exact HR1.out | (with_reducible refine Kd.C_alloc ?_ _) | (with_reducible refine Kd.C_drewN ?_ _) | (with_reducible refine Kd.C_drew ?_))); (case side2 => exact HC1.out); rintro e w8 ⟨rfl, hb⟩; refine ⟨_, rfl, ?_⟩; have n0_ := Aside0.mk (below_step (by repeat (first | (with_reducible first | exact HB.out | apply below_alloc | apply pw_below_drewN | apply below_drew1) | exact HB.out)) hb); clear HB; have HB := n0_; clear n0_; (try clear hb); (try clear hb2); (try clear hk); (try clear hi)))
    go_ret
    exact ⟨_, by first | rfl | (simp [errW_none, errW_some] <;> rfl) | (simp [*, errW_none, errW_some] <;> rfl), by first | exact Kd.S_nil _ _ _ _ _ | exact Kd.N_nil _ _ _ _ _ | exact Kd.V_nil _ _ _ _ _ | exact Kd.Q_nil _ _ _ _ _ | exact Kd.R_nil _ _ _ _ _, by repeat (first | (with_reducible first | exact HB.out | apply below_alloc | apply pw_below_drewN | apply below_drew1) | exact HB.out)⟩

/-! ### laws_FnExactOrbitsOf: function 7 -/
def laws_FnExactOrbitsOf.f (k : Nat) (a0 : Int) (l1 : List (List Int)) : Option Bool :=
  (laws_szInt64SS.f k l1 1048576).bind fun z => if z < 0 then some true else
  (laws_toInt64SS.f k l1).bind fun b => (spec_OrbitsOf.f k a0 b).bind fun s => (impl_OrbitsOf.f k a0 b).bind fun r =>
  (laws_eqInt64SS.f k r s).bind fun e1 => if e1 = true then
  (laws_eqInt64SS.f k b b).bind fun e2 => if e2 = true then
  (laws_markInt64SS.f k b 1).bind fun m1 => if 0 ≤ m1.1 then
  (laws_markInt64SS.f k r 1).bind fun m2 => (laws_heldInt64SS.f k m2.2 1).bind fun h1 => if 0 ≤ h1 then if h1 = m2.1 then some true
  else some false else some false else some false else some false else some false
theorem laws_FnExactOrbitsOf.mono : ∀ a0 l1 k, LeO (laws_FnExactOrbitsOf.f k a0 l1) (laws_FnExactOrbitsOf.f (k + 1) a0 l1) := by
  intro a0 l1 k
  unfold laws_FnExactOrbitsOf.f
  exact LeO.bind (laws_szInt64SS.mono _ _ _) fun _ => LeO.ite (LeO.refl _) (LeO.bind (laws_toInt64SS.mono _ _) fun _ => LeO.bind (spec_OrbitsOf.mono _ _ _) fun _ => LeO.bind (impl_OrbitsOf.mono _ _ _) fun _ =>
    LeO.bind (laws_eqInt64SS.mono _ _ _) fun _ => LeO.ite (LeO.bind (laws_eqInt64SS.mono _ _ _) fun _ => LeO.ite (LeO.bind (laws_markInt64SS.mono _ _ _) fun _ => LeO.ite (LeO.bind (laws_markInt64SS.mono _ _ _) fun _ => LeO.bind (laws_heldInt64SS.mono _ _ _) fun _ => LeO.refl _) (LeO.refl _)) (LeO.refl _)) (LeO.refl _))
theorem if_true_ {c : Prop} [Decidable c] {x : Option Bool} (h : (if c then x else some false) = some true) : c ∧ x = some true := by
  by_cases hc : c
  · rw [if_pos hc] at h
    exact ⟨hc, h⟩
  · rw [if_neg hc] at h
    exact absurd h (by simp)
/-- Rows whose blocks all lie in a part of the heap. -/
def Seg (w W : World) (lo hi : Nat) (v : Value) (xs : List (List Int)) : Prop := Kd.S (Kd.slice 2 (Kd.int .i64)) 47 W w.heap.size (fun k_ => lo ≤ k_ ∧ k_ < hi) v xs
theorem Seg.new {w W W' : World} {v : Value} {xs : List (List Int)} (h : Kd.S (Kd.slice 2 (Kd.int .i64)) 47 W' W.heap.size (fun _ => True) v xs) (hw : w.heap.size ≤ W.heap.size) : Seg w W' W.heap.size W'.heap.size v xs :=
  Kd.S_mono (Kd.S_lower (Kd.S_bound h) hw) fun _ hk => ⟨hk.2.1, hk.2.2.1⟩
theorem Seg.below {w W W' : World} {lo hi : Nat} {v : Value} {xs : List (List Int)} (h : Seg w W lo hi v xs) (hb : Below W.heap.size W W') : Seg w W' lo hi v xs := Kd.S_below h hb
theorem Seg.kept {w W W' : World} {lo hi lo' hi' : Nat} {v : Value} {xs : List (List Int)} (h : Seg w W lo hi v xs) (hk : Kept W W' fun k_ => lo' ≤ k_ ∧ k_ < hi') (hd : hi ≤ lo' ∨ hi' ≤ lo) : Seg w W' lo hi v xs := Kd.S_kept h hk fun k h1 h2 => by omega
theorem Seg.reads {w W : World} {lo hi : Nat} {A : Option Addr} {n c : Nat} {xs : List (List Int)} (h : Seg w W lo hi (.slice A n c) xs) : n = xs.length ∧ n ≤ c ∧ (Kd.slice 2 (Kd.int .i64)).C W A xs.length xs := Kd.S_reads' h
theorem drawn_below {W W' : World} (h : Drawn0 W W') : Below W.heap.size W W' := by
  obtain ⟨n, rfl⟩ := h
  exact pw_below_drewN (Below.refl _ W) n
theorem am2_ {P : Prop} (h : P) : Aside0 P := ⟨h⟩
/-- A row whose elements were written: it is called by the length that it had. -/
theorem heldAt {f : FuncId} {W : World} {base n c : Nat} {ok : Nat → Prop} {A : Option Addr} {xs : List (List Int)} {a : Int} {Q : Ending → World → Prop} (hS : Kd.S (Kd.slice 2 (Kd.int .i64)) 47 W base ok (.slice A n c) xs)
    (h : (Kd.slice 2 (Kd.int .i64)).C W A xs.length xs → xs.length ≤ c → Calls Try.prog f #[.slice A xs.length c, .int .i64 a] W Q) : Calls Try.prog f #[.slice A n c, .int .i64 a] W Q := by
  obtain ⟨h1, h2, h3⟩ := Kd.S_reads' hS
  subst h1
  exact h h3 h2
set_option maxHeartbeats 8000000 in
set_option maxRecDepth 100000 in
theorem laws_FnExactOrbitsOf.calls (k : Nat) (a0 : Int) (A1 : Option Addr) (c1 : Nat) (l1 : List (List Int)) (r : Bool) (w : World) (hr1 : Kd.C (Kd.slice 2 (Kd.int .i64)) w A1 l1.length l1) (hc1 : l1.length ≤ c1) (h : laws_FnExactOrbitsOf.f k a0 l1 = some r) (HTRUE_ : Aside0 (r = true)) :
    Calls Try.prog 7 #[.int .i64 a0, .slice A1 l1.length c1] w fun e w' => e = .returned (.bool r) ∧ Below w.heap.size w w' := by
  obtain rfl := HTRUE_.out
  clear HTRUE_
  have HR1 := Aside0.mk hr1
  have HC1 := Aside0.mk hc1
  clear hr1 hc1
  unfold laws_FnExactOrbitsOf.f at h
  obtain ⟨z, Z, h⟩ := Option.bind_eq_some_iff.mp h
  by_cases c0 : z < 0
  · have c0b : decide (z < 0) = true := decide_eq_true c0
    have F1 := Aside0.mk fun W (hW : Below w.heap.size w W) => laws_szInt64SS.calls k A1 c1 l1 1048576 z W (Kd.C_below HR1.out hW) HC1.out Z
    clear c0 h Z
    go_enter Try.func7, Try.ntmps7
    go_wp2_with (go_at_call 28; refine (F1.out _ (Below.refl _ _)).mono ?_; rintro e w' ⟨rfl, hd⟩)
    go_ret
    exact ⟨rfl, drawn_below hd⟩
  · have c0b : decide (z < 0) = false := decide_eq_false c0
    rw [if_neg c0] at h
    obtain ⟨b, B, h⟩ := Option.bind_eq_some_iff.mp h
    obtain ⟨s, S, h⟩ := Option.bind_eq_some_iff.mp h
    obtain ⟨r, R, h⟩ := Option.bind_eq_some_iff.mp h
    obtain ⟨e1, E1, h⟩ := Option.bind_eq_some_iff.mp h
    obtain ⟨rfl, h⟩ := if_true_ h
    obtain ⟨e2, E2, h⟩ := Option.bind_eq_some_iff.mp h
    obtain ⟨rfl, h⟩ := if_true_ h
    obtain ⟨⟨n1, b'⟩, M1, h⟩ := Option.bind_eq_some_iff.mp h
    obtain ⟨hn1, h⟩ := if_true_ h
    obtain ⟨⟨n2, r'⟩, M2, h⟩ := Option.bind_eq_some_iff.mp h
    obtain ⟨h1, G, h⟩ := Option.bind_eq_some_iff.mp h
    obtain ⟨hn2, h⟩ := if_true_ h
    obtain ⟨rfl, _⟩ := if_true_ h
    have c1b : decide (n1 < 0) = false := decide_eq_false (by simpa using hn1)
    have c2b : decide (h1 < 0) = false := decide_eq_false (by simpa using hn2)
    simp only at M2 G
    have F1 := Aside0.mk fun W (hW : Below w.heap.size w W) => laws_szInt64SS.calls k A1 c1 l1 1048576 z W (Kd.C_below HR1.out hW) HC1.out Z
    have FT := fun W (hW : Below w.heap.size w W) => laws_toInt64SS.calls k A1 c1 l1 b W (Kd.C_below HR1.out hW) HC1.out B
    have T1 := Aside0.mk FT
    have T2 := Aside0.mk FT
    have T3 := Aside0.mk FT
    have T4 := Aside0.mk FT
    have FS := Aside0.mk fun A c W h1 h2 => spec_OrbitsOf.calls k a0 A c b s W h1 h2 S
    have FI := fun A c W h1 h2 => impl_OrbitsOf.calls k a0 A c b r W h1 h2 R
    have I1 := Aside0.mk FI
    have I2 := Aside0.mk FI
    have FE := fun A c A' c' W h1 h2 h3 h4 => laws_eqInt64SS.calls k A c r A' c' s true W h1 h2 h3 h4 E1
    have Q1 := Aside0.mk FE
    have Q3 := Aside0.mk FE
    have Q4 := Aside0.mk FE
    have Q2 := Aside0.mk fun A c A' c' W h1 h2 h3 h4 => laws_eqInt64SS.calls k A c b A' c' b true W h1 h2 h3 h4 E2
    have K1 := Aside0.mk fun P0_ u W hB ho => laws_markInt64SS.calls k P0_ u b 1 n1 b' w W hB ho M1
    have K2 := Aside0.mk fun P0_ u W hB ho => laws_markInt64SS.calls k P0_ u r 1 h1 r' w W hB ho M2
    have FG := fun A c W h2 h3 => laws_heldInt64SS.calls k A c r' 1 h1 W h2 h3 G
    have G1 := Aside0.mk FG
    have G2 := Aside0.mk FG
    clear c0 h Z B S R E1 E2 M1 M2 G FT FI FE FG hn1 hn2
    go_enter Try.func7, Try.ntmps7
    go_wp2_with (first
      | (go_at_call 28; refine (F1.out _ (Below.refl _ _)).mono ?_; rintro e W1 ⟨rfl, hd⟩; have HB1 := am2_ (drawn_below hd); clear F1 hd)
      | (go_at_call 30; refine (T1.out _ HB1.out).mono ?_; rintro e W2 ⟨v2, rfl, hS, hb⟩; have HB2 := am2_ (below_then HB1.out (below_size HB1.out) hb); have X1 := am2_ (Seg.new hS (below_size HB1.out)); obtain ⟨A2, d2, e2⟩ := Kd.S_slice hS; subst e2; clear T1 hS hb HB1)
      | (go_at_call 32; refine (FS.out _ _ _ X1.out.reads.2.2 X1.out.reads.2.1).mono ?_; rintro e W3 ⟨v3, rfl, hS, hb⟩; have HB3 := am2_ (below_then HB2.out (below_size HB2.out) hb); have n_ := am2_ (X1.out.below hb); clear X1; have X1 := n_; clear n_; have XS := am2_ (Seg.new hS (below_size HB2.out)); obtain ⟨A3, d3, e3⟩ := Kd.S_slice hS; subst e3; clear FS hS hb HB2)
      | (go_at_call 30; refine (T2.out _ HB3.out).mono ?_; rintro e W4 ⟨v4, rfl, hS, hb⟩; have HB4 := am2_ (below_then HB3.out (below_size HB3.out) hb); have n_ := am2_ (XS.out.below hb); clear XS; have XS := n_; clear n_; have XB := am2_ (Seg.new hS (below_size HB3.out)); obtain ⟨A4, d4, e4⟩ := Kd.S_slice hS; subst e4; have HL1 := am2_ (below_size hb); clear T2 hS hb HB3)
      | (go_at_call 33; refine (I1.out _ _ _ XB.out.reads.2.2 XB.out.reads.2.1).mono ?_; rintro e W5 ⟨v5, rfl, hS, hb⟩; have HB5 := am2_ (below_then HB4.out (below_size HB4.out) hb); have n_ := am2_ (XS.out.below hb); clear XS; have XS := n_; clear n_; have n_ := am2_ (XB.out.below hb); clear XB; have XB := n_; clear n_; have XR := am2_ (Seg.new hS (below_size HB4.out)); obtain ⟨A5, d5, e5⟩ := Kd.S_slice hS; subst e5; clear I1 hS hb HB4)
      | (go_at_call 19; refine (Q1.out _ _ _ _ _ XR.out.reads.2.2 XR.out.reads.2.1 XS.out.reads.2.2 XS.out.reads.2.1).mono ?_; rintro e W6 ⟨rfl, hd⟩; have hb := drawn_below hd; have HB6 := am2_ (below_then HB5.out (below_size HB5.out) hb); have n_ := am2_ (XS.out.below hb); clear XS; have XS := n_; clear n_; have n_ := am2_ (XB.out.below hb); clear XB; have XB := n_; clear n_; have n_ := am2_ (XR.out.below hb); clear XR; have XR := n_; clear n_; clear Q1 hd hb HB5)
      | (go_at_call 30; refine (T3.out _ HB6.out).mono ?_; rintro e W7 ⟨v7, rfl, hS, hb⟩; have HB7 := am2_ (below_then HB6.out (below_size HB6.out) hb); have n_ := am2_ (XS.out.below hb); clear XS; have XS := n_; clear n_; have n_ := am2_ (XB.out.below hb); clear XB; have XB := n_; clear n_; have n_ := am2_ (XR.out.below hb); clear XR; have XR := n_; clear n_; have XC := am2_ (Seg.new hS (below_size HB6.out)); obtain ⟨A7, d7, e7⟩ := Kd.S_slice hS; subst e7; clear T3 hS hb HB6)
      | (go_at_call 19; refine (Q2.out _ _ _ _ _ XB.out.reads.2.2 XB.out.reads.2.1 XC.out.reads.2.2 XC.out.reads.2.1).mono ?_; rintro e W8 ⟨rfl, hd⟩; have hb := drawn_below hd; have HB8 := am2_ (below_then HB7.out (below_size HB7.out) hb); have n_ := am2_ (XS.out.below hb); clear XS; have XS := n_; clear n_; have n_ := am2_ (XB.out.below hb); clear XB; have XB := n_; clear n_; have n_ := am2_ (XR.out.below hb); clear XR; have XR := n_; clear n_; have n_ := am2_ (XC.out.below hb); clear XC; have XC := n_; clear n_; clear Q2 hd hb HB7)
      | (go_at_call 21; refine (K1.out (fun k_ => W3.heap.size ≤ k_ ∧ k_ < W4.heap.size) _ _ HB8.out XB.out).mono ?_; rintro e W9 ⟨rfl, hS, hB2, hK⟩; have HB9 := am2_ hB2; have n_ := am2_ (XS.out.kept hK (.inl (Nat.le_refl _))); clear XS; have XS := n_; clear n_; have n_ := am2_ (XR.out.kept hK (.inr (Nat.le_refl _))); clear XR; have XR := n_; clear n_; clear K1 hS hB2 hK HB8 XB)
      | (go_at_call 19; refine (Q3.out _ _ _ _ _ XR.out.reads.2.2 XR.out.reads.2.1 XS.out.reads.2.2 XS.out.reads.2.1).mono ?_; rintro e W10 ⟨rfl, hd⟩; have hb := drawn_below hd; have HB10 := am2_ (below_then HB9.out (below_size HB9.out) hb); have n_ := am2_ (XS.out.below hb); clear XS; have XS := n_; clear n_; have n_ := am2_ (XR.out.below hb); clear XR; have XR := n_; clear n_; clear Q3 hd hb HB9)
      | (go_at_call 21; refine (K2.out (fun k_ => W4.heap.size ≤ k_ ∧ k_ < W5.heap.size) _ _ HB10.out XR.out).mono ?_; rintro e W11 ⟨rfl, hS, hB2, hK⟩; have HB11 := am2_ hB2; have n_ := am2_ (XS.out.kept hK (.inl HL1.out)); clear XS; have XS := n_; clear n_; have YR := am2_ hS; clear K2 hS hB2 hK HB10 XR)
      | (go_at_call 22; refine (heldAt YR.out fun h2 h3 => G1.out _ _ _ h2 h3).mono ?_; rintro e W12 ⟨rfl, hd⟩; have hb := drawn_below hd; have HB12 := am2_ (below_then HB11.out (below_size HB11.out) hb); have n_ := am2_ (XS.out.below hb); clear XS; have XS := n_; clear n_; have n_ := am2_ (Kd.S_below YR.out hb); clear YR; have YR := n_; clear n_; clear G1 hd hb HB11)
      | (go_at_call 30; refine (T4.out _ HB12.out).mono ?_; rintro e W13 ⟨v13, rfl, hS, hb⟩; have HB13 := am2_ (below_then HB12.out (below_size HB12.out) hb); have n_ := am2_ (XS.out.below hb); clear XS; have XS := n_; clear n_; have XD := am2_ (Seg.new hS (below_size HB12.out)); obtain ⟨A13, d13, e13⟩ := Kd.S_slice hS; subst e13; have n_ := am2_ (Kd.S_below YR.out hb); clear YR; have YR := n_; clear n_; clear T4 hS hb HB12)
      | (go_at_call 33; refine (I2.out _ _ _ XD.out.reads.2.2 XD.out.reads.2.1).mono ?_; rintro e W14 ⟨v14, rfl, hS, hb⟩; have HB14 := am2_ (below_then HB13.out (below_size HB13.out) hb); have n_ := am2_ (XS.out.below hb); clear XS; have XS := n_; clear n_; have n_ := am2_ (XD.out.below hb); clear XD; have XD := n_; clear n_; have XE := am2_ (Seg.new hS (below_size HB13.out)); obtain ⟨A14, d14, e14⟩ := Kd.S_slice hS; subst e14; have n_ := am2_ (Kd.S_below YR.out hb); clear YR; have YR := n_; clear n_; clear I2 hS hb HB13)
      | (go_at_call 19; refine (Q4.out _ _ _ _ _ XE.out.reads.2.2 XE.out.reads.2.1 XS.out.reads.2.2 XS.out.reads.2.1).mono ?_; rintro e W15 ⟨rfl, hd⟩; have hb := drawn_below hd; have HB15 := am2_ (below_then HB14.out (below_size HB14.out) hb); have n_ := am2_ (Kd.S_below YR.out hb); clear YR; have YR := n_; clear n_; clear Q4 hd hb XE XS HB14)
      | (go_at_call 22; refine (heldAt YR.out fun h2 h3 => G2.out _ _ _ h2 h3).mono ?_; rintro e W16 ⟨rfl, hd⟩; have hb := drawn_below hd; have HB16 := am2_ (below_then HB15.out (below_size HB15.out) hb); clear G2 hd hb YR HB15))
    go_ret
    exact ⟨rfl, HB16.out⟩

end Go.Proofs.Ytinpfomadogadaa.PFnExactOrbitsOf
