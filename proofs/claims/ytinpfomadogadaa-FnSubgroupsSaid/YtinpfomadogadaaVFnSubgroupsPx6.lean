/- Written by this session's program out of the kit's print and this session's contracts. -/
import Derived.Test.YtinpfomadogadaaVFnSubgroupsPx0
import Derived.Test.YtinpfomadogadaaVFnSubgroupsPx1
import Derived.Test.YtinpfomadogadaaVFnSubgroupsPx2
import Derived.Test.YtinpfomadogadaaVFnSubgroupsPx4
import Derived.Test.YtinpfomadogadaaVFnSubgroupsPx5
namespace Go.Proofs.Ytinpfomadogadaa.PFnSubgroups
open Go.RowKit Go.Proofs.YtinpfomadogadaaW.PrintWords Go.Proofs.YtinpfomadogadaaW.PrintLast Go.Proofs.YtinpfomadogadaaW.PrintMore
attribute [local go_sem] max2_int min2_int max_two min_two max_three min_three max_four min_four   -- for this text's walks alone
set_option linter.unusedVariables false
set_option linter.unusedSimpArgs false

/-! ### impl_orbits: function 74 -/
mutual
def impl_orbits.l0 : Nat → List (List Int) → List (List Int) → List Bool → Int → Int → Option ((List (List Int)))
  | 0, _, _, _, _, _ => none
  | k + 1, x1, x5, x6, x15, x16 => if x16 < x15 then (if 0 ≤ x16 then (if x16 < (x6.length : Int) then (if rdOf false x6 x16 = true then (impl_orbits.l0 k x1 x5 x6 x15 (wrap64 (x16 + 1))) else (impl_orbits.l1 k x1 x5 (x6.set (x16 : Int).toNat true) (([x16] : List Int)) 0 x15 x16)) else (none)) else (none)) else (some x5)
def impl_orbits.l1 : Nat → List (List Int) → List (List Int) → List Bool → List Int → Int → Int → Int → Option ((List (List Int)))
  | 0, _, _, _, _, _, _, _ => none
  | k + 1, x1, x5, x6, x8, x9, x15, x16 => if x9 < (x8.length : Int) then (impl_orbits.l2 k x1 x5 x6 x8 x9 x15 x16 x1 (x1.length : Int) 0) else ((slices_Sort_int64_int64.f k x8).bind fun t147 => (if x5.length < 5864062014805 then (impl_orbits.l0 k x1 (x5 ++ [t147]) x6 x15 (wrap64 (x16 + 1))) else (none)))
def impl_orbits.l2 : Nat → List (List Int) → List (List Int) → List Bool → List Int → Int → Int → Int → List (List Int) → Int → Int → Option ((List (List Int)))
  | 0, _, _, _, _, _, _, _, _, _, _ => none
  | k + 1, x1, x5, x6, x8, x9, x15, x16, x34, x35, x36 => if x36 < x35 then (if 0 ≤ x36 then (if x36 < (x34.length : Int) then (if 0 ≤ x9 then (if x9 < (x8.length : Int) then (if 0 ≤ (rd x8 x9) then (if (rd x8 x9) < ((rd_L1 x34 x36).length : Int) then (if 0 ≤ (rd (rd_L1 x34 x36) (rd x8 x9)) then (if (rd (rd_L1 x34 x36) (rd x8 x9)) < (x6.length : Int) then (if (rdOf false x6 (rd (rd_L1 x34 x36) (rd x8 x9)) = true) then (impl_orbits.l2 k x1 x5 x6 x8 x9 x15 x16 x34 x35 (wrap64 (x36 + 1))) else (if x8.length < 17592186044416 then (impl_orbits.l2 k x1 x5 (x6.set ((rd (rd_L1 x34 x36) (rd x8 x9)) : Int).toNat true) (x8 ++ [rd (rd_L1 x34 x36) (rd x8 x9)]) x9 x15 x16 x34 x35 (wrap64 (x36 + 1))) else (none))) else (none)) else (none)) else (none)) else (none)) else (none)) else (none)) else (none)) else (none)) else (impl_orbits.l1 k x1 x5 x6 x8 (wrap64 (x9 + 1)) x15 x16)
end
def impl_orbits.f (k : Nat) (a0 : Int) (l1 : List (List Int)) : Option ((List (List Int))) := if 0 ≤ a0 then (if (a0 : Int).toNat ≤ 281474976710656 then (impl_orbits.l0 k l1 ([] : List (List Int)) (List.replicate (a0 : Int).toNat false) a0 0) else (none)) else (none)
theorem impl_orbits.mono_l : ∀ k, (∀ y0 y1 y2 y3 y4, LeO (impl_orbits.l0 k y0 y1 y2 y3 y4) (impl_orbits.l0 (k + 1) y0 y1 y2 y3 y4)) ∧ (∀ y0 y1 y2 y3 y4 y5 y6, LeO (impl_orbits.l1 k y0 y1 y2 y3 y4 y5 y6) (impl_orbits.l1 (k + 1) y0 y1 y2 y3 y4 y5 y6)) ∧ (∀ y0 y1 y2 y3 y4 y5 y6 y7 y8 y9, LeO (impl_orbits.l2 k y0 y1 y2 y3 y4 y5 y6 y7 y8 y9) (impl_orbits.l2 (k + 1) y0 y1 y2 y3 y4 y5 y6 y7 y8 y9))
  | 0 => ⟨fun _ _ _ _ _ r h => by simp [impl_orbits.l0] at h, fun _ _ _ _ _ _ _ r h => by simp [impl_orbits.l1] at h, fun _ _ _ _ _ _ _ _ _ _ r h => by simp [impl_orbits.l2] at h⟩
  | k + 1 => by
    obtain ⟨ih0, ih1, ih2⟩ := impl_orbits.mono_l k
    refine ⟨?_, ?_, ?_⟩
    · intro y0 y1 y2 y3 y4
      unfold impl_orbits.l0
      repeat' first
      | (with_reducible exact ih0 _ _ _ _ _)
      | (with_reducible exact ih1 _ _ _ _ _ _ _)
      | (with_reducible exact ih2 _ _ _ _ _ _ _ _ _ _)
      | (with_reducible exact slices_Sort_int64_int64.mono _ _)
      | (with_reducible exact LeO.refl _)
      | (with_reducible exact LeO.none _)
      | (with_reducible refine LeO.ite ?_ ?_)
      | (with_reducible refine LeO.bind ?_ (fun _ => ?_))
      | exact ih0 _ _ _ _ _
      | exact ih1 _ _ _ _ _ _ _
      | exact ih2 _ _ _ _ _ _ _ _ _ _
      | exact slices_Sort_int64_int64.mono _ _
      | exact LeO.none _
      | refine LeO.ite ?_ ?_
      | refine LeO.bind ?_ (fun _ => ?_)
    · intro y0 y1 y2 y3 y4 y5 y6
      unfold impl_orbits.l1
      repeat' first
      | (with_reducible exact ih0 _ _ _ _ _)
      | (with_reducible exact ih1 _ _ _ _ _ _ _)
      | (with_reducible exact ih2 _ _ _ _ _ _ _ _ _ _)
      | (with_reducible exact slices_Sort_int64_int64.mono _ _)
      | (with_reducible exact LeO.refl _)
      | (with_reducible exact LeO.none _)
      | (with_reducible refine LeO.ite ?_ ?_)
      | (with_reducible refine LeO.bind ?_ (fun _ => ?_))
      | exact ih0 _ _ _ _ _
      | exact ih1 _ _ _ _ _ _ _
      | exact ih2 _ _ _ _ _ _ _ _ _ _
      | exact slices_Sort_int64_int64.mono _ _
      | exact LeO.none _
      | refine LeO.ite ?_ ?_
      | refine LeO.bind ?_ (fun _ => ?_)
    · intro y0 y1 y2 y3 y4 y5 y6 y7 y8 y9
      unfold impl_orbits.l2
      repeat' first
      | (with_reducible exact ih0 _ _ _ _ _)
      | (with_reducible exact ih1 _ _ _ _ _ _ _)
      | (with_reducible exact ih2 _ _ _ _ _ _ _ _ _ _)
      | (with_reducible exact slices_Sort_int64_int64.mono _ _)
      | (with_reducible exact LeO.refl _)
      | (with_reducible exact LeO.none _)
      | (with_reducible refine LeO.ite ?_ ?_)
      | (with_reducible refine LeO.bind ?_ (fun _ => ?_))
      | exact ih0 _ _ _ _ _
      | exact ih1 _ _ _ _ _ _ _
      | exact ih2 _ _ _ _ _ _ _ _ _ _
      | exact slices_Sort_int64_int64.mono _ _
      | exact LeO.none _
      | refine LeO.ite ?_ ?_
      | refine LeO.bind ?_ (fun _ => ?_)
theorem impl_orbits.mono : ∀ a0 a1 k, LeO (impl_orbits.f k a0 a1) (impl_orbits.f (k + 1) a0 a1) := by
  intro a0 a1 k
  obtain ⟨ih0, ih1, ih2⟩ := impl_orbits.mono_l k
  unfold impl_orbits.f
  repeat' first
      | (with_reducible exact ih0 _ _ _ _ _)
      | (with_reducible exact ih1 _ _ _ _ _ _ _)
      | (with_reducible exact ih2 _ _ _ _ _ _ _ _ _ _)
      | (with_reducible exact slices_Sort_int64_int64.mono _ _)
      | (with_reducible exact LeO.refl _)
      | (with_reducible exact LeO.none _)
      | (with_reducible refine LeO.ite ?_ ?_)
      | (with_reducible refine LeO.bind ?_ (fun _ => ?_))
      | exact ih0 _ _ _ _ _
      | exact ih1 _ _ _ _ _ _ _
      | exact ih2 _ _ _ _ _ _ _ _ _ _
      | exact slices_Sort_int64_int64.mono _ _
      | exact LeO.none _
      | refine LeO.ite ?_ ?_
      | refine LeO.bind ?_ (fun _ => ?_)
set_option maxHeartbeats 8000000 in
set_option maxRecDepth 100000 in
theorem impl_orbits.calls (k : Nat) (a0 : Int) (A1 : Option Addr) (c1 : Nat) (l1 : List (List Int)) (r : List (List Int)) (w : World) (hr1 : Kd.C (Kd.slice 2 (Kd.int .i64)) w A1 l1.length l1) (hc1 : l1.length ≤ c1) (h : impl_orbits.f k a0 l1 = some r) :
    Calls Try.prog 74 #[.int .i64 a0, .slice A1 l1.length c1] w fun e w' => ∃ v0_ : Value, e = .returned (v0_) ∧ Kd.S (Kd.slice 2 (Kd.int .i64)) 47 w' w.heap.size (fun _ => True) v0_ r ∧ Below w.heap.size w w' := by
  have HR1 := Aside0.mk hr1
  have HC1 := Aside0.mk hc1
  clear hr1 hc1
  have HB := Aside0.mk (Below.refl w.heap.size w)
  have H : (if 0 ≤ a0 then (if (a0 : Int).toNat ≤ 281474976710656 then (impl_orbits.l0 k l1 ([] : List (List Int)) (List.replicate (a0 : Int).toNat false) a0 0) else (none)) else (none)) = some r := h
  clear h
  by_cases c3 : 0 ≤ a0
  · rw [if_pos c3] at H
    have c3b0 := eq_true c3
    have c3b1 : decide (0 ≤ a0) = true := decide_eq_true c3
    clear c3
    by_cases c4 : (a0 : Int).toNat ≤ 281474976710656
    · rw [if_pos c4] at H
      have c4b0 := eq_true c4
      have c4b1 : decide ((a0 : Int).toNat ≤ 281474976710656) = true := decide_eq_true c4
      clear c4
      obtain ⟨y139, hy139⟩ : ∃ y_ : List Bool, y_ = (List.replicate (a0 : Int).toNat false) := ⟨_, rfl⟩
      replace H : (impl_orbits.l0 k l1 ([] : List (List Int)) y139 a0 0) = some r := by first | (rw [hy139]; with_reducible exact H) | (have H2_ := (Option.bind_some _ _).symm.trans H; rw [hy139]; with_reducible exact H2_) | (have H2_ := (Option.bind_some _ _).symm.trans H; with_reducible exact H2_) | with_reducible exact H | (rw [hy139]; exact H) | exact H
      have Ny139 := Aside0.mk hy139
      clear hy139
      have H' := Aside0.mk H
      clear H
      go_enter Try.func74, Try.ntmps74
      go_wp2_with (first | ((with_reducible refine gate_dst (N := 14) rfl ?_); refine Kd.R_make Kd.bool _ 4 rfl (N := 14) rfl 74 _ _ rfl a0 rfl rfl Try.underlying74 (.bool false) 1 info4 rfl (by decide) (by omega) false (ok := fun _ => True) (okp := fun _ => True) rfl (fun _ hk => hk) trivial (of_decide_eq_true (by first | (with_reducible assumption) | assumption)) (Nat.le_trans (Nat.mul_le_mul_right _ (of_decide_eq_true (by first | (with_reducible assumption) | assumption) : a0.toNat ≤ 281474976710656)) (by omega)) (Below.refl _ _) (Nat.le_refl _) ?_; intro v140 w5 ho6 hb hg_ hnew_; clear hg_ hnew_; (first | rw [← Ny139.out] at ho6 | (simp only [Int.reduceToNat] at ho6; rw [← Ny139.out] at ho6)); have n0_ := Aside0.mk (Kd.R_lower ho6 (below_size (by repeat (first | (with_reducible first | exact HB.out | apply below_alloc | apply pw_below_drewN | apply below_drew1) | exact HB.out)))); have n1_ := Aside0.mk (below_step (by repeat (first | (with_reducible first | exact HB.out | apply below_alloc | apply pw_below_drewN | apply below_drew1) | exact HB.out)) hb); clear HB; have HO141 := n0_; have HB := n1_; clear n0_ n1_; clear hb ho6))
      go_loopg [5, 16] k (fun kq v5 v16 w' => ∃ (x5_1 : List (List Int)) (x6_1 : List Bool) (x16_1 : Int), v16 = .int .i64 x16_1 ∧ Aside0 (impl_orbits.l0 kq l1 x5_1 x6_1 a0 x16_1 = some r) ∧ Aside0 (kq ≤ k) ∧ Aside0 (Kd.S (Kd.slice 2 (Kd.int .i64)) 47 w' w.heap.size (fun _ => True) v5 x5_1) ∧ Aside0 (Kd.R Kd.bool 4 w' w.heap.size (fun _ => True) v140 x6_1) ∧ Aside0 (Below w.heap.size w w'))
      case atStart => exact ⟨(([] : List (List Int))), (y139), (0), (by first | rfl | (simp; done) | (simp [*]; done)), H', ⟨Nat.le_refl _⟩, ⟨by first | exact Kd.S_nil _ _ _ _ _ | exact Kd.N_nil _ _ _ _ _ | exact Kd.V_nil _ _ _ _ _ | exact Kd.Q_nil _ _ _ _ _ | exact Kd.R_nil _ _ _ _ _⟩, ⟨by (with_reducible repeat (first | apply Kd.R_alloc | apply Kd.R_drewN | apply Kd.R_drew)); exact HO141.out⟩, ⟨by repeat (first | (with_reducible first | exact HB.out | apply below_alloc | apply pw_below_drewN | apply below_drew1) | exact HB.out)⟩⟩
      case round =>
        clear H'
        try clear c1
        try clear p2
        try clear c3
        try clear c3b0
        try clear c3b1
        try clear c4
        try clear c4b0
        try clear c4b1
        obtain ⟨x5_1, x6_1, x16_1, rfl, HA, HK1, HO_5, HO_6, HB⟩ := hrel
        cases gk with
        | zero => exact absurd HA.out (by simp [impl_orbits.l0])
        | succ k1 =>
          have H := HA.out
          clear HA
          simp only [impl_orbits.l0] at H
          by_cases c7 : x16_1 < a0
          · rw [if_pos c7] at H
            have c7b0 : decide (x16_1 < a0) = true := decide_eq_true c7
            clear c7
            by_cases c8 : 0 ≤ x16_1
            · rw [if_pos c8] at H
              have c8b0 : decide (0 ≤ x16_1) = true := decide_eq_true c8
              clear c8
              by_cases c9 : x16_1 < (x6_1.length : Int)
              · rw [if_pos c9] at H
                have c9b0 : decide (x16_1 < (x6_1.length : Int)) = true := decide_eq_true c9
                clear c9
                obtain ⟨bq10, hbq10⟩ : ∃ b_ : Bool, b_ = (rdOf false x6_1 x16_1) := ⟨_, rfl⟩
                replace H : (if bq10 = true then (impl_orbits.l0 k1 l1 x5_1 x6_1 a0 (wrap64 (x16_1 + 1))) else (impl_orbits.l1 k1 l1 x5_1 (x6_1.set (x16_1 : Int).toNat true) (([x16_1] : List Int)) 0 a0 x16_1)) = some r := by rw [← hbq10] at H; exact H
                have Nbq10 := Aside0.mk hbq10
                clear hbq10
                by_cases c11 : bq10 = true
                · subst c11
                  have H1 : (impl_orbits.l0 k1 l1 x5_1 x6_1 a0 (wrap64 (x16_1 + 1))) = some r := by rw [if_pos rfl] at H; exact H
                  clear H
                  have H := H1
                  clear H1
                  have H' := Aside0.mk H
                  clear H
                  obtain ⟨Ao12, co12, eo12⟩ := Kd.R_slice HO_6.out
                  subst eo12
                  have p142 : 0 ≤ (x16_1 : Int) := of_decide_eq_true (by first | (with_reducible assumption) | assumption)
                  have q142 : x16_1 < (x6_1.length : Int) := of_decide_eq_true (by first | (with_reducible assumption) | assumption)
                  obtain ⟨ad142, e142, hx142_0⟩ := Kd.at_bool (Kd.R_reads' HO_6.out).2.2 x16_1 p142 q142
                  (try rw [← Nbq10.out] at hx142_0)
                  cases e142
                  replace p142 := eq_true p142
                  replace q142 := eq_true q142
                  go_wp2
                  go_roundg k1
                  case measure => have := HK1.out; omega
                  case rel => exact ⟨(x5_1), (x6_1), (wrap64 (x16_1 + 1)), (by first | rfl | (simp; done) | (simp [*]; done)), H', ⟨by have := HK1.out; omega⟩, ⟨by (with_reducible repeat (first | apply Kd.S_alloc | apply Kd.S_drewN | apply Kd.S_drew)); exact HO_5.out⟩, ⟨by (with_reducible repeat (first | apply Kd.R_alloc | apply Kd.R_drewN | apply Kd.R_drew)); exact HO_6.out⟩, ⟨by repeat (first | (with_reducible first | exact HB.out | apply below_alloc | apply pw_below_drewN | apply below_drew1) | exact HB.out)⟩⟩
                · replace c11 := Bool.eq_false_iff.mpr c11
                  subst c11
                  have H1 : (impl_orbits.l1 k1 l1 x5_1 (x6_1.set (x16_1 : Int).toNat true) (([x16_1] : List Int)) 0 a0 x16_1) = some r := by rw [if_neg (show ¬ (false = true) by decide)] at H; exact H
                  clear H
                  have H := H1
                  clear H1
                  obtain ⟨y143, hy143⟩ : ∃ y_ : List Bool, y_ = (x6_1.set (x16_1 : Int).toNat true) := ⟨_, rfl⟩
                  replace H : (impl_orbits.l1 k1 l1 x5_1 y143 (([x16_1] : List Int)) 0 a0 x16_1) = some r := by first | (rw [hy143]; with_reducible exact H) | (have H2_ := (Option.bind_some _ _).symm.trans H; rw [hy143]; with_reducible exact H2_) | (have H2_ := (Option.bind_some _ _).symm.trans H; with_reducible exact H2_) | with_reducible exact H | (rw [hy143]; exact H) | exact H
                  have Ny143 := Aside0.mk hy143
                  clear hy143
                  obtain ⟨y144, hy144⟩ : ∃ y_ : List Int, y_ = (([x16_1] : List Int)) := ⟨_, rfl⟩
                  replace H : (impl_orbits.l1 k1 l1 x5_1 y143 y144 0 a0 x16_1) = some r := by first | (rw [hy144]; with_reducible exact H) | (have H2_ := (Option.bind_some _ _).symm.trans H; rw [hy144]; with_reducible exact H2_) | (have H2_ := (Option.bind_some _ _).symm.trans H; with_reducible exact H2_) | with_reducible exact H | (rw [hy144]; exact H) | exact H
                  have Ny144 := Aside0.mk hy144
                  clear hy144
                  have H' := Aside0.mk H
                  clear H
                  obtain ⟨Ao14, co14, eo14⟩ := Kd.R_slice HO_6.out
                  subst eo14
                  have p142 : 0 ≤ (x16_1 : Int) := of_decide_eq_true (by first | (with_reducible assumption) | assumption)
                  have q142 : x16_1 < (x6_1.length : Int) := of_decide_eq_true (by first | (with_reducible assumption) | assumption)
                  obtain ⟨ad142, e142, hx142_0⟩ := Kd.at_bool (Kd.R_reads' HO_6.out).2.2 x16_1 p142 q142
                  (try rw [← Nbq10.out] at hx142_0)
                  cases e142
                  replace p142 := eq_true p142
                  replace q142 := eq_true q142
                  have p13 : 0 ≤ (x16_1 : Int) := of_decide_eq_true (by first | (with_reducible assumption) | assumption)
                  have q13 : (x16_1 : Int) < ((x6_1.length : Int) : Int) := of_decide_eq_true (by first | (with_reducible assumption) | assumption)
                  obtain ⟨go13, co13, eo13, gb13, gl13, cl13, HG13⟩ := Kd.R_form HO_6.out (by omega)
                  (first | cases eo13 | (injection eo13 with ea_ en_ ec_; (first | subst ea_ | (injection ea_ with ea_; subst ea_)); subst ec_; clear en_))
                  have GB13 := Aside0.mk gb13
                  have GG13 := Aside0.mk HG13
                  clear gb13 gl13 HG13
                  (first | simp only [add_plain] at hx142_0 | skip)
                  obtain ⟨hx13_0, hf13_0⟩ := Kd.R_celln false HO_6.out (x16_1 : Int) p13 q13
                  replace p13 := eq_true p13
                  replace q13 := eq_true q13
                  have HP15 := Kd.R_putg HO_6.out (x16_1 : Int) true
                  go_wp2_with (first | ((with_reducible refine gate_store (t := 4) (p := 25) rfl ?_); refine store_event (t := 4) (p := 25) (v := ?vo_w16) (w1 := (wr.setCell ⟨go13, (x16_1 : Int).toNat, none⟩ (.bool true))) ?hg ?ho ?hn ?hr ?_; (case ho => rfl); (case hg => rfl); (case hn => rfl); (case hr => first | (go_simp; done) | (go_simp; rfl)); intro w16 hw; have hg : wr.grownBy w16 (some go13) := (by rw [hw]; exact HP15.2); have hp_ : Kd.R Kd.bool 4 w16 w.heap.size (fun _ => True) (.slice (some ⟨go13, 0, none⟩) x6_1.length co14) y143 := (by rw [hw, Ny143.out]; exact HP15.1); clear HP15; have n0_ := Aside0.mk (Kd.S_over' (v := (.slice (some ⟨go13, 0, none⟩) x6_1.length co14)) (by (with_reducible repeat (first | apply Kd.S_alloc | apply Kd.S_drewN | apply Kd.S_drew)); exact HO_5.out) (Kd.R_typed HO_6.out) (by decide) hg); have n1_ := Aside0.mk (hp_); have n2_ := Aside0.mk ((by rw [hw]; exact below_set (HB.out) GB13.out : Below w.heap.size w w16)); clear HO_5; clear HO_6; clear HB; have HO_5 := n0_; have HO_6 := n1_; have HB := n2_; clear n0_ n1_ n2_; clear hg hw hp_) | ((with_reducible refine gate_dst (N := 27) rfl ?_); refine Kd.R_lit (Kd.int .i64) _ 2 ?hg (N := 27) ?hd (xs := ([x16_1] : List Int)) (inner := [.int .i64 x16_1]) (ok := fun _ => True) (okp := fun _ => True) ?hr ?hp (fun _ hk => hk) trivial (Below.refl _ _) (Nat.le_refl _) (by simp) ?_; (case hd => rfl); (case hg => rfl); (case hr => first | (go_simp; done) | (go_simp; rfl)); (case hp => exact (Reps.one (show Kd.M (Kd.int .i64) _ _ _ x16_1 [.int .i64 x16_1] from rfl) (Reps.none _ _))); intro v145 w17 ho18 hb hg_ hnew_; clear hg_ hnew_; (first | rw [← Ny144.out] at ho18 | (simp only [Int.reduceToNat] at ho18; rw [← Ny144.out] at ho18)); have n0_ := Aside0.mk (Kd.S_elder' (by (with_reducible repeat (first | apply Kd.S_alloc | apply Kd.S_drewN | apply Kd.S_drew)); exact HO_5.out) (Kd.R_base ho18) hb); have n1_ := Aside0.mk (Kd.R_below (by (with_reducible repeat (first | apply Kd.R_alloc | apply Kd.R_drewN | apply Kd.R_drew)); exact HO_6.out) hb); have n2_ := Aside0.mk (Kd.R_lower ho18 (below_size (by repeat (first | (with_reducible first | exact HB.out | apply below_alloc | apply pw_below_drewN | apply below_drew1) | exact HB.out)))); have n3_ := Aside0.mk (below_step (by repeat (first | (with_reducible first | exact HB.out | apply below_alloc | apply pw_below_drewN | apply below_drew1) | exact HB.out)) hb); clear HO_5; clear HO_6; clear HB; have HO_5 := n0_; have HO_6 := n1_; have HO146 := n2_; have HB := n3_; clear n0_ n1_ n2_ n3_; clear hb ho18))
                  go_loopg [8, 9] k1 (fun kq v8 v9 w' => ∃ (x6_2 : List Bool) (x8_2 : List Int) (x9_2 : Int), v9 = .int .i64 x9_2 ∧ Aside0 (impl_orbits.l1 kq l1 x5_1 x6_2 x8_2 x9_2 a0 x16_1 = some r) ∧ Aside0 (kq ≤ k1) ∧ Aside0 (Kd.S (Kd.slice 2 (Kd.int .i64)) 47 w' w.heap.size (fun k_ => some k_ ≠ (v8 : Value).ownBlock) u5 x5_1) ∧ Aside0 (Kd.R Kd.bool 4 w' w.heap.size (fun _ => True) (.slice (some ⟨go13, 0, none⟩) x6_1.length co14) x6_2) ∧ Aside0 (Kd.R (Kd.int .i64) 2 w' w.heap.size (fun _ => True) v8 x8_2) ∧ Aside0 (Below w.heap.size w w'))
                  case atStart => exact ⟨(y143), (y144), (0), (by first | rfl | (simp; done) | (simp [*]; done)), H', ⟨Nat.le_refl _⟩, ⟨by (with_reducible repeat (first | apply Kd.S_alloc | apply Kd.S_drewN | apply Kd.S_drew)); exact Kd.S_mono HO_5.out (fun _ hk => hk.2)⟩, ⟨by (with_reducible repeat (first | apply Kd.R_alloc | apply Kd.R_drewN | apply Kd.R_drew)); exact HO_6.out⟩, ⟨by (with_reducible repeat (first | apply Kd.R_alloc | apply Kd.R_drewN | apply Kd.R_drew)); exact HO146.out⟩, ⟨by repeat (first | (with_reducible first | exact HB.out | apply below_alloc | apply pw_below_drewN | apply below_drew1) | exact HB.out)⟩⟩
                  case round =>
                    clear H'
                    try clear c1
                    try clear p1
                    try clear q1
                    try clear hx1
                    try clear p2
                    try clear c3
                    try clear c3b0
                    try clear c3b1
                    try clear c4
                    try clear c4b0
                    try clear c4b1
                    try clear p6
                    try clear c7
                    try clear c7b0
                    try clear c8
                    try clear c8b0
                    try clear c9
                    try clear c9b0
                    try clear q10
                    try clear c11
                    try clear p13
                    try clear q13
                    try clear hx13
                    try clear hf13
                    try clear p14
                    try clear q14
                    try clear hx14
                    try clear hx13_0
                    try clear hx142_0
                    try clear p13
                    try clear p142
                    try clear p2
                    try clear q13
                    try clear q142
                    obtain ⟨x6_2, x8_2, x9_2, rfl, HA, HK2, HO_5, HO_6, HO_8, HB⟩ := hrel
                    have hl6_2 := (Kd.R_reads' HO_6.out).1
                    rw [hl6_2] at HO_6
                    (try simp only [hl6_2])
                    (try simp only [hl6_2] at HO_5)
                    (try simp only [hl6_2] at HO_8)
                    cases gk with
                    | zero => exact absurd HA.out (by simp [impl_orbits.l1])
                    | succ k2 =>
                      have H := HA.out
                      clear HA
                      simp only [impl_orbits.l1] at H
                      by_cases c19 : x9_2 < (x8_2.length : Int)
                      · rw [if_pos c19] at H
                        have c19b0 : decide (x9_2 < (x8_2.length : Int)) = true := decide_eq_true c19
                        clear c19
                        have H' := Aside0.mk H
                        clear H
                        obtain ⟨Ao20, co20, eo20⟩ := Kd.R_slice HO_8.out
                        subst eo20
                        go_wp2
                        go_loopg [8, 36] k2 (fun kq v8 v36 w' => ∃ (x6_3 : List Bool) (x8_3 : List Int) (x36_3 : Int), v36 = .int .i64 x36_3 ∧ Aside0 (impl_orbits.l2 kq l1 x5_1 x6_3 x8_3 x9_2 a0 x16_1 l1 (l1.length : Int) x36_3 = some r) ∧ Aside0 (kq ≤ k2) ∧ Aside0 (Kd.S (Kd.slice 2 (Kd.int .i64)) 47 w' w.heap.size (fun k_ => some k_ ≠ (v8 : Value).ownBlock) u5 x5_1) ∧ Aside0 (Kd.R Kd.bool 4 w' w.heap.size (fun _ => True) (.slice (some ⟨go13, 0, none⟩) x6_2.length co14) x6_3) ∧ Aside0 (Kd.R (Kd.int .i64) 2 w' w.heap.size (fun _ => True) v8 x8_3) ∧ Aside0 (Below w.heap.size w w'))
                        case atStart => exact ⟨(x6_2), (x8_2), (0), (by first | rfl | (simp; done) | (simp [*]; done)), H', ⟨Nat.le_refl _⟩, ⟨by (try simp only [hl6_2]); (with_reducible repeat (first | apply Kd.S_alloc | apply Kd.S_drewN | apply Kd.S_drew)); exact HO_5.out⟩, ⟨by (try simp only [hl6_2]); (with_reducible repeat (first | apply Kd.R_alloc | apply Kd.R_drewN | apply Kd.R_drew)); exact HO_6.out⟩, ⟨by (try simp only [hl6_2]); (with_reducible repeat (first | apply Kd.R_alloc | apply Kd.R_drewN | apply Kd.R_drew)); exact HO_8.out⟩, ⟨by repeat (first | (with_reducible first | exact HB.out | apply below_alloc | apply pw_below_drewN | apply below_drew1) | exact HB.out)⟩⟩
                        case round =>
                          clear H'
                          try clear c1
                          try clear p1
                          try clear q1
                          try clear hx1
                          try clear p2
                          try clear c3
                          try clear c3b0
                          try clear c3b1
                          try clear c4
                          try clear c4b0
                          try clear c4b1
                          try clear p6
                          try clear c7
                          try clear c7b0
                          try clear c8
                          try clear c8b0
                          try clear c9
                          try clear c9b0
                          try clear q10
                          try clear c11
                          try clear p13
                          try clear q13
                          try clear hx13
                          try clear hf13
                          try clear p14
                          try clear q14
                          try clear hx14
                          try clear c19
                          try clear c19b0
                          try clear hx13_0
                          try clear hx142_0
                          try clear p1
                          try clear p13
                          try clear p14
                          try clear p142
                          try clear p2
                          try clear p6
                          try clear q1
                          try clear q10
                          try clear q13
                          try clear q14
                          try clear q142
                          obtain ⟨x6_3, x8_3, x36_3, rfl, HA, HK3, HO_5, HO_6, HO_8, HB⟩ := hrel
                          have hl6_3 := (Kd.R_reads' HO_6.out).1
                          rw [hl6_3] at HO_6
                          (try simp only [hl6_3])
                          (try simp only [hl6_3] at HO_5)
                          (try simp only [hl6_3] at HO_8)
                          cases gk with
                          | zero => exact absurd HA.out (by simp [impl_orbits.l2])
                          | succ k3 =>
                            have H := HA.out
                            clear HA
                            simp only [impl_orbits.l2] at H
                            by_cases c21 : x36_3 < (l1.length : Int)
                            · rw [if_pos c21] at H
                              have c21b0 : decide (x36_3 < (l1.length : Int)) = true := decide_eq_true c21
                              clear c21
                              by_cases c22 : 0 ≤ x36_3
                              · rw [if_pos c22] at H
                                have c22b0 : decide (0 ≤ x36_3) = true := decide_eq_true c22
                                clear c22
                                by_cases c23 : x36_3 < (l1.length : Int)
                                · rw [if_pos c23] at H
                                  have c23b0 : decide (x36_3 < (l1.length : Int)) = true := decide_eq_true c23
                                  clear c23
                                  by_cases c24 : 0 ≤ x9_2
                                  · rw [if_pos c24] at H
                                    have c24b0 : decide (0 ≤ x9_2) = true := decide_eq_true c24
                                    clear c24
                                    by_cases c25 : x9_2 < (x8_3.length : Int)
                                    · rw [if_pos c25] at H
                                      have c25b0 : decide (x9_2 < (x8_3.length : Int)) = true := decide_eq_true c25
                                      clear c25
                                      by_cases c26 : 0 ≤ (rd x8_3 x9_2)
                                      · rw [if_pos c26] at H
                                        have c26b0 : decide (0 ≤ (rd x8_3 x9_2)) = true := decide_eq_true c26
                                        clear c26
                                        by_cases c27 : (rd x8_3 x9_2) < ((rd_L1 l1 x36_3).length : Int)
                                        · rw [if_pos c27] at H
                                          have c27b0 : decide ((rd x8_3 x9_2) < ((rd_L1 l1 x36_3).length : Int)) = true := decide_eq_true c27
                                          clear c27
                                          by_cases c28 : 0 ≤ (rd (rd_L1 l1 x36_3) (rd x8_3 x9_2))
                                          · rw [if_pos c28] at H
                                            have c28b0 : decide (0 ≤ (rd (rd_L1 l1 x36_3) (rd x8_3 x9_2))) = true := decide_eq_true c28
                                            clear c28
                                            by_cases c29 : (rd (rd_L1 l1 x36_3) (rd x8_3 x9_2)) < (x6_3.length : Int)
                                            · rw [if_pos c29] at H
                                              have c29b0 : decide ((rd (rd_L1 l1 x36_3) (rd x8_3 x9_2)) < (x6_3.length : Int)) = true := decide_eq_true c29
                                              clear c29
                                              obtain ⟨bq30, hbq30⟩ : ∃ b_ : Bool, b_ = (rdOf false x6_3 (rd (rd_L1 l1 x36_3) (rd x8_3 x9_2))) := ⟨_, rfl⟩
                                              replace H : (if (bq30 = true) then (impl_orbits.l2 k3 l1 x5_1 x6_3 x8_3 x9_2 a0 x16_1 l1 (l1.length : Int) (wrap64 (x36_3 + 1))) else (if x8_3.length < 17592186044416 then (impl_orbits.l2 k3 l1 x5_1 (x6_3.set ((rd (rd_L1 l1 x36_3) (rd x8_3 x9_2)) : Int).toNat true) (x8_3 ++ [rd (rd_L1 l1 x36_3) (rd x8_3 x9_2)]) x9_2 a0 x16_1 l1 (l1.length : Int) (wrap64 (x36_3 + 1))) else (none))) = some r := by rw [← hbq30] at H; exact H
                                              have Nbq30 := Aside0.mk hbq30
                                              clear hbq30
                                              by_cases c31 : (bq30 = true)
                                              · subst c31
                                                have H1 : (impl_orbits.l2 k3 l1 x5_1 x6_3 x8_3 x9_2 a0 x16_1 l1 (l1.length : Int) (wrap64 (x36_3 + 1))) = some r := by rw [if_pos rfl] at H; exact H
                                                clear H
                                                have H := H1
                                                clear H1
                                                have H' := Aside0.mk H
                                                clear H
                                                have p151 : 0 ≤ (x36_3 : Int) := of_decide_eq_true (by first | (with_reducible assumption) | assumption)
                                                have q151 : x36_3 < (l1.length : Int) := of_decide_eq_true (by first | (with_reducible assumption) | assumption)
                                                obtain ⟨ad151, A151_0, c151_0, e151, hx151_0, hl151_0, hi151_0⟩ := at_L1 HR1.out x36_3 p151 q151
                                                cases e151
                                                replace hx151_0 := (HB.out.cell (World.block_lt_of_cell? w _ hx151_0)).trans hx151_0
                                                have HR151_0 := Aside0.mk hi151_0
                                                have HC151_0 := Aside0.mk hl151_0
                                                clear hi151_0 hl151_0
                                                replace p151 := eq_true p151
                                                replace q151 := eq_true q151
                                                obtain ⟨Ao32, co32, eo32⟩ := Kd.R_slice HO_8.out
                                                subst eo32
                                                have p152 : 0 ≤ (x9_2 : Int) := of_decide_eq_true (by first | (with_reducible assumption) | assumption)
                                                have q152 : x9_2 < (x8_3.length : Int) := of_decide_eq_true (by first | (with_reducible assumption) | assumption)
                                                obtain ⟨ad152, e152, hx152_0⟩ := Kd.at_int (Kd.R_reads' HO_8.out).2.2 x9_2 p152 q152
                                                cases e152
                                                replace p152 := eq_true p152
                                                replace q152 := eq_true q152
                                                have p153 : 0 ≤ ((rd x8_3 x9_2) : Int) := of_decide_eq_true (by first | (with_reducible assumption) | assumption)
                                                have q153 : (rd x8_3 x9_2) < ((rd_L1 l1 x36_3).length : Int) := of_decide_eq_true (by first | (with_reducible assumption) | assumption)
                                                obtain ⟨ad153, e153, hx153_0⟩ := Kd.at_int HR151_0.out (rd x8_3 x9_2) p153 q153
                                                cases e153
                                                replace hx153_0 := (HB.out.cell (World.block_lt_of_cell? w _ hx153_0)).trans hx153_0
                                                replace p153 := eq_true p153
                                                replace q153 := eq_true q153
                                                have p154 : 0 ≤ ((rd (rd_L1 l1 x36_3) (rd x8_3 x9_2)) : Int) := of_decide_eq_true (by first | (with_reducible assumption) | assumption)
                                                have q154 : (rd (rd_L1 l1 x36_3) (rd x8_3 x9_2)) < (x6_3.length : Int) := of_decide_eq_true (by first | (with_reducible assumption) | assumption)
                                                obtain ⟨ad154, e154, hx154_0⟩ := Kd.at_bool (Kd.R_reads' HO_6.out).2.2 (rd (rd_L1 l1 x36_3) (rd x8_3 x9_2)) p154 q154
                                                (try rw [← Nbq10.out] at hx154_0)
                                                (try rw [← Nbq30.out] at hx154_0)
                                                obtain rfl : (⟨go13, 0, none⟩ : Addr) = ad154 := (by injection e154)
                                                (first | simp only [add_plain] at hx154_0 | simp only [add_at] at hx154_0 | simp only [Addr.add, Nat.zero_add] at hx154_0 | skip)
                                                replace p154 := eq_true p154
                                                replace q154 := eq_true q154
                                                go_wp2
                                                (try simp only [← hl6_3])
                                                go_roundg k3
                                                case measure => have := HK1.out; have := HK2.out; have := HK3.out; omega
                                                case rel => exact ⟨(x6_3), (x8_3), (wrap64 (x36_3 + 1)), (by first | rfl | (simp; done) | (simp [*]; done)), H', ⟨by have := HK1.out; have := HK2.out; have := HK3.out; omega⟩, ⟨by (try simp only [hl6_2]); (try simp only [hl6_3]); (with_reducible repeat (first | apply Kd.S_alloc | apply Kd.S_drewN | apply Kd.S_drew)); exact HO_5.out⟩, ⟨by (try simp only [hl6_2]); (try simp only [hl6_3]); (with_reducible repeat (first | apply Kd.R_alloc | apply Kd.R_drewN | apply Kd.R_drew)); exact HO_6.out⟩, ⟨by (try simp only [hl6_2]); (try simp only [hl6_3]); (with_reducible repeat (first | apply Kd.R_alloc | apply Kd.R_drewN | apply Kd.R_drew)); exact HO_8.out⟩, ⟨by repeat (first | (with_reducible first | exact HB.out | apply below_alloc | apply pw_below_drewN | apply below_drew1) | exact HB.out)⟩⟩
                                              · replace c31 := Bool.eq_false_iff.mpr c31
                                                subst c31
                                                have H1 : (if x8_3.length < 17592186044416 then (impl_orbits.l2 k3 l1 x5_1 (x6_3.set ((rd (rd_L1 l1 x36_3) (rd x8_3 x9_2)) : Int).toNat true) (x8_3 ++ [rd (rd_L1 l1 x36_3) (rd x8_3 x9_2)]) x9_2 a0 x16_1 l1 (l1.length : Int) (wrap64 (x36_3 + 1))) else (none)) = some r := by rw [if_neg (show ¬ (false = true) by decide)] at H; exact H
                                                clear H
                                                have H := H1
                                                clear H1
                                                obtain ⟨y155, hy155⟩ : ∃ y_ : List Bool, y_ = (x6_3.set ((rd (rd_L1 l1 x36_3) (rd x8_3 x9_2)) : Int).toNat true) := ⟨_, rfl⟩
                                                replace H : (if x8_3.length < 17592186044416 then (impl_orbits.l2 k3 l1 x5_1 y155 (x8_3 ++ [rd (rd_L1 l1 x36_3) (rd x8_3 x9_2)]) x9_2 a0 x16_1 l1 (l1.length : Int) (wrap64 (x36_3 + 1))) else (none)) = some r := by first | (rw [hy155]; with_reducible exact H) | (have H2_ := (Option.bind_some _ _).symm.trans H; rw [hy155]; with_reducible exact H2_) | (have H2_ := (Option.bind_some _ _).symm.trans H; with_reducible exact H2_) | with_reducible exact H | (rw [hy155]; exact H) | exact H
                                                have Ny155 := Aside0.mk hy155
                                                clear hy155
                                                by_cases c34 : x8_3.length < 17592186044416
                                                · rw [if_pos c34] at H
                                                  have LMc34 := Aside0.mk c34
                                                  clear c34
                                                  obtain ⟨y156, hy156⟩ : ∃ y_ : List Int, y_ = (x8_3 ++ [rd (rd_L1 l1 x36_3) (rd x8_3 x9_2)]) := ⟨_, rfl⟩
                                                  replace H : (impl_orbits.l2 k3 l1 x5_1 y155 y156 x9_2 a0 x16_1 l1 (l1.length : Int) (wrap64 (x36_3 + 1))) = some r := by first | (rw [hy156]; with_reducible exact H) | (have H2_ := (Option.bind_some _ _).symm.trans H; rw [hy156]; with_reducible exact H2_) | (have H2_ := (Option.bind_some _ _).symm.trans H; with_reducible exact H2_) | with_reducible exact H | (rw [hy156]; exact H) | exact H
                                                  have Ny156 := Aside0.mk hy156
                                                  clear hy156
                                                  have H' := Aside0.mk H
                                                  clear H
                                                  have p151 : 0 ≤ (x36_3 : Int) := of_decide_eq_true (by first | (with_reducible assumption) | assumption)
                                                  have q151 : x36_3 < (l1.length : Int) := of_decide_eq_true (by first | (with_reducible assumption) | assumption)
                                                  obtain ⟨ad151, A151_0, c151_0, e151, hx151_0, hl151_0, hi151_0⟩ := at_L1 HR1.out x36_3 p151 q151
                                                  cases e151
                                                  replace hx151_0 := (HB.out.cell (World.block_lt_of_cell? w _ hx151_0)).trans hx151_0
                                                  have HR151_0 := Aside0.mk hi151_0
                                                  have HC151_0 := Aside0.mk hl151_0
                                                  clear hi151_0 hl151_0
                                                  replace p151 := eq_true p151
                                                  replace q151 := eq_true q151
                                                  obtain ⟨Ao35, co35, eo35⟩ := Kd.R_slice HO_8.out
                                                  subst eo35
                                                  have p152 : 0 ≤ (x9_2 : Int) := of_decide_eq_true (by first | (with_reducible assumption) | assumption)
                                                  have q152 : x9_2 < (x8_3.length : Int) := of_decide_eq_true (by first | (with_reducible assumption) | assumption)
                                                  obtain ⟨ad152, e152, hx152_0⟩ := Kd.at_int (Kd.R_reads' HO_8.out).2.2 x9_2 p152 q152
                                                  cases e152
                                                  replace p152 := eq_true p152
                                                  replace q152 := eq_true q152
                                                  have p153 : 0 ≤ ((rd x8_3 x9_2) : Int) := of_decide_eq_true (by first | (with_reducible assumption) | assumption)
                                                  have q153 : (rd x8_3 x9_2) < ((rd_L1 l1 x36_3).length : Int) := of_decide_eq_true (by first | (with_reducible assumption) | assumption)
                                                  obtain ⟨ad153, e153, hx153_0⟩ := Kd.at_int HR151_0.out (rd x8_3 x9_2) p153 q153
                                                  cases e153
                                                  replace hx153_0 := (HB.out.cell (World.block_lt_of_cell? w _ hx153_0)).trans hx153_0
                                                  replace p153 := eq_true p153
                                                  replace q153 := eq_true q153
                                                  have p154 : 0 ≤ ((rd (rd_L1 l1 x36_3) (rd x8_3 x9_2)) : Int) := of_decide_eq_true (by first | (with_reducible assumption) | assumption)
                                                  have q154 : (rd (rd_L1 l1 x36_3) (rd x8_3 x9_2)) < (x6_3.length : Int) := of_decide_eq_true (by first | (with_reducible assumption) | assumption)
                                                  obtain ⟨ad154, e154, hx154_0⟩ := Kd.at_bool (Kd.R_reads' HO_6.out).2.2 (rd (rd_L1 l1 x36_3) (rd x8_3 x9_2)) p154 q154
                                                  (try rw [← Nbq10.out] at hx154_0)
                                                  (try rw [← Nbq30.out] at hx154_0)
                                                  obtain rfl : (⟨go13, 0, none⟩ : Addr) = ad154 := (by injection e154)
                                                  (first | simp only [add_plain] at hx154_0 | simp only [add_at] at hx154_0 | simp only [Addr.add, Nat.zero_add] at hx154_0 | skip)
                                                  replace p154 := eq_true p154
                                                  replace q154 := eq_true q154
                                                  have p33 : 0 ≤ ((rd (rd_L1 l1 x36_3) (rd x8_3 x9_2)) : Int) := of_decide_eq_true (by first | (with_reducible assumption) | assumption)
                                                  have q33 : ((rd (rd_L1 l1 x36_3) (rd x8_3 x9_2)) : Int) < ((x6_3.length : Int) : Int) := of_decide_eq_true (by first | (with_reducible assumption) | assumption)
                                                  obtain ⟨hx33_0, hf33_0⟩ := Kd.R_celln false HO_6.out ((rd (rd_L1 l1 x36_3) (rd x8_3 x9_2)) : Int) p33 q33
                                                  replace p33 := eq_true p33
                                                  replace q33 := eq_true q33
                                                  have HP36 := Kd.R_putg HO_6.out ((rd (rd_L1 l1 x36_3) (rd x8_3 x9_2)) : Int) true
                                                  go_wp2_with (first | ((with_reducible refine gate_store (t := 4) (p := 54) rfl ?_); refine store_event (t := 4) (p := 54) (v := ?vo_w37) (w1 := (wr.setCell ⟨go13, ((rd (rd_L1 l1 x36_3) (rd x8_3 x9_2)) : Int).toNat, none⟩ (.bool true))) ?hg ?ho ?hn ?hr ?_; (case ho => rfl); (case hg => rfl); (case hn => rfl); (case hr => first | (go_simp; done) | (go_simp; rfl)); intro w37 hw; have hg : wr.grownBy w37 (some go13) := (by rw [hw]; exact HP36.2); have hp_ : Kd.R Kd.bool 4 w37 w.heap.size (fun _ => True) (.slice (some ⟨go13, 0, none⟩) x6_3.length co14) y155 := (by rw [hw, Ny155.out]; exact HP36.1); clear HP36; have n0_ := Aside0.mk (Kd.S_over' (v := (.slice (some ⟨go13, 0, none⟩) x6_3.length co14)) (by (with_reducible repeat (first | apply Kd.S_alloc | apply Kd.S_drewN | apply Kd.S_drew)); exact HO_5.out) (Kd.R_typed HO_6.out) (by decide) hg); have n1_ := Aside0.mk (hp_); have n2_ := Aside0.mk (Kd.R_over' (v := (.slice (some ⟨go13, 0, none⟩) x6_3.length co14)) (by (with_reducible repeat (first | apply Kd.R_alloc | apply Kd.R_drewN | apply Kd.R_drew)); exact HO_8.out) (Kd.R_typed HO_6.out) (by decide) hg); have n3_ := Aside0.mk ((by rw [hw]; exact below_set (HB.out) GB13.out : Below w.heap.size w w37)); clear HO_5; clear HO_6; clear HO_8; clear HB; have HO_5 := n0_; have HO_6 := n1_; have HO_8 := n2_; have HB := n3_; clear n0_ n1_ n2_ n3_; clear hg hw hp_) | ((with_reducible refine gate_builtin (b := .append) (xs := #[.tmp 55, .tmp 57]) rfl ?_); at_builtin; refine Kd.R_append (Kd.int .i64) (w0 := w) w.heap.size rfl (.tmp 55) (.tmp 57) 47 2 (.int .i64 0) 8 rfl Try.underlying47 info2 rfl (by decide) (by omega) (.slice (some ad152) x8_3.length co35) x8_3 (rd (rd_L1 l1 x36_3) (rd x8_3 x9_2)) [.int .i64 (rd (rd_L1 l1 x36_3) (rd x8_3 x9_2))] (fun _ => True) (fun _ => False) rfl rfl ?aP (fun _ hk => hk.elim) ?aF ?aO ?aB ?aS ?aL ?_; (case aP => exact rfl); (case aB => exact (by repeat (first | (with_reducible first | exact HB.out | apply below_alloc | apply pw_below_drewN | apply below_drew1) | exact HB.out))); (case aF => exact (fun _ _ => trivial)); (case aO => exact (by (with_reducible repeat (first | apply Kd.R_alloc | apply Kd.R_drewN | apply Kd.R_drew)); exact HO_8.out)); (case aS => exact (below_size (by repeat (first | (with_reducible first | exact HB.out | apply below_alloc | apply pw_below_drewN | apply below_drew1) | exact HB.out)))); (case aL => have := LMc34.out; omega); intro v157 w38 ho hb hg hat; rw [← Ny156.out] at ho; have n0_ := Aside0.mk (Kd.S_after (ok := (fun _ => True)) (by (with_reducible repeat (first | apply Kd.S_alloc | apply Kd.S_drewN | apply Kd.S_drew)); exact Kd.S_mono HO_5.out (fun _ hk => ⟨trivial, hk⟩)) hg hat); have n1_ := Aside0.mk (Kd.R_over' (by (with_reducible repeat (first | apply Kd.R_alloc | apply Kd.R_drewN | apply Kd.R_drew)); exact HO_6.out) (Kd.R_typed (by (with_reducible repeat (first | apply Kd.R_alloc | apply Kd.R_drewN | apply Kd.R_drew)); exact HO_8.out)) (by decide) hg); have n2_ := Aside0.mk (hb); have n3_ := Aside0.mk (ho); clear HO_5; clear HO_6; clear HB; clear HO_8; have HO_5 := n0_; have HO_6 := n1_; have HB := n2_; have HO158 := n3_; clear n0_ n1_ n2_ n3_; clear ho hb hg hat))
                                                  (try simp only [← hl6_3])
                                                  go_roundg k3
                                                  case measure => have := HK1.out; have := HK2.out; have := HK3.out; omega
                                                  case rel => exact ⟨(y155), (y156), (wrap64 (x36_3 + 1)), (by first | rfl | (simp; done) | (simp [*]; done)), H', ⟨by have := HK1.out; have := HK2.out; have := HK3.out; omega⟩, ⟨by (try simp only [hl6_2]); (try simp only [hl6_3]); (with_reducible repeat (first | apply Kd.S_alloc | apply Kd.S_drewN | apply Kd.S_drew)); exact Kd.S_mono HO_5.out (fun _ hk => hk.2)⟩, ⟨by (try simp only [hl6_2]); (try simp only [hl6_3]); (with_reducible repeat (first | apply Kd.R_alloc | apply Kd.R_drewN | apply Kd.R_drew)); exact HO_6.out⟩, ⟨by (try simp only [hl6_2]); (try simp only [hl6_3]); (with_reducible repeat (first | apply Kd.R_alloc | apply Kd.R_drewN | apply Kd.R_drew)); exact HO158.out⟩, ⟨by repeat (first | (with_reducible first | exact HB.out | apply below_alloc | apply pw_below_drewN | apply below_drew1) | exact HB.out)⟩⟩
                                                · rw [if_neg c34] at H
                                                  exact absurd H (by simp)
                                            · rw [if_neg c29] at H
                                              exact absurd H (by simp)
                                          · rw [if_neg c28] at H
                                            exact absurd H (by simp)
                                        · rw [if_neg c27] at H
                                          exact absurd H (by simp)
                                      · rw [if_neg c26] at H
                                        exact absurd H (by simp)
                                    · rw [if_neg c25] at H
                                      exact absurd H (by simp)
                                  · rw [if_neg c24] at H
                                    exact absurd H (by simp)
                                · rw [if_neg c23] at H
                                  exact absurd H (by simp)
                              · rw [if_neg c22] at H
                                exact absurd H (by simp)
                            · rw [if_neg c21] at H
                              have c21b0 : decide (x36_3 < (l1.length : Int)) = false := decide_eq_false c21
                              clear c21
                              have H' := Aside0.mk H
                              clear H
                              go_wp2
                              (try simp only [← hl6_2, ← hl6_3])
                              go_roundg k3
                              case measure => have := HK1.out; have := HK2.out; have := HK3.out; omega
                              case rel => exact ⟨(x6_3), (x8_3), (wrap64 (x9_2 + 1)), (by first | rfl | (simp; done) | (simp [*]; done)), H', ⟨by have := HK1.out; have := HK2.out; have := HK3.out; omega⟩, ⟨by (try simp only [hl6_2]); (try simp only [hl6_3]); (with_reducible repeat (first | apply Kd.S_alloc | apply Kd.S_drewN | apply Kd.S_drew)); exact HO_5.out⟩, ⟨by (try simp only [hl6_2]); (try simp only [hl6_3]); (with_reducible repeat (first | apply Kd.R_alloc | apply Kd.R_drewN | apply Kd.R_drew)); exact HO_6.out⟩, ⟨by (try simp only [hl6_2]); (try simp only [hl6_3]); (with_reducible repeat (first | apply Kd.R_alloc | apply Kd.R_drewN | apply Kd.R_drew)); exact HO_8.out⟩, ⟨by repeat (first | (with_reducible first | exact HB.out | apply below_alloc | apply pw_below_drewN | apply below_drew1) | exact HB.out)⟩⟩
                      · rw [if_neg c19] at H
                        have c19b0 : decide (x9_2 < (x8_2.length : Int)) = false := decide_eq_false c19
                        clear c19
                        replace H := Option.bind_eq_some_iff.mp H
                        obtain ⟨t147, A390, H⟩ := H
                        replace H : (if x5_1.length < 5864062014805 then (impl_orbits.l0 k2 l1 (x5_1 ++ [t147]) x6_2 a0 (wrap64 (x16_1 + 1))) else (none)) = some r := H
                        have A39 := Aside0.mk A390
                        clear A390
                        by_cases c40 : x5_1.length < 5864062014805
                        · rw [if_pos c40] at H
                          have LMc40 := Aside0.mk c40
                          clear c40
                          obtain ⟨y148, hy148⟩ : ∃ y_ : List (List Int), y_ = (x5_1 ++ [t147]) := ⟨_, rfl⟩
                          replace H : (impl_orbits.l0 k2 l1 y148 x6_2 a0 (wrap64 (x16_1 + 1))) = some r := by first | (rw [hy148]; with_reducible exact H) | (have H2_ := (Option.bind_some _ _).symm.trans H; rw [hy148]; with_reducible exact H2_) | (have H2_ := (Option.bind_some _ _).symm.trans H; with_reducible exact H2_) | with_reducible exact H | (rw [hy148]; exact H) | exact H
                          have Ny148 := Aside0.mk hy148
                          clear hy148
                          have H' := Aside0.mk H
                          clear H
                          obtain ⟨Ao41, co41, eo41⟩ := Kd.R_slice HO_8.out
                          subst eo41
                          go_wp2_with (first | ((with_reducible refine gate_callee (f := 103) rfl ?_); refine goesL_ (some 61) rfl rfl Try.func103 (by kernel_rfl) rfl #[.slice Ao41 x8_2.length co41] rfl (by (try simp only [List.map_toArray, List.map_cons, List.map_nil]); first | done | rfl | (simp only [List.length_drop, List.length_take]; rfl)) ?_; (with_reducible refine (slices_Sort_int64_int64.calls k2 (fun k_ => some k_ = (.slice Ao41 x8_2.length co41 : Value).ownBlock) (.slice Ao41 x8_2.length co41) x8_2 t147 w _ ?side1 ?side2 A39.out).mono ?_); (case side1 => repeat (first | (with_reducible first | exact HB.out | apply below_alloc | apply pw_below_drewN | apply below_drew1) | exact HB.out)); (case side2 => exact Kd.R_tight rfl HO_8.out); rintro e w42 ⟨rfl, hy0, hb, hkp⟩; refine ⟨_, rfl, ?_⟩; have n0_ := Aside0.mk (Kd.S_mono (ok' := fun k_ => some k_ ≠ (.slice Ao41 x8_2.length co41 : Value).ownBlock) (Kd.S_keptB (HO_5.out) hkp (fun k_ hk_ hs_ => (hk_) hs_)) (fun k_ hk_ => hk_.1)); have n1_ := Aside0.mk (Kd.R_mono (ok' := fun k_ => True) (Kd.R_keptB ((Kd.R_apart' HO_6.out (Kd.R_typed HO_8.out) (by decide))) hkp (fun k_ hk_ hs_ => (hk_.2) hs_)) (fun k_ hk_ => trivial)); have n2_ := Aside0.mk (Kd.R_reok rfl hy0 (fun k_ e_ => HO_8.out.1 k_ e_)); have n3_ := Aside0.mk (hb); clear HO_5; clear HO_6; clear HO_8; clear HB; have HO_5 := n0_; have HO_6 := n1_; have HO_8 := n2_; have HB := n3_; clear n0_ n1_ n2_ n3_; (try clear hb); (try clear hkp); (try clear hy0)) | ((with_reducible refine gate_builtin (b := .append) (xs := #[.tmp 62, .tmp 64]) rfl ?_); at_builtin; refine Kd.S_append (Kd.slice 2 (Kd.int .i64)) (w0 := w) w.heap.size rfl (.tmp 62) (.tmp 64) 22 47 (.slice none 0 0) 24 rfl Try.underlying22 info47 rfl (by decide) (by omega) u5 x5_1 t147 [.slice Ao41 x8_2.length co41] (fun _ => True) (fun k_ => some k_ = (.slice Ao41 x8_2.length co41 : Value).ownBlock) rfl rfl ?aP (fun k_ hk_ => ((Kd.R_mono (ok' := fun k_ => ((fun _ => True)) k_ ∧ some k_ ≠ (u5 : Value).ownBlock) (Kd.R_apart' (HO_8.out) (Kd.S_typed HO_5.out) (by decide)) (fun k_ hk => ⟨trivial, hk.2⟩))).1 k_ hk_.symm) ?aF ?aO ?aB ?aS ?aL ?_; (case aP => exact Kd.M_row (Kd.R_mono (Kd.R_tight rfl (Kd.R_mono (ok' := fun k_ => ((fun _ => True)) k_ ∧ some k_ ≠ (u5 : Value).ownBlock) (Kd.R_apart' (HO_8.out) (Kd.S_typed HO_5.out) (by decide)) (fun k_ hk => ⟨trivial, hk.2⟩))) (fun _ h_ => h_))); (case aB => exact (by repeat (first | (with_reducible first | exact HB.out | apply below_alloc | apply pw_below_drewN | apply below_drew1) | exact HB.out))); (case aF => exact (fun _ _ => trivial)); (case aO => exact (by (with_reducible repeat (first | apply Kd.S_alloc | apply Kd.S_drewN | apply Kd.S_drew)); exact Kd.S_mono HO_5.out (fun k_ hk => ⟨trivial, fun e_ => hk e_⟩))); (case aS => exact (below_size (by repeat (first | (with_reducible first | exact HB.out | apply below_alloc | apply pw_below_drewN | apply below_drew1) | exact HB.out)))); (case aL => have := LMc40.out; omega); intro v149 w43 ho hb hg hat; rw [← Ny148.out] at ho; have n0_ := Aside0.mk (Kd.R_over' (by (with_reducible repeat (first | apply Kd.R_alloc | apply Kd.R_drewN | apply Kd.R_drew)); exact HO_6.out) (Kd.S_typed (by (with_reducible repeat (first | apply Kd.S_alloc | apply Kd.S_drewN | apply Kd.S_drew)); exact HO_5.out)) (by decide) hg); have n1_ := Aside0.mk (hb); have n2_ := Aside0.mk (ho); clear HO_6; clear HB; clear HO_5; clear HO_8; have HO_6 := n0_; have HB := n1_; have HO150 := n2_; clear n0_ n1_ n2_; clear ho hb hg hat))
                          (try simp only [← hl6_2])
                          go_roundg k2
                          case measure => have := HK1.out; have := HK2.out; omega
                          case rel => exact ⟨(y148), (x6_2), (wrap64 (x16_1 + 1)), (by first | rfl | (simp; done) | (simp [*]; done)), H', ⟨by have := HK1.out; have := HK2.out; omega⟩, ⟨by (try simp only [hl6_2]); (with_reducible repeat (first | apply Kd.S_alloc | apply Kd.S_drewN | apply Kd.S_drew)); exact HO150.out⟩, ⟨by (try simp only [hl6_2]); (with_reducible repeat (first | apply Kd.R_alloc | apply Kd.R_drewN | apply Kd.R_drew)); exact HO_6.out⟩, ⟨by repeat (first | (with_reducible first | exact HB.out | apply below_alloc | apply pw_below_drewN | apply below_drew1) | exact HB.out)⟩⟩
                        · rw [if_neg c40] at H
                          exact absurd H (by simp)
              · rw [if_neg c9] at H
                exact absurd H (by simp)
            · rw [if_neg c8] at H
              exact absurd H (by simp)
          · rw [if_neg c7] at H
            have c7b0 : decide (x16_1 < a0) = false := decide_eq_false c7
            clear c7
            obtain rfl := Option.some.inj H
            go_wp2
            go_ret
            exact ⟨_, by first | rfl | (simp [errW_none, errW_some] <;> rfl) | (simp [*, errW_none, errW_some] <;> rfl), by (with_reducible repeat (first | apply Kd.S_alloc | apply Kd.S_drewN | apply Kd.S_drew)); exact HO_5.out, by repeat (first | (with_reducible first | exact HB.out | apply below_alloc | apply pw_below_drewN | apply below_drew1) | exact HB.out)⟩
    · rw [if_neg c4] at H
      exact absurd H (by simp)
  · rw [if_neg c3] at H
    exact absurd H (by simp)

/-! ### impl_isTransitive: function 71 -/
def impl_isTransitive.f (k : Nat) (a0 : Int) (l1 : List (List Int)) : Option (Bool) := (impl_orbits.f k a0 l1).bind fun t159 => (some ((t159.length : Int) == 1))
theorem impl_isTransitive.mono : ∀ a0 a1 k, LeO (impl_isTransitive.f k a0 a1) (impl_isTransitive.f (k + 1) a0 a1) := by
  intro a0 a1 k
  unfold impl_isTransitive.f
  repeat' first
      | (with_reducible exact impl_orbits.mono _ _ _)
      | (with_reducible exact LeO.refl _)
      | (with_reducible exact LeO.none _)
      | (with_reducible refine LeO.ite ?_ ?_)
      | (with_reducible refine LeO.bind ?_ (fun _ => ?_))
      | exact impl_orbits.mono _ _ _
      | exact LeO.none _
      | refine LeO.ite ?_ ?_
      | refine LeO.bind ?_ (fun _ => ?_)
set_option maxHeartbeats 8000000 in
set_option maxRecDepth 100000 in
theorem impl_isTransitive.calls (k : Nat) (a0 : Int) (A1 : Option Addr) (c1 : Nat) (l1 : List (List Int)) (r : Bool) (w : World) (hr1 : Kd.C (Kd.slice 2 (Kd.int .i64)) w A1 l1.length l1) (hc1 : l1.length ≤ c1) (h : impl_isTransitive.f k a0 l1 = some r) :
    Calls Try.prog 71 #[.int .i64 a0, .slice A1 l1.length c1] w fun e w' => e = .returned (.bool r) ∧ Below w.heap.size w w' := by
  have HR1 := Aside0.mk hr1
  have HC1 := Aside0.mk hc1
  clear hr1 hc1
  have HB := Aside0.mk (Below.refl w.heap.size w)
  have H : ((impl_orbits.f k a0 l1).bind fun t159 => (some ((t159.length : Int) == 1))) = some r := h
  clear h
  replace H := Option.bind_eq_some_iff.mp H
  obtain ⟨t159, A30, H⟩ := H
  replace H : (some ((t159.length : Int) == 1)) = some r := H
  have A3 := Aside0.mk A30
  clear A30
  obtain rfl := Option.some.inj H
  go_enter Try.func71, Try.ntmps71
  go_wp2_with (first | ((with_reducible refine gate_callee (f := 74) rfl ?_); refine goesL_ (some 7) rfl rfl Try.func74 (by kernel_rfl) rfl #[.int .i64 a0, .slice A1 l1.length c1] rfl (by (try simp only [List.map_toArray, List.map_cons, List.map_nil]); first | done | rfl | (simp only [List.length_drop, List.length_take]; rfl)) ?_; (with_reducible refine (impl_orbits.calls k a0 _ _ l1 t159 _ ?side1 ?side2 A3.out).mono ?_); (case side1 => repeat (first | exact HR1.out | (with_reducible refine Kd.C_alloc ?_ _) | (with_reducible refine Kd.C_drewN ?_ _) | (with_reducible refine Kd.C_drew ?_))); (case side2 => exact HC1.out); rintro e w4 ⟨v160, rfl, ho0, hb⟩; refine ⟨_, rfl, ?_⟩; have n0_ := Aside0.mk (Kd.S_lower ho0 (below_size (by repeat (first | (with_reducible first | exact HB.out | apply below_alloc | apply pw_below_drewN | apply below_drew1) | exact HB.out)))); have n1_ := Aside0.mk (below_step (by repeat (first | (with_reducible first | exact HB.out | apply below_alloc | apply pw_below_drewN | apply below_drew1) | exact HB.out)) hb); clear HB; have HO161 := n0_; have HB := n1_; clear n0_ n1_; (try clear hb); (try clear hb2); (try clear hk); (try clear hi); (try clear ho0); obtain ⟨Ao5, co5, eo5⟩ := Kd.S_slice HO161.out; subst eo5))
  go_ret
  exact ⟨by first | rfl | (simp [errW_none, errW_some] <;> rfl) | (simp [*, errW_none, errW_some] <;> rfl), by repeat (first | (with_reducible first | exact HB.out | apply below_alloc | apply pw_below_drewN | apply below_drew1) | exact HB.out)⟩

/-! ### impl_TransitiveCount: function 35 -/
def transCount.vis (k : Nat) (n : Int) (G : List (List Int)) (s : Int) : Option (Bool × Int) := (impl_isTransitive.f k n G).bind fun b => some (true, if b = true then wrap64 (s + 1) else s)
def impl_TransitiveCount.f (k : Nat) (a0_0 : Int) (l0_1 : List (List Int)) (a1 : Int) : Option (Int × Int) :=
  (impl_searchCode.f k a0_0 l0_1 a1).bind fun c => if c = 0 then (repsRun k a0_0 l0_1 a1 (transCount.vis k a1) 0).bind fun r => some (r.2, 0) else some (0, c)
theorem impl_TransitiveCount.mono : ∀ a0_0 l0_1 a1 k, LeO (impl_TransitiveCount.f k a0_0 l0_1 a1) (impl_TransitiveCount.f (k + 1) a0_0 l0_1 a1) := by
  intro a l n k
  unfold impl_TransitiveCount.f
  exact LeO.bind (impl_searchCode.mono _ _ _ _) fun _ => LeO.ite (LeO.bind (repsRun_le a l n (fun _ _ => LeO.bind (impl_isTransitive.mono _ _ _) fun _ => LeO.refl _) 0 k) fun _ => LeO.refl _) (LeO.refl _)
def J2 (N : Nat) (n : Int) (B : Nat) (s : Int) (W : World) (Pf : Nat → Prop) : Prop := W.heap[N]? = some (.cells #[.int .i64 n] 2 (0, 0)) ∧ W.heap[B]? = some (.cells #[.int .i64 s] 2 (0, 0)) ∧ ∀ k, Pf k ↔ k = N ∨ k = B
theorem J2.below {N B : Nat} {n s : Int} {W W' : World} {Pf : Nat → Prop} (h : J2 N n B s W Pf) (hb : Below W.heap.size W W') : J2 N n B s W' Pf := ⟨(hb.block _ (blk_lt h.1)).trans h.1, (hb.block _ (blk_lt h.2.1)).trans h.2.1, h.2.2⟩
set_option maxHeartbeats 8000000 in
set_option maxRecDepth 100000 in
theorem transCount_vis (k : Nat) (n : Int) (w0 : World) (N B : Nat) (hN : w0.heap.size ≤ N) (hB : w0.heap.size ≤ B) (hNB : N ≠ B) : Vis w0 75 #[.pointer (some ⟨N, 0, none⟩), .pointer (some ⟨B, 0, none⟩)] (transCount.vis k n) (J2 N n B) := by
  refine ⟨Go.Proofs.enters_of Try.func75 (by kernel_rfl) rfl, fun hJ _ hk => ⟨(hk N ((hJ.2.2 N).2 (.inl rfl))).trans hJ.1, (hk B ((hJ.2.2 B).2 (.inr rfl))).trans hJ.2.1, hJ.2.2⟩, fun hJ k hk => ?_, ?_⟩
  · rcases (hJ.2.2 k).1 hk with rfl | rfl
    · exact ⟨hN, blk_lt hJ.1⟩
    · exact ⟨hB, blk_lt hJ.2.1⟩
  intro W s s' Pf A c images b hBW hJ hr hc h
  obtain ⟨q, hq, h⟩ := Option.bind_eq_some_iff.mp h
  obtain ⟨rfl, rfl⟩ := Prod.mk.inj (Option.some.inj h)
  have hC := impl_isTransitive.calls k n A c images q W hr hc hq
  have hc0 : W.cell? ⟨N, 0, none⟩ = some (.int .i64 n) := (blk_cell hJ.1 0).trans rfl
  have HJ := Aside0.mk hJ
  have HBW := Aside0.mk hBW
  have HBB := Aside0.mk hB
  have HNB := Aside0.mk hNB
  clear h hJ hBW hB hr hc hq hN hNB
  show Calls Try.prog 75 #[.slice A images.length c, .pointer (some ⟨N, 0, none⟩), .pointer (some ⟨B, 0, none⟩)] W _
  cases q with
  | true =>
    go_enter Try.func75, Try.ntmps75
    go_wp2_with (go_at_call 71; (with_reducible refine hC.mono ?_); rintro e w1 ⟨rfl, hb1⟩; have HJ1 := Aside0.mk (HJ.out.below hb1); have HB1 := Aside0.mk hb1; have hc1 : w1.cell? ⟨B, 0, none⟩ = some (.int .i64 s) := (blk_cell HJ1.out.2.1 0).trans rfl; have hf1 := blk_frozen HJ1.out.2.1 0; clear hb1 hc0)
    go_ret
    refine ⟨rfl, Pf, ⟨?_, (blk_set HJ1.out.2.1 0 _).trans rfl, HJ.out.2.2⟩, below_set (below_then HBW.out (below_size HBW.out) HB1.out) HBB.out, ⟨by have := below_size HB1.out; simpa [World.setCell] using this, fun k hk hp => (Below.heap_setCell _ _ _ k (fun he => hp ((HJ.out.2.2 k).2 (.inr he)))).trans (HB1.out.block k hk)⟩, fun k hk => .inl hk⟩
    exact blk_far (p := ⟨B, 0, none⟩) HJ1.out.1 HNB.out _
  | false =>
    go_enter Try.func75, Try.ntmps75
    go_wp2_with (go_at_call 71; (with_reducible refine hC.mono ?_); rintro e w1 ⟨rfl, hb1⟩; have HJ1 := Aside0.mk (HJ.out.below hb1); have HB1 := Aside0.mk hb1; clear hb1 hc0)
    go_ret
    exact ⟨rfl, Pf, HJ1.out, below_then HBW.out (below_size HBW.out) HB1.out, ⟨below_size HB1.out, fun k hk _ => HB1.out.block k hk⟩, fun k hk => .inl hk⟩
def transW (w : World) (g n : Int) (pr : Value) : World := (w.alloc (.cells #[.int .i64 g, pr] 28)).alloc (.cells #[.int .i64 n] 2)
theorem transW_facts (w : World) (g n : Int) (pr : Value) : (transW w g n pr).heap[w.heap.size]? = some (.cells #[.int .i64 g, pr] 28 (0, 0)) ∧ (transW w g n pr).heap[w.heap.size + 1]? = some (.cells #[.int .i64 n] 2 (0, 0)) ∧ Below w.heap.size w (transW w g n pr) := by
  have h1 := heap_alloc_new w (.cells #[.int .i64 g, pr] 28)
  have h2 := heap_alloc_new (w.alloc (.cells #[.int .i64 g, pr] 28)) (.cells #[.int .i64 n] 2)
  have s1 : (w.alloc (.cells #[.int .i64 g, pr] 28)).heap.size = w.heap.size + 1 := by simp
  rw [s1] at h2
  exact ⟨blk_alloc h1 _, h2, below_alloc (below_alloc (Below.refl _ _) _) _⟩
set_option maxHeartbeats 8000000 in
set_option maxRecDepth 100000 in
theorem impl_TransitiveCount.calls (k : Nat) (a0_0 : Int) (A0_1 : Option Addr) (c0_1 : Nat) (l0_1 : List (List Int)) (a1 : Int) (r1 : Int) (r2 : Int) (w : World) (hr0_1 : Kd.C (Kd.slice 2 (Kd.int .i64)) w A0_1 l0_1.length l0_1) (hc0_1 : l0_1.length ≤ c0_1) (h : impl_TransitiveCount.f k a0_0 l0_1 a1 = some (r1, r2)) :
    Calls Try.prog 35 #[.agg #[.int .i64 a0_0, .slice A0_1 l0_1.length c0_1], .int .i64 a1] w fun e w' => e = .returned (.tuple #[.int .i64 r1, .int .i64 r2]) ∧ Below w.heap.size w w' := by
  unfold impl_TransitiveCount.f at h
  obtain ⟨cd, h1, h⟩ := Option.bind_eq_some_iff.mp h
  have P1 := Aside0.mk fun (W : World) (hW : Below w.heap.size w W) => impl_searchCode.calls k a0_0 A0_1 c0_1 l0_1 a1 cd W (Kd.C_below hr0_1 hW) hc0_1 h1
  obtain ⟨W1, hW1⟩ : ∃ W1, W1 = transW w a0_0 a1 (.slice A0_1 l0_1.length c0_1) := ⟨_, rfl⟩
  have HB1 := Aside0.mk (show Below w.heap.size w W1 by rw [hW1]; exact (transW_facts w _ _ _).2.2)
  have HP1 := Aside0.mk (show W1.heap[w.heap.size]? = some (.cells #[.int .i64 a0_0, .slice A0_1 l0_1.length c0_1] 28 (0, 0)) by rw [hW1]; exact (transW_facts w _ _ _).1)
  have HN1 := Aside0.mk (show W1.heap[w.heap.size + 1]? = some (.cells #[.int .i64 a1] 2 (0, 0)) by rw [hW1]; exact (transW_facts w _ _ _).2.1)
  have hc1 : W1.cell? ⟨w.heap.size, 0, none⟩ = some (.int .i64 a0_0) := (blk_cell HP1.out 0).trans rfl
  have hc2 : W1.cell? ⟨w.heap.size, 1, none⟩ = some (.slice A0_1 l0_1.length c0_1) := (blk_cell HP1.out 1).trans rfl
  have hc3 : W1.cell? ⟨w.heap.size + 1, 0, none⟩ = some (.int .i64 a1) := (blk_cell HN1.out 0).trans rfl
  by_cases hcd : cd = 0
  · rw [if_pos hcd] at h
    subst hcd
    obtain ⟨⟨b, s'⟩, h2, h⟩ := Option.bind_eq_some_iff.mp h
    obtain ⟨rfl, rfl⟩ := Prod.mk.inj (Option.some.inj h)
    have P2 := Aside0.mk fun (W : World) (N B : Nat) (hW : Below w.heap.size w W) (hN : w.heap.size ≤ N) (hB : w.heap.size ≤ B) (hNB : N ≠ B) (hn : W.heap[N]? = some (.cells #[.int .i64 a1] 2 (0, 0))) (hb : W.heap[B]? = some (.cells #[.int .i64 0] 2 (0, 0))) => impl_representations.run (transCount_vis k a1 w N B hN hB hNB) k a0_0 a1 A0_1 c0_1 l0_1 0 s' b (fun k => k = N ∨ k = B) W hW ⟨hn, hb, fun _ => Iff.rfl⟩ hr0_1 hc0_1 h2
    clear h h1 h2 hr0_1 hc0_1
    go_enter Try.func35, Try.ntmps35
    go_upto_region 1 with (fail)
    change Code.wp Try.prog _ _ _ (transW w a0_0 a1 (.slice A0_1 l0_1.length c0_1))
    rw [← hW1]
    clear hW1
    go_upto_region 5 with (go_at_call 45; refine (P1.out _ HB1.out).mono ?_; rintro e w2 ⟨rfl, hb2⟩; have HB2 := Aside0.mk (below_then HB1.out (below_size HB1.out) hb2); have HP2 := Aside0.mk ((hb2.block _ (blk_lt HP1.out)).trans HP1.out); have HN2 := Aside0.mk ((hb2.block _ (blk_lt HN1.out)).trans HN1.out); clear hb2 hc1 hc2 hc3 P1)
    obtain ⟨B, hB⟩ : ∃ B, B = w2.heap.size := ⟨_, rfl⟩
    have HB3 := Aside0.mk (below_alloc HB2.out (.cells #[.int .i64 0] 2))
    have HP3 := Aside0.mk (blk_alloc HP2.out (.cells #[.int .i64 0] 2))
    have HN3 := Aside0.mk (blk_alloc HN2.out (.cells #[.int .i64 0] 2))
    have HC3 := Aside0.mk (heap_alloc_new w2 (.cells #[.int .i64 0] 2))
    have HLE := Aside0.mk (below_size HB2.out)
    have HNL := Aside0.mk (show w.heap.size + 1 ≠ B by have := blk_lt HN2.out; omega)
    rw [← hB] at HC3 HLE ⊢
    clear hB HP2 HB2 HN2
    generalize w2.alloc (.cells #[.int .i64 0] 2) = W3 at *
    have hc1 : W3.cell? ⟨w.heap.size, 0, none⟩ = some (.int .i64 a0_0) := (blk_cell HP3.out 0).trans rfl
    have hc2 : W3.cell? ⟨w.heap.size, 1, none⟩ = some (.slice A0_1 l0_1.length c0_1) := (blk_cell HP3.out 1).trans rfl
    have hc3 : W3.cell? ⟨w.heap.size + 1, 0, none⟩ = some (.int .i64 a1) := (blk_cell HN3.out 0).trans rfl
    go_wp2_with (go_at_call 46; refine (P2.out _ (w.heap.size + 1) B HB3.out (Nat.le_succ _) HLE.out HNL.out HN3.out HC3.out).mono ?_; rintro e w4 ⟨rfl, Pf', J4, HB4⟩; have HB5 := Aside0.mk HB4; have hc4 : w4.cell? ⟨B, 0, none⟩ = some (.int .i64 s') := (blk_cell J4.2.1 0).trans rfl; clear J4 HB4 hc1 hc2 hc3)
    go_ret2
    exact ⟨rfl, HB5.out⟩
  · rw [if_neg hcd] at h
    obtain ⟨rfl, rfl⟩ := Prod.mk.inj (Option.some.inj h)
    have hne : (cd == 0) = false := beq_eq_false_iff_ne.2 hcd
    clear h h1 hr0_1 hc0_1
    go_enter Try.func35, Try.ntmps35
    go_upto_region 1 with (fail)
    change Code.wp Try.prog _ _ _ (transW w a0_0 a1 (.slice A0_1 l0_1.length c0_1))
    rw [← hW1]
    clear hW1
    go_wp2_with (go_at_call 45; refine (P1.out _ HB1.out).mono ?_; rintro e w2 ⟨rfl, hb2⟩; have HB2 := Aside0.mk (below_then HB1.out (below_size HB1.out) hb2); clear hb2 hc1 hc2 hc3 P1)
    go_ret2
    exact ⟨rfl, HB2.out⟩

/-! ### impl_SubgroupCount: function 37 -/
def impl_SubgroupCount.f (k : Nat) (a0_0 : Int) (l0_1 : List (List Int)) (a1 : Int) : Option (Int × Int) := (impl_TransitiveCount.f k a0_0 l0_1 a1).bind fun bt163 => (if bt163.2 = 0 then ((impl_factorial.f k (wrap64 (a1 - 1))).bind fun t165 => (if t165 = 0 then (none) else (some (wrap64 (Int.tdiv bt163.1 t165), 0)))) else (some (0, bt163.2)))
theorem impl_SubgroupCount.mono : ∀ a0 a1 a2 k, LeO (impl_SubgroupCount.f k a0 a1 a2) (impl_SubgroupCount.f (k + 1) a0 a1 a2) := by
  intro a0 a1 a2 k
  unfold impl_SubgroupCount.f
  repeat' first
      | (with_reducible exact impl_TransitiveCount.mono _ _ _ _)
      | (with_reducible exact impl_factorial.mono _ _)
      | (with_reducible exact LeO.refl _)
      | (with_reducible exact LeO.none _)
      | (with_reducible refine LeO.ite ?_ ?_)
      | (with_reducible refine LeO.bind ?_ (fun _ => ?_))
      | exact impl_TransitiveCount.mono _ _ _ _
      | exact impl_factorial.mono _ _
      | exact LeO.none _
      | refine LeO.ite ?_ ?_
      | refine LeO.bind ?_ (fun _ => ?_)
set_option maxHeartbeats 8000000 in
set_option maxRecDepth 100000 in
theorem impl_SubgroupCount.calls (k : Nat) (a0_0 : Int) (A0_1 : Option Addr) (c0_1 : Nat) (l0_1 : List (List Int)) (a1 : Int) (r1 : Int) (r2 : Int) (w : World) (hr0_1 : Kd.C (Kd.slice 2 (Kd.int .i64)) w A0_1 l0_1.length l0_1) (hc0_1 : l0_1.length ≤ c0_1) (h : impl_SubgroupCount.f k a0_0 l0_1 a1 = some (r1, r2)) :
    Calls Try.prog 37 #[.agg #[.int .i64 a0_0, .slice A0_1 l0_1.length c0_1], .int .i64 a1] w fun e w' => e = .returned (.tuple #[.int .i64 r1, .int .i64 r2]) ∧ Below w.heap.size w w' := by
  have hu28 := Try.underlying28
  have HR0_1 := Aside0.mk hr0_1
  have HC0_1 := Aside0.mk hc0_1
  clear hr0_1 hc0_1
  have HB := Aside0.mk (Below.refl w.heap.size w)
  have H : ((impl_TransitiveCount.f k a0_0 l0_1 a1).bind fun bt163 => (if bt163.2 = 0 then ((impl_factorial.f k (wrap64 (a1 - 1))).bind fun t165 => (if t165 = 0 then (none) else (some (wrap64 (Int.tdiv bt163.1 t165), 0)))) else (some (0, bt163.2)))) = some (r1, r2) := h
  clear h
  replace H := Option.bind_eq_some_iff.mp H
  obtain ⟨⟨t163, t164⟩, A30, H⟩ := H
  replace H : (if t164 = 0 then ((impl_factorial.f k (wrap64 (a1 - 1))).bind fun t165 => (if t165 = 0 then (none) else (some (wrap64 (Int.tdiv t163 t165), 0)))) else (some (0, t164))) = some (r1, r2) := H
  have A3 := Aside0.mk A30
  clear A30
  by_cases c4 : t164 = 0
  · rw [if_pos c4] at H
    have c4b0 : (t164 == 0) = true := beq_iff_eq.mpr c4
    have c4b1 : (t164 != 0) = false := bne_eq_false_iff_eq.mpr c4
    clear c4
    replace H := Option.bind_eq_some_iff.mp H
    obtain ⟨t165, A50, H⟩ := H
    replace H : (if t165 = 0 then (none) else (some (wrap64 (Int.tdiv t163 t165), 0))) = some (r1, r2) := H
    have A5 := Aside0.mk A50
    clear A50
    by_cases c6 : t165 = 0
    · rw [if_pos c6] at H
      exact absurd H (by simp)
    · rw [if_neg c6] at H
      have c6b0 : (t165 == 0) = false := beq_eq_false_iff_ne.mpr c6
      have c6b1 : (t165 != 0) = true := bne_iff_ne.mpr c6
      simp only [Option.some.injEq, Prod.mk.injEq] at H
      obtain ⟨rfl, rfl⟩ := H
      go_enter Try.func37, Try.ntmps37
      go_wp2_with (first | ((with_reducible refine gate_dst (N := 2) rfl ?_); refine box_event ?hg (N := 2) ?hd (cs := #[.int .i64 a0_0, .slice A0_1 l0_1.length c0_1]) (t := 28) ?hr ?_; (case hd => rfl); (case hg => rfl); (case hr => first | (go_simp; done) | (go_simp; rfl)); intro gb162 hg w7 hbox hb; have n0_ := Aside0.mk (below_step (by repeat (first | (with_reducible first | exact HB.out | apply below_alloc | apply pw_below_drewN | apply below_drew1) | exact HB.out)) hb); have n1_ := Aside0.mk (hbox); have n2_ := Aside0.mk ((by rw [hg]; exact (below_size (by repeat (first | (with_reducible first | exact HB.out | apply below_alloc | apply pw_below_drewN | apply below_drew1) | exact HB.out))) : w.heap.size ≤ gb162)); have n3_ := Aside0.mk ((by rw [hg]; exact (below_size (by repeat (first | (with_reducible first | exact HB.out | apply below_alloc | apply pw_below_drewN | apply below_drew1) | exact HB.out))) : w.heap.size ≤ gb162)); clear HB; have HB := n0_; have BK162 := n1_; have GW162 := n2_; have GE162 := n3_; clear n0_ n1_ n2_ n3_; clear hb hbox hg; have hcz8_0 : w7.cell? ⟨gb162, 0, none⟩ = some (.int .i64 a0_0) := (blk_cell BK162.out 0).trans rfl; have hcz8_1 : w7.cell? ⟨gb162, 1, none⟩ = some (.slice A0_1 l0_1.length c0_1) := (blk_cell BK162.out 1).trans rfl; have hfz8_0 := blk_frozen BK162.out 0; have hfz8_1 := blk_frozen BK162.out 1) | ((with_reducible refine gate_callee (f := 35) rfl ?_); refine goesL_ (some 11) rfl rfl Try.func35 (by kernel_rfl) rfl #[.agg #[.int .i64 a0_0, .slice A0_1 l0_1.length c0_1], .int .i64 a1] rfl (by (try simp only [List.map_toArray, List.map_cons, List.map_nil]); first | done | rfl | (simp only [List.length_drop, List.length_take]; rfl)) ?_; (with_reducible refine (impl_TransitiveCount.calls k a0_0 _ _ l0_1 a1 t163 t164 _ ?side1 ?side2 A3.out).mono ?_); (case side1 => repeat (first | exact (Kd.C_below HR0_1.out HB.out) | (with_reducible refine Kd.C_alloc ?_ _) | (with_reducible refine Kd.C_drewN ?_ _) | (with_reducible refine Kd.C_drew ?_))); (case side2 => exact HC0_1.out); rintro e w9 ⟨rfl, hb⟩; refine ⟨_, rfl, ?_⟩; have n0_ := Aside0.mk (blk_below (g := gb162) (o := .cells #[.int .i64 a0_0, .slice A0_1 l0_1.length c0_1] 28 (0, 0)) (by (with_reducible repeat (first | refine blk_drewN ?_ _ | refine blk_drew ?_ | refine blk_alloc ?_ _)); exact BK162.out) hb); have n1_ := Aside0.mk (below_step (by repeat (first | (with_reducible first | exact HB.out | apply below_alloc | apply pw_below_drewN | apply below_drew1 | refine below_set ?_ GE162.out) | exact HB.out)) hb); clear BK162; clear HB; have BK162 := n0_; have HB := n1_; clear n0_ n1_; (try clear hb); (try clear hb2); (try clear hk); (try clear hi)) | ((with_reducible refine gate_callee (f := 76) rfl ?_); refine goesL_ (some 20) rfl rfl Try.func76 (by kernel_rfl) rfl #[.int .i64 (wrap64 (a1 - 1))] rfl (by (try simp only [List.map_toArray, List.map_cons, List.map_nil]); first | done | rfl | (simp only [List.length_drop, List.length_take]; rfl)) ?_; (with_reducible refine (impl_factorial.calls k (wrap64 (a1 - 1)) t165 _ A5.out).mono ?_); rintro e w' ⟨rfl, ⟨nd, rfl⟩⟩; refine ⟨_, rfl, ?_⟩))
      go_ret2
      exact ⟨by first | rfl | (simp [errW_none, errW_some] <;> rfl) | (simp [*, errW_none, errW_some] <;> rfl), by repeat (first | (with_reducible first | exact HB.out | apply below_alloc | apply pw_below_drewN | apply below_drew1 | refine below_set ?_ GE162.out) | exact HB.out)⟩
  · rw [if_neg c4] at H
    have c4b0 : (t164 == 0) = false := beq_eq_false_iff_ne.mpr c4
    have c4b1 : (t164 != 0) = true := bne_iff_ne.mpr c4
    simp only [Option.some.injEq, Prod.mk.injEq] at H
    obtain ⟨rfl, rfl⟩ := H
    go_enter Try.func37, Try.ntmps37
    go_wp2_with (first | ((with_reducible refine gate_dst (N := 2) rfl ?_); refine box_event ?hg (N := 2) ?hd (cs := #[.int .i64 a0_0, .slice A0_1 l0_1.length c0_1]) (t := 28) ?hr ?_; (case hd => rfl); (case hg => rfl); (case hr => first | (go_simp; done) | (go_simp; rfl)); intro gb162 hg w10 hbox hb; have n0_ := Aside0.mk (below_step (by repeat (first | (with_reducible first | exact HB.out | apply below_alloc | apply pw_below_drewN | apply below_drew1) | exact HB.out)) hb); have n1_ := Aside0.mk (hbox); have n2_ := Aside0.mk ((by rw [hg]; exact (below_size (by repeat (first | (with_reducible first | exact HB.out | apply below_alloc | apply pw_below_drewN | apply below_drew1) | exact HB.out))) : w.heap.size ≤ gb162)); have n3_ := Aside0.mk ((by rw [hg]; exact (below_size (by repeat (first | (with_reducible first | exact HB.out | apply below_alloc | apply pw_below_drewN | apply below_drew1) | exact HB.out))) : w.heap.size ≤ gb162)); clear HB; have HB := n0_; have BK162 := n1_; have GW162 := n2_; have GE162 := n3_; clear n0_ n1_ n2_ n3_; clear hb hbox hg; have hcz11_0 : w10.cell? ⟨gb162, 0, none⟩ = some (.int .i64 a0_0) := (blk_cell BK162.out 0).trans rfl; have hcz11_1 : w10.cell? ⟨gb162, 1, none⟩ = some (.slice A0_1 l0_1.length c0_1) := (blk_cell BK162.out 1).trans rfl; have hfz11_0 := blk_frozen BK162.out 0; have hfz11_1 := blk_frozen BK162.out 1) | ((with_reducible refine gate_callee (f := 35) rfl ?_); refine goesL_ (some 11) rfl rfl Try.func35 (by kernel_rfl) rfl #[.agg #[.int .i64 a0_0, .slice A0_1 l0_1.length c0_1], .int .i64 a1] rfl (by (try simp only [List.map_toArray, List.map_cons, List.map_nil]); first | done | rfl | (simp only [List.length_drop, List.length_take]; rfl)) ?_; (with_reducible refine (impl_TransitiveCount.calls k a0_0 _ _ l0_1 a1 t163 t164 _ ?side1 ?side2 A3.out).mono ?_); (case side1 => repeat (first | exact (Kd.C_below HR0_1.out HB.out) | (with_reducible refine Kd.C_alloc ?_ _) | (with_reducible refine Kd.C_drewN ?_ _) | (with_reducible refine Kd.C_drew ?_))); (case side2 => exact HC0_1.out); rintro e w12 ⟨rfl, hb⟩; refine ⟨_, rfl, ?_⟩; have n0_ := Aside0.mk (blk_below (g := gb162) (o := .cells #[.int .i64 a0_0, .slice A0_1 l0_1.length c0_1] 28 (0, 0)) (by (with_reducible repeat (first | refine blk_drewN ?_ _ | refine blk_drew ?_ | refine blk_alloc ?_ _)); exact BK162.out) hb); have n1_ := Aside0.mk (below_step (by repeat (first | (with_reducible first | exact HB.out | apply below_alloc | apply pw_below_drewN | apply below_drew1 | refine below_set ?_ GE162.out) | exact HB.out)) hb); clear BK162; clear HB; have BK162 := n0_; have HB := n1_; clear n0_ n1_; (try clear hb); (try clear hb2); (try clear hk); (try clear hi)))
    go_ret2
    exact ⟨by first | rfl | (simp [errW_none, errW_some] <;> rfl) | (simp [*, errW_none, errW_some] <;> rfl), by repeat (first | (with_reducible first | exact HB.out | apply below_alloc | apply pw_below_drewN | apply below_drew1 | refine below_set ?_ GE162.out) | exact HB.out)⟩

end Go.Proofs.Ytinpfomadogadaa.PFnSubgroups
