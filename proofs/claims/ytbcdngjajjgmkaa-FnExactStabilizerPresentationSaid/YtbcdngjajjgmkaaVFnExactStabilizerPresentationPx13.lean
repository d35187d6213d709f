/- Written by this session's program out of the kit's print and this session's contracts. -/
import Derived.Test.YtbcdngjajjgmkaaVFnExactStabilizerPresentationPx0
import Derived.Test.YtbcdngjajjgmkaaVFnExactStabilizerPresentationPx10
import Derived.Test.YtbcdngjajjgmkaaVFnExactStabilizerPresentationPx12
namespace Go.Proofs.Ytbcdngjajjgmkaa.PFnExactStabilizerPresentation
open Go.RowKit Go.Proofs.YtbcdngjajjgmkaaW.PrintWords Go.Proofs.YtbcdngjajjgmkaaW.PrintLast Go.Proofs.YtbcdngjajjgmkaaW.PrintMore
attribute [local go_sem] max2_int min2_int max_two min_two max_three min_three max_four min_four   -- for this text's walks alone
set_option linter.unusedVariables false
set_option linter.unusedSimpArgs false

/-! ### impl_orbits: function 90 -/
mutual
def impl_orbits.l0 : Nat → List (List Int) → List (List Int) → List Bool → Int → Int → Option ((List (List Int)))
 | 0, _, _, _, _, _ => none
 | k + 1, x1, x5, x6, x15, x16 => if x16 < x15 then (if 0 ≤ x16 then (if x16 < (x6.length : Int) then (if rdOf false x6 x16 = true then (impl_orbits.l0 k x1 x5 x6 x15 (wrap64 (x16 + 1))) else (impl_orbits.l1 k x1 x5 (x6.set (x16 : Int).toNat true) (([x16] : List Int)) 0 x15 x16)) else (none)) else (none)) else (some x5)
def impl_orbits.l1 : Nat → List (List Int) → List (List Int) → List Bool → List Int → Int → Int → Int → Option ((List (List Int)))
 | 0, _, _, _, _, _, _, _ => none
 | k + 1, x1, x5, x6, x8, x9, x15, x16 => if x9 < (x8.length : Int) then (impl_orbits.l2 k x1 x5 x6 x8 x9 x15 x16 x1 (x1.length : Int) 0) else ((slices_Sort_int64_int64.f k x8).bind fun t325 => (if x5.length < 5864062014805 then (impl_orbits.l0 k x1 (x5 ++ [t325]) x6 x15 (wrap64 (x16 + 1))) else (none)))
def impl_orbits.l2 : Nat → List (List Int) → List (List Int) → List Bool → List Int → Int → Int → Int → List (List Int) → Int → Int → Option ((List (List Int)))
 | 0, _, _, _, _, _, _, _, _, _, _ => none
 | k + 1, x1, x5, x6, x8, x9, x15, x16, x34, x35, x36 => if x36 < x35 then (if 0 ≤ x36 then (if x36 < (x34.length : Int) then (if 0 ≤ x9 then (if x9 < (x8.length : Int) then (if 0 ≤ (rd x8 x9) then (if (rd x8 x9) < ((rd_L1 x34 x36).length : Int) then (if 0 ≤ (rd (rd_L1 x34 x36) (rd x8 x9)) then (if (rd (rd_L1 x34 x36) (rd x8 x9)) < (x6.length : Int) then (if (rdOf false x6 (rd (rd_L1 x34 x36) (rd x8 x9)) = true) then (impl_orbits.l2 k x1 x5 x6 x8 x9 x15 x16 x34 x35 (wrap64 (x36 + 1))) else (if x8.length < 17592186044416 then (impl_orbits.l2 k x1 x5 (x6.set ((rd (rd_L1 x34 x36) (rd x8 x9)) : Int).toNat true) (x8 ++ [rd (rd_L1 x34 x36) (rd x8 x9)]) x9 x15 x16 x34 x35 (wrap64 (x36 + 1))) else (none))) else (none)) else (none)) else (none)) else (none)) else (none)) else (none)) else (none)) else (none)) else (impl_orbits.l1 k x1 x5 x6 x8 (wrap64 (x9 + 1)) x15 x16)
end
def impl_orbits.f (k : Nat) (a0 : Int) (l1 : List (List Int)) : Option ((List (List Int))) := if 0 ≤ a0 then (if (a0 : Int).toNat ≤ 281474976710656 then (impl_orbits.l0 k l1 ([] : List (List Int)) (List.replicate (a0 : Int).toNat false) a0 0) else (none)) else (none)
theorem impl_orbits.mono_l : ∀ k, (∀ y0 y1 y2 y3 y4, LeO (impl_orbits.l0 k y0 y1 y2 y3 y4) (impl_orbits.l0 (k + 1) y0 y1 y2 y3 y4)) ∧ (∀ y0 y1 y2 y3 y4 y5 y6, LeO (impl_orbits.l1 k y0 y1 y2 y3 y4 y5 y6) (impl_orbits.l1 (k + 1) y0 y1 y2 y3 y4 y5 y6)) ∧ (∀ y0 y1 y2 y3 y4 y5 y6 y7 y8 y9, LeO (impl_orbits.l2 k y0 y1 y2 y3 y4 y5 y6 y7 y8 y9) (impl_orbits.l2 (k + 1) y0 y1 y2 y3 y4 y5 y6 y7 y8 y9))
 | 0 => ⟨fun _ _ _ _ _ r h => by simp [impl_orbits.l0] at h, fun _ _ _ _ _ _ _ r h => by simp [impl_orbits.l1] at h, fun _ _ _ _ _ _ _ _ _ _ r h => by simp [impl_orbits.l2] at h⟩
 | k + 1 => by
  obtain ⟨ih0, ih1, ih2⟩ := impl_orbits.mono_l k
  refine ⟨?_, ?_, ?_⟩
  ·intro y0 y1 y2 y3 y4
   unfold impl_orbits.l0
   repeat' first
   | (with_reducible exact ih0 _ _ _ _ _)
   | (with_reducible exact ih1 _ _ _ _ _ _ _)
   | (with_reducible exact ih2 _ _ _ _ _ _ _ _ _ _)
   | (with_reducible exact slices_Sort_int64_int64.mono _ _)
   | (with_reducible exact LeO.refl _)
   | (with_reducible exact LeO.none _)
   | (with_reducible refine LeO.ite ?_ ?_)
   | (with_reducible refine LeO.bind ?_ (fun _ => ?_))
   | exact ih0 _ _ _ _ _
   | exact ih1 _ _ _ _ _ _ _
   | exact ih2 _ _ _ _ _ _ _ _ _ _
   | exact slices_Sort_int64_int64.mono _ _
   | exact LeO.none _
   | refine LeO.ite ?_ ?_
   | refine LeO.bind ?_ (fun _ => ?_)
  ·intro y0 y1 y2 y3 y4 y5 y6
   unfold impl_orbits.l1
   repeat' first
   | (with_reducible exact ih0 _ _ _ _ _)
   | (with_reducible exact ih1 _ _ _ _ _ _ _)
   | (with_reducible exact ih2 _ _ _ _ _ _ _ _ _ _)
   | (with_reducible exact slices_Sort_int64_int64.mono _ _)
   | (with_reducible exact LeO.refl _)
   | (with_reducible exact LeO.none _)
   | (with_reducible refine LeO.ite ?_ ?_)
   | (with_reducible refine LeO.bind ?_ (fun _ => ?_))
   | exact ih0 _ _ _ _ _
   | exact ih1 _ _ _ _ _ _ _
   | exact ih2 _ _ _ _ _ _ _ _ _ _
   | exact slices_Sort_int64_int64.mono _ _
   | exact LeO.none _
   | refine LeO.ite ?_ ?_
   | refine LeO.bind ?_ (fun _ => ?_)
  ·intro y0 y1 y2 y3 y4 y5 y6 y7 y8 y9
   unfold impl_orbits.l2
   repeat' first
   | (with_reducible exact ih0 _ _ _ _ _)
   | (with_reducible exact ih1 _ _ _ _ _ _ _)
   | (with_reducible exact ih2 _ _ _ _ _ _ _ _ _ _)
   | (with_reducible exact slices_Sort_int64_int64.mono _ _)
   | (with_reducible exact LeO.refl _)
   | (with_reducible exact LeO.none _)
   | (with_reducible refine LeO.ite ?_ ?_)
   | (with_reducible refine LeO.bind ?_ (fun _ => ?_))
   | exact ih0 _ _ _ _ _
   | exact ih1 _ _ _ _ _ _ _
   | exact ih2 _ _ _ _ _ _ _ _ _ _
   | exact slices_Sort_int64_int64.mono _ _
   | exact LeO.none _
   | refine LeO.ite ?_ ?_
   | refine LeO.bind ?_ (fun _ => ?_)
theorem impl_orbits.mono : ∀ a0 a1 k, LeO (impl_orbits.f k a0 a1) (impl_orbits.f (k + 1) a0 a1) := by
 intro a0 a1 k
 obtain ⟨ih0, ih1, ih2⟩ := impl_orbits.mono_l k
 unfold impl_orbits.f
 repeat' first
   | (with_reducible exact ih0 _ _ _ _ _)
   | (with_reducible exact ih1 _ _ _ _ _ _ _)
   | (with_reducible exact ih2 _ _ _ _ _ _ _ _ _ _)
   | (with_reducible exact slices_Sort_int64_int64.mono _ _)
   | (with_reducible exact LeO.refl _)
   | (with_reducible exact LeO.none _)
   | (with_reducible refine LeO.ite ?_ ?_)
   | (with_reducible refine LeO.bind ?_ (fun _ => ?_))
   | exact ih0 _ _ _ _ _
   | exact ih1 _ _ _ _ _ _ _
   | exact ih2 _ _ _ _ _ _ _ _ _ _
   | exact slices_Sort_int64_int64.mono _ _
   | exact LeO.none _
   | refine LeO.ite ?_ ?_
   | refine LeO.bind ?_ (fun _ => ?_)
set_option maxHeartbeats 8000000 in
set_option maxRecDepth 100000 in
theorem impl_orbits.calls (k : Nat) (a0 : Int) (A1 : Option Addr) (c1 : Nat) (l1 : List (List Int)) (r : List (List Int)) (w : World) (hr1 : Kd.C (Kd.slice 2 (Kd.int .i64)) w A1 l1.length l1) (hc1 : l1.length ≤ c1) (h : impl_orbits.f k a0 l1 = some r) :
  Calls Try.prog 90 #[.int .i64 a0, .slice A1 l1.length c1] w fun e w' => ∃ v0_ : Value, e = .returned (v0_) ∧ Kd.S (Kd.slice 2 (Kd.int .i64)) 39 w' w.heap.size (fun _ => True) v0_ r ∧ Below w.heap.size w w' := by
 have HR1 := am_ hr1
 have HC1 := am_ hc1
 clear hr1 hc1
 have HB := am_ (Below.refl w.heap.size w)
 have H : (if 0 ≤ a0 then (if (a0 : Int).toNat ≤ 281474976710656 then (impl_orbits.l0 k l1 ([] : List (List Int)) (List.replicate (a0 : Int).toNat false) a0 0) else (none)) else (none)) = some r := h
 clear h
 by_cases c3 : 0 ≤ a0
 ·rw [if_pos c3] at H
  have c3b0 := eq_true c3
  have c3b1 : decide (0 ≤ a0) = true := decide_eq_true c3
  clear c3
  by_cases c4 : (a0 : Int).toNat ≤ 281474976710656
  ·rw [if_pos c4] at H
   have c4b0 := eq_true c4
   have c4b1 : decide ((a0 : Int).toNat ≤ 281474976710656) = true := decide_eq_true c4
   clear c4
   obtain ⟨y317, hy317⟩ : ∃ y_ : List Bool, y_ = (List.replicate (a0 : Int).toNat false) := ⟨_, rfl⟩
   replace H : (impl_orbits.l0 k l1 ([] : List (List Int)) y317 a0 0) = some r := by first | (rw [hy317]; with_reducible exact H) | (have H2_ := (Option.bind_some _ _).symm.trans H; rw [hy317]; with_reducible exact H2_) | (have H2_ := (Option.bind_some _ _).symm.trans H; with_reducible exact H2_) | with_reducible exact H | (rw [hy317]; exact H) | exact H
   have Ny317 := am_ hy317
   clear hy317
   have H' := am_ H
   clear H
   go_enter Try.func90, Try.ntmps90
   go_wp2_with (first | ((with_reducible refine gate_dst (N := 14) rfl ?_); refine Kd.R_make Kd.bool _ 4 rfl (N := 14) rfl 93 _ _ rfl a0 rfl rfl Try.underlying93 (.bool false) 1 info4 rfl (by decide) (by omega) false (ok := fun _ => True) (okp := fun _ => True) rfl (fun _ hk => hk) trivial (of_decide_eq_true (by first | (with_reducible assumption) | assumption)) (Nat.le_trans (Nat.mul_le_mul_right _ (of_decide_eq_true (by first | (with_reducible assumption) | assumption) : a0.toNat ≤ 281474976710656)) (by omega)) (Below.refl _ _) (Nat.le_refl _) ?_; intro v318 w5 ho6 hb hg_ hnew_; clear hg_ hnew_; (first | rw [← Ny317.out] at ho6 | (simp only [Int.reduceToNat] at ho6; rw [← Ny317.out] at ho6)); have n0_ := am_ (Kd.R_lower ho6 (below_size (bb_ HB.out))); have n1_ := am_ (below_step (bb_ HB.out) hb); clear HB; revert n0_ n1_; intro HO319 HB; clear hb ho6))
   go_loopg [5, 16] k (fun kq v5 v16 w' => ∃ (x5_1 : List (List Int)) (x6_1 : List Bool) (x16_1 : Int), v16 = .int .i64 x16_1 ∧ Aside0 (impl_orbits.l0 kq l1 x5_1 x6_1 a0 x16_1 = some r) ∧ Aside0 (kq ≤ k) ∧ Aside0 (Kd.S (Kd.slice 2 (Kd.int .i64)) 39 w' w.heap.size (fun _ => True) v5 x5_1) ∧ Aside0 (Kd.R Kd.bool 4 w' w.heap.size (fun _ => True) v318 x6_1) ∧ Aside0 (Below w.heap.size w w'))
   case atStart => exact ⟨(([] : List (List Int))), (y317), (0), (by first | rfl | (simp; done) | (simp [*]; done)), H', ⟨Nat.le_refl _⟩, ⟨by first | exact Kd.S_nil _ _ _ _ _ | exact Kd.N_nil _ _ _ _ _ | exact Kd.V_nil _ _ _ _ _ | exact Kd.Q_nil _ _ _ _ _ | exact Kd.R_nil _ _ _ _ _⟩, ⟨rk_ HO319.out⟩, ⟨bb_ HB.out⟩⟩
   case round =>
    clear H'
    try clear c1
    try clear p2
    try clear c3
    try clear c3b0
    try clear c3b1
    try clear c4
    try clear c4b0
    try clear c4b1
    obtain ⟨x5_1, x6_1, x16_1, rfl, HA, HK1, HO_5, HO_6, HB⟩ := hrel
    cases gk with
    | zero => exact absurd HA.out (by simp [impl_orbits.l0])
    | succ k1 =>
     have H := HA.out
     clear HA
     simp only [impl_orbits.l0] at H
     by_cases c7 : x16_1 < a0
     ·rw [if_pos c7] at H
      have c7b0 : decide (x16_1 < a0) = true := decide_eq_true c7
      clear c7
      by_cases c8 : 0 ≤ x16_1
      ·rw [if_pos c8] at H
       have c8b0 : decide (0 ≤ x16_1) = true := decide_eq_true c8
       clear c8
       by_cases c9 : x16_1 < (x6_1.length : Int)
       ·rw [if_pos c9] at H
        have c9b0 : decide (x16_1 < (x6_1.length : Int)) = true := decide_eq_true c9
        clear c9
        obtain ⟨bq10, hbq10⟩ : ∃ b_ : Bool, b_ = (rdOf false x6_1 x16_1) := ⟨_, rfl⟩
        replace H : (if bq10 = true then (impl_orbits.l0 k1 l1 x5_1 x6_1 a0 (wrap64 (x16_1 + 1))) else (impl_orbits.l1 k1 l1 x5_1 (x6_1.set (x16_1 : Int).toNat true) (([x16_1] : List Int)) 0 a0 x16_1)) = some r := by rw [← hbq10] at H; exact H
        have Nbq10 := am_ hbq10
        clear hbq10
        by_cases c11 : bq10 = true
        ·subst c11
         have H1 : (impl_orbits.l0 k1 l1 x5_1 x6_1 a0 (wrap64 (x16_1 + 1))) = some r := by rw [if_pos rfl] at H; exact H
         clear H
         have H := H1
         clear H1
         have H' := am_ H
         clear H
         obtain ⟨Ao12, co12, eo12⟩ := Kd.R_slice HO_6.out
         subst eo12
         have p320 : 0 ≤ (x16_1 : Int) := of_decide_eq_true (by first | (with_reducible assumption) | assumption)
         have q320 : x16_1 < (x6_1.length : Int) := of_decide_eq_true (by first | (with_reducible assumption) | assumption)
         obtain ⟨ad320, e320, hx320_0⟩ := Kd.at_bool (Kd.R_reads' HO_6.out).2.2 x16_1 p320 q320
         (try rw [← Nbq10.out] at hx320_0)
         cases e320
         replace p320 := eq_true p320
         replace q320 := eq_true q320
         go_wp2
         go_roundg k1
         case measure => have := HK1.out; omega
         case rel => exact ⟨(x5_1), (x6_1), (wrap64 (x16_1 + 1)), (by first | rfl | (simp; done) | (simp [*]; done)), H', ⟨by have := HK1.out; omega⟩, ⟨by (with_reducible repeat (first | apply Kd.S_alloc | apply Kd.S_drewN | apply Kd.S_drew)); exact HO_5.out⟩, ⟨rk_ HO_6.out⟩, ⟨bb_ HB.out⟩⟩
        ·replace c11 := Bool.eq_false_iff.mpr c11
         subst c11
         have H1 : (impl_orbits.l1 k1 l1 x5_1 (x6_1.set (x16_1 : Int).toNat true) (([x16_1] : List Int)) 0 a0 x16_1) = some r := by rw [if_neg (show ¬ (false = true) by decide)] at H; exact H
         clear H
         have H := H1
         clear H1
         obtain ⟨y321, hy321⟩ : ∃ y_ : List Bool, y_ = (x6_1.set (x16_1 : Int).toNat true) := ⟨_, rfl⟩
         replace H : (impl_orbits.l1 k1 l1 x5_1 y321 (([x16_1] : List Int)) 0 a0 x16_1) = some r := by first | (rw [hy321]; with_reducible exact H) | (have H2_ := (Option.bind_some _ _).symm.trans H; rw [hy321]; with_reducible exact H2_) | (have H2_ := (Option.bind_some _ _).symm.trans H; with_reducible exact H2_) | with_reducible exact H | (rw [hy321]; exact H) | exact H
         have Ny321 := am_ hy321
         clear hy321
         obtain ⟨y322, hy322⟩ : ∃ y_ : List Int, y_ = (([x16_1] : List Int)) := ⟨_, rfl⟩
         replace H : (impl_orbits.l1 k1 l1 x5_1 y321 y322 0 a0 x16_1) = some r := by first | (rw [hy322]; with_reducible exact H) | (have H2_ := (Option.bind_some _ _).symm.trans H; rw [hy322]; with_reducible exact H2_) | (have H2_ := (Option.bind_some _ _).symm.trans H; with_reducible exact H2_) | with_reducible exact H | (rw [hy322]; exact H) | exact H
         have Ny322 := am_ hy322
         clear hy322
         have H' := am_ H
         clear H
         obtain ⟨Ao14, co14, eo14⟩ := Kd.R_slice HO_6.out
         subst eo14
         have p320 : 0 ≤ (x16_1 : Int) := of_decide_eq_true (by first | (with_reducible assumption) | assumption)
         have q320 : x16_1 < (x6_1.length : Int) := of_decide_eq_true (by first | (with_reducible assumption) | assumption)
         obtain ⟨ad320, e320, hx320_0⟩ := Kd.at_bool (Kd.R_reads' HO_6.out).2.2 x16_1 p320 q320
         (try rw [← Nbq10.out] at hx320_0)
         cases e320
         replace p320 := eq_true p320
         replace q320 := eq_true q320
         have p13 : 0 ≤ (x16_1 : Int) := of_decide_eq_true (by first | (with_reducible assumption) | assumption)
         have q13 : (x16_1 : Int) < ((x6_1.length : Int) : Int) := of_decide_eq_true (by first | (with_reducible assumption) | assumption)
         obtain ⟨go13, co13, eo13, gb13, gl13, cl13, HG13⟩ := Kd.R_form HO_6.out (by omega)
         (first | cases eo13 | (injection eo13 with ea_ en_ ec_; (first | subst ea_ | (injection ea_ with ea_; subst ea_)); subst ec_; clear en_))
         have GB13 := am_ gb13
         have GG13 := am_ HG13
         clear gb13 gl13 HG13
         (first | simp only [add_plain] at hx320_0 | skip)
         obtain ⟨hx13_0, hf13_0⟩ := Kd.R_celln false HO_6.out (x16_1 : Int) p13 q13
         replace p13 := eq_true p13
         replace q13 := eq_true q13
         have HP15 := Kd.R_putg HO_6.out (x16_1 : Int) true
         go_wp2_with (first | ((with_reducible refine gate_store (t := 4) (p := 25) rfl ?_); refine store_event (t := 4) (p := 25) (v := ?vo_w16) (w1 := (wr.setCell ⟨go13, (x16_1 : Int).toNat, none⟩ (.bool true))) ?hg ?ho ?hn ?hr ?_; (case ho => rfl); (case hg => rfl); (case hn => rfl); (case hr => first | (go_simp; done) | (go_simp; rfl)); intro w16 hw; have hg : wr.grownBy w16 (some go13) := (by rw [hw]; exact HP15.2); have hp_ : Kd.R Kd.bool 4 w16 w.heap.size (fun _ => True) (.slice (some ⟨go13, 0, none⟩) x6_1.length co14) y321 := (by rw [hw, Ny321.out]; exact HP15.1); clear HP15; have n0_ := am_ (Kd.S_over' (v := (.slice (some ⟨go13, 0, none⟩) x6_1.length co14)) (by (with_reducible repeat (first | apply Kd.S_alloc | apply Kd.S_drewN | apply Kd.S_drew)); exact HO_5.out) (Kd.R_typed HO_6.out) (by decide) hg); have n1_ := am_ (hp_); have n2_ := am_ ((by rw [hw]; exact below_set (HB.out) GB13.out : Below w.heap.size w w16)); clear HO_5 HO_6 HB; revert n0_ n1_ n2_; intro HO_5 HO_6 HB; clear hg hw hp_) | ((with_reducible refine gate_dst (N := 27) rfl ?_); refine Kd.R_lit (Kd.int .i64) _ 2 ?hg (N := 27) ?hd (xs := ([x16_1] : List Int)) (inner := [.int .i64 x16_1]) (ok := fun _ => True) (okp := fun _ => True) ?hr ?hp (fun _ hk => hk) trivial (Below.refl _ _) (Nat.le_refl _) (by simp) ?_; (case hd => rfl); (case hg => rfl); (case hr => first | (go_simp; done) | (go_simp; rfl)); (case hp => exact (Reps.one (show Kd.M (Kd.int .i64) _ _ _ x16_1 [.int .i64 x16_1] from rfl) (Reps.none _ _))); intro v323 w17 ho18 hb hg_ hnew_; clear hg_ hnew_; (first | rw [← Ny322.out] at ho18 | (simp only [Int.reduceToNat] at ho18; rw [← Ny322.out] at ho18)); have n0_ := am_ (Kd.S_elder' (by (with_reducible repeat (first | apply Kd.S_alloc | apply Kd.S_drewN | apply Kd.S_drew)); exact HO_5.out) (Kd.R_base ho18) hb); have n1_ := am_ (Kd.R_below (rk_ HO_6.out) hb); have n2_ := am_ (Kd.R_lower ho18 (below_size (bb_ HB.out))); have n3_ := am_ (below_step (bb_ HB.out) hb); clear HO_5 HO_6 HB; revert n0_ n1_ n2_ n3_; intro HO_5 HO_6 HO324 HB; clear hb ho18))
         go_loopg [8, 9] k1 (fun kq v8 v9 w' => ∃ (x6_2 : List Bool) (x8_2 : List Int) (x9_2 : Int), v9 = .int .i64 x9_2 ∧ Aside0 (impl_orbits.l1 kq l1 x5_1 x6_2 x8_2 x9_2 a0 x16_1 = some r) ∧ Aside0 (kq ≤ k1) ∧ Aside0 (Kd.S (Kd.slice 2 (Kd.int .i64)) 39 w' w.heap.size (fun k_ => some k_ ≠ (v8 : Value).ownBlock) u5 x5_1) ∧ Aside0 (Kd.R Kd.bool 4 w' w.heap.size (fun _ => True) (.slice (some ⟨go13, 0, none⟩) x6_1.length co14) x6_2) ∧ Aside0 (Kd.R (Kd.int .i64) 2 w' w.heap.size (fun _ => True) v8 x8_2) ∧ Aside0 (Below w.heap.size w w'))
         case atStart => exact ⟨(y321), (y322), (0), (by first | rfl | (simp; done) | (simp [*]; done)), H', ⟨Nat.le_refl _⟩, ⟨by (with_reducible repeat (first | apply Kd.S_alloc | apply Kd.S_drewN | apply Kd.S_drew)); exact Kd.S_mono HO_5.out (fun _ hk => hk.2)⟩, ⟨rk_ HO_6.out⟩, ⟨rk_ HO324.out⟩, ⟨bb_ HB.out⟩⟩
         case round =>
          clear H'
          try clear c1
          try clear p1
          try clear q1
          try clear hx1
          try clear p2
          try clear c3
          try clear c3b0
          try clear c3b1
          try clear p3
          try clear q3
          try clear hx3
          try clear c4
          try clear c4b0
          try clear c4b1
          try clear p6
          try clear c7
          try clear c7b0
          try clear c8
          try clear c8b0
          try clear c9
          try clear c9b0
          try clear q10
          try clear c11
          try clear p13
          try clear q13
          try clear hx13
          try clear hf13
          try clear hx13_0
          try clear hx320_0
          try clear p13
          try clear p2
          try clear p320
          try clear q13
          try clear q320
          obtain ⟨x6_2, x8_2, x9_2, rfl, HA, HK2, HO_5, HO_6, HO_8, HB⟩ := hrel
          have hl6_2 := (Kd.R_reads' HO_6.out).1
          rw [hl6_2] at HO_6
          (try simp only [hl6_2])
          (try simp only [hl6_2] at HO_5)
          (try simp only [hl6_2] at HO_8)
          cases gk with
          | zero => exact absurd HA.out (by simp [impl_orbits.l1])
          | succ k2 =>
           have H := HA.out
           clear HA
           simp only [impl_orbits.l1] at H
           by_cases c19 : x9_2 < (x8_2.length : Int)
           ·rw [if_pos c19] at H
            have c19b0 : decide (x9_2 < (x8_2.length : Int)) = true := decide_eq_true c19
            clear c19
            have H' := am_ H
            clear H
            obtain ⟨Ao20, co20, eo20⟩ := Kd.R_slice HO_8.out
            subst eo20
            go_wp2
            go_loopg [8, 36] k2 (fun kq v8 v36 w' => ∃ (x6_3 : List Bool) (x8_3 : List Int) (x36_3 : Int), v36 = .int .i64 x36_3 ∧ Aside0 (impl_orbits.l2 kq l1 x5_1 x6_3 x8_3 x9_2 a0 x16_1 l1 (l1.length : Int) x36_3 = some r) ∧ Aside0 (kq ≤ k2) ∧ Aside0 (Kd.S (Kd.slice 2 (Kd.int .i64)) 39 w' w.heap.size (fun k_ => some k_ ≠ (v8 : Value).ownBlock) u5 x5_1) ∧ Aside0 (Kd.R Kd.bool 4 w' w.heap.size (fun _ => True) (.slice (some ⟨go13, 0, none⟩) x6_2.length co14) x6_3) ∧ Aside0 (Kd.R (Kd.int .i64) 2 w' w.heap.size (fun _ => True) v8 x8_3) ∧ Aside0 (Below w.heap.size w w'))
            case atStart => exact ⟨(x6_2), (x8_2), (0), (by first | rfl | (simp; done) | (simp [*]; done)), H', ⟨Nat.le_refl _⟩, ⟨by (try simp only [hl6_2]); (with_reducible repeat (first | apply Kd.S_alloc | apply Kd.S_drewN | apply Kd.S_drew)); exact HO_5.out⟩, ⟨by (try simp only [hl6_2]); (with_reducible repeat (first | apply Kd.R_alloc | apply Kd.R_drewN | apply Kd.R_drew)); exact HO_6.out⟩, ⟨by (try simp only [hl6_2]); (with_reducible repeat (first | apply Kd.R_alloc | apply Kd.R_drewN | apply Kd.R_drew)); exact HO_8.out⟩, ⟨bb_ HB.out⟩⟩
            case round =>
             clear H'
             try clear c1
             try clear p1
             try clear q1
             try clear hx1
             try clear p2
             try clear c3
             try clear c3b0
             try clear c3b1
             try clear p3
             try clear q3
             try clear hx3
             try clear c4
             try clear c4b0
             try clear c4b1
             try clear p6
             try clear c7
             try clear c7b0
             try clear c8
             try clear c8b0
             try clear c9
             try clear c9b0
             try clear q10
             try clear c11
             try clear p13
             try clear q13
             try clear hx13
             try clear hf13
             try clear c19
             try clear c19b0
             try clear hx13_0
             try clear hx320_0
             try clear p1
             try clear p13
             try clear p2
             try clear p3
             try clear p320
             try clear p6
             try clear q1
             try clear q10
             try clear q13
             try clear q3
             try clear q320
             obtain ⟨x6_3, x8_3, x36_3, rfl, HA, HK3, HO_5, HO_6, HO_8, HB⟩ := hrel
             have hl6_3 := (Kd.R_reads' HO_6.out).1
             rw [hl6_3] at HO_6
             (try simp only [hl6_3])
             (try simp only [hl6_3] at HO_5)
             (try simp only [hl6_3] at HO_8)
             cases gk with
             | zero => exact absurd HA.out (by simp [impl_orbits.l2])
             | succ k3 =>
              have H := HA.out
              clear HA
              simp only [impl_orbits.l2] at H
              by_cases c21 : x36_3 < (l1.length : Int)
              ·rw [if_pos c21] at H
               have c21b0 : decide (x36_3 < (l1.length : Int)) = true := decide_eq_true c21
               clear c21
               by_cases c22 : 0 ≤ x36_3
               ·rw [if_pos c22] at H
                have c22b0 : decide (0 ≤ x36_3) = true := decide_eq_true c22
                clear c22
                by_cases c23 : x36_3 < (l1.length : Int)
                ·rw [if_pos c23] at H
                 have c23b0 : decide (x36_3 < (l1.length : Int)) = true := decide_eq_true c23
                 clear c23
                 by_cases c24 : 0 ≤ x9_2
                 ·rw [if_pos c24] at H
                  have c24b0 : decide (0 ≤ x9_2) = true := decide_eq_true c24
                  clear c24
                  by_cases c25 : x9_2 < (x8_3.length : Int)
                  ·rw [if_pos c25] at H
                   have c25b0 : decide (x9_2 < (x8_3.length : Int)) = true := decide_eq_true c25
                   clear c25
                   by_cases c26 : 0 ≤ (rd x8_3 x9_2)
                   ·rw [if_pos c26] at H
                    have c26b0 : decide (0 ≤ (rd x8_3 x9_2)) = true := decide_eq_true c26
                    clear c26
                    by_cases c27 : (rd x8_3 x9_2) < ((rd_L1 l1 x36_3).length : Int)
                    ·rw [if_pos c27] at H
                     have c27b0 : decide ((rd x8_3 x9_2) < ((rd_L1 l1 x36_3).length : Int)) = true := decide_eq_true c27
                     clear c27
                     by_cases c28 : 0 ≤ (rd (rd_L1 l1 x36_3) (rd x8_3 x9_2))
                     ·rw [if_pos c28] at H
                      have c28b0 : decide (0 ≤ (rd (rd_L1 l1 x36_3) (rd x8_3 x9_2))) = true := decide_eq_true c28
                      clear c28
                      by_cases c29 : (rd (rd_L1 l1 x36_3) (rd x8_3 x9_2)) < (x6_3.length : Int)
                      ·rw [if_pos c29] at H
                       have c29b0 : decide ((rd (rd_L1 l1 x36_3) (rd x8_3 x9_2)) < (x6_3.length : Int)) = true := decide_eq_true c29
                       clear c29
                       obtain ⟨bq30, hbq30⟩ : ∃ b_ : Bool, b_ = (rdOf false x6_3 (rd (rd_L1 l1 x36_3) (rd x8_3 x9_2))) := ⟨_, rfl⟩
                       replace H : (if (bq30 = true) then (impl_orbits.l2 k3 l1 x5_1 x6_3 x8_3 x9_2 a0 x16_1 l1 (l1.length : Int) (wrap64 (x36_3 + 1))) else (if x8_3.length < 17592186044416 then (impl_orbits.l2 k3 l1 x5_1 (x6_3.set ((rd (rd_L1 l1 x36_3) (rd x8_3 x9_2)) : Int).toNat true) (x8_3 ++ [rd (rd_L1 l1 x36_3) (rd x8_3 x9_2)]) x9_2 a0 x16_1 l1 (l1.length : Int) (wrap64 (x36_3 + 1))) else (none))) = some r := by rw [← hbq30] at H; exact H
                       have Nbq30 := am_ hbq30
                       clear hbq30
                       by_cases c31 : (bq30 = true)
                       ·subst c31
                        have H1 : (impl_orbits.l2 k3 l1 x5_1 x6_3 x8_3 x9_2 a0 x16_1 l1 (l1.length : Int) (wrap64 (x36_3 + 1))) = some r := by rw [if_pos rfl] at H; exact H
                        clear H
                        have H := H1
                        clear H1
                        have H' := am_ H
                        clear H
                        have p329 : 0 ≤ (x36_3 : Int) := of_decide_eq_true (by first | (with_reducible assumption) | assumption)
                        have q329 : x36_3 < (l1.length : Int) := of_decide_eq_true (by first | (with_reducible assumption) | assumption)
                        obtain ⟨ad329, A329_0, c329_0, e329, hx329_0, hl329_0, hi329_0⟩ := at_L1 HR1.out x36_3 p329 q329
                        cases e329
                        replace hx329_0 := (HB.out.cell (World.block_lt_of_cell? w _ hx329_0)).trans hx329_0
                        have HR329_0 := am_ hi329_0
                        have HC329_0 := am_ hl329_0
                        clear hi329_0 hl329_0
                        replace p329 := eq_true p329
                        replace q329 := eq_true q329
                        obtain ⟨Ao32, co32, eo32⟩ := Kd.R_slice HO_8.out
                        subst eo32
                        have p330 : 0 ≤ (x9_2 : Int) := of_decide_eq_true (by first | (with_reducible assumption) | assumption)
                        have q330 : x9_2 < (x8_3.length : Int) := of_decide_eq_true (by first | (with_reducible assumption) | assumption)
                        obtain ⟨ad330, e330, hx330_0⟩ := Kd.at_int (Kd.R_reads' HO_8.out).2.2 x9_2 p330 q330
                        cases e330
                        replace p330 := eq_true p330
                        replace q330 := eq_true q330
                        have p331 : 0 ≤ ((rd x8_3 x9_2) : Int) := of_decide_eq_true (by first | (with_reducible assumption) | assumption)
                        have q331 : (rd x8_3 x9_2) < ((rd_L1 l1 x36_3).length : Int) := of_decide_eq_true (by first | (with_reducible assumption) | assumption)
                        obtain ⟨ad331, e331, hx331_0⟩ := Kd.at_int HR329_0.out (rd x8_3 x9_2) p331 q331
                        cases e331
                        replace hx331_0 := (HB.out.cell (World.block_lt_of_cell? w _ hx331_0)).trans hx331_0
                        replace p331 := eq_true p331
                        replace q331 := eq_true q331
                        have p332 : 0 ≤ ((rd (rd_L1 l1 x36_3) (rd x8_3 x9_2)) : Int) := of_decide_eq_true (by first | (with_reducible assumption) | assumption)
                        have q332 : (rd (rd_L1 l1 x36_3) (rd x8_3 x9_2)) < (x6_3.length : Int) := of_decide_eq_true (by first | (with_reducible assumption) | assumption)
                        obtain ⟨ad332, e332, hx332_0⟩ := Kd.at_bool (Kd.R_reads' HO_6.out).2.2 (rd (rd_L1 l1 x36_3) (rd x8_3 x9_2)) p332 q332
                        (try rw [← Nbq10.out] at hx332_0)
                        (try rw [← Nbq30.out] at hx332_0)
                        obtain rfl : (⟨go13, 0, none⟩ : Addr) = ad332 := (by injection e332)
                        (first | simp only [add_plain] at hx332_0 | simp only [add_at] at hx332_0 | simp only [Addr.add, Nat.zero_add] at hx332_0 | skip)
                        replace p332 := eq_true p332
                        replace q332 := eq_true q332
                        go_wp2
                        (try simp only [← hl6_3])
                        go_roundg k3
                        case measure => have := HK1.out; have := HK2.out; have := HK3.out; omega
                        case rel => exact ⟨(x6_3), (x8_3), (wrap64 (x36_3 + 1)), (by first | rfl | (simp; done) | (simp [*]; done)), H', ⟨by have := HK1.out; have := HK2.out; have := HK3.out; omega⟩, ⟨by (try simp only [hl6_2]); (try simp only [hl6_3]); (with_reducible repeat (first | apply Kd.S_alloc | apply Kd.S_drewN | apply Kd.S_drew)); exact HO_5.out⟩, ⟨by (try simp only [hl6_2]); (try simp only [hl6_3]); (with_reducible repeat (first | apply Kd.R_alloc | apply Kd.R_drewN | apply Kd.R_drew)); exact HO_6.out⟩, ⟨by (try simp only [hl6_2]); (try simp only [hl6_3]); (with_reducible repeat (first | apply Kd.R_alloc | apply Kd.R_drewN | apply Kd.R_drew)); exact HO_8.out⟩, ⟨bb_ HB.out⟩⟩
                       ·replace c31 := Bool.eq_false_iff.mpr c31
                        subst c31
                        have H1 : (if x8_3.length < 17592186044416 then (impl_orbits.l2 k3 l1 x5_1 (x6_3.set ((rd (rd_L1 l1 x36_3) (rd x8_3 x9_2)) : Int).toNat true) (x8_3 ++ [rd (rd_L1 l1 x36_3) (rd x8_3 x9_2)]) x9_2 a0 x16_1 l1 (l1.length : Int) (wrap64 (x36_3 + 1))) else (none)) = some r := by rw [if_neg (show ¬ (false = true) by decide)] at H; exact H
                        clear H
                        have H := H1
                        clear H1
                        obtain ⟨y333, hy333⟩ : ∃ y_ : List Bool, y_ = (x6_3.set ((rd (rd_L1 l1 x36_3) (rd x8_3 x9_2)) : Int).toNat true) := ⟨_, rfl⟩
                        replace H : (if x8_3.length < 17592186044416 then (impl_orbits.l2 k3 l1 x5_1 y333 (x8_3 ++ [rd (rd_L1 l1 x36_3) (rd x8_3 x9_2)]) x9_2 a0 x16_1 l1 (l1.length : Int) (wrap64 (x36_3 + 1))) else (none)) = some r := by first | (rw [hy333]; with_reducible exact H) | (have H2_ := (Option.bind_some _ _).symm.trans H; rw [hy333]; with_reducible exact H2_) | (have H2_ := (Option.bind_some _ _).symm.trans H; with_reducible exact H2_) | with_reducible exact H | (rw [hy333]; exact H) | exact H
                        have Ny333 := am_ hy333
                        clear hy333
                        by_cases c34 : x8_3.length < 17592186044416
                        ·rw [if_pos c34] at H
                         have LMc34 := am_ c34
                         clear c34
                         obtain ⟨y334, hy334⟩ : ∃ y_ : List Int, y_ = (x8_3 ++ [rd (rd_L1 l1 x36_3) (rd x8_3 x9_2)]) := ⟨_, rfl⟩
                         replace H : (impl_orbits.l2 k3 l1 x5_1 y333 y334 x9_2 a0 x16_1 l1 (l1.length : Int) (wrap64 (x36_3 + 1))) = some r := by first | (rw [hy334]; with_reducible exact H) | (have H2_ := (Option.bind_some _ _).symm.trans H; rw [hy334]; with_reducible exact H2_) | (have H2_ := (Option.bind_some _ _).symm.trans H; with_reducible exact H2_) | with_reducible exact H | (rw [hy334]; exact H) | exact H
                         have Ny334 := am_ hy334
                         clear hy334
                         have H' := am_ H
                         clear H
                         have p329 : 0 ≤ (x36_3 : Int) := of_decide_eq_true (by first | (with_reducible assumption) | assumption)
                         have q329 : x36_3 < (l1.length : Int) := of_decide_eq_true (by first | (with_reducible assumption) | assumption)
                         obtain ⟨ad329, A329_0, c329_0, e329, hx329_0, hl329_0, hi329_0⟩ := at_L1 HR1.out x36_3 p329 q329
                         cases e329
                         replace hx329_0 := (HB.out.cell (World.block_lt_of_cell? w _ hx329_0)).trans hx329_0
                         have HR329_0 := am_ hi329_0
                         have HC329_0 := am_ hl329_0
                         clear hi329_0 hl329_0
                         replace p329 := eq_true p329
                         replace q329 := eq_true q329
                         obtain ⟨Ao35, co35, eo35⟩ := Kd.R_slice HO_8.out
                         subst eo35
                         have p330 : 0 ≤ (x9_2 : Int) := of_decide_eq_true (by first | (with_reducible assumption) | assumption)
                         have q330 : x9_2 < (x8_3.length : Int) := of_decide_eq_true (by first | (with_reducible assumption) | assumption)
                         obtain ⟨ad330, e330, hx330_0⟩ := Kd.at_int (Kd.R_reads' HO_8.out).2.2 x9_2 p330 q330
                         cases e330
                         replace p330 := eq_true p330
                         replace q330 := eq_true q330
                         have p331 : 0 ≤ ((rd x8_3 x9_2) : Int) := of_decide_eq_true (by first | (with_reducible assumption) | assumption)
                         have q331 : (rd x8_3 x9_2) < ((rd_L1 l1 x36_3).length : Int) := of_decide_eq_true (by first | (with_reducible assumption) | assumption)
                         obtain ⟨ad331, e331, hx331_0⟩ := Kd.at_int HR329_0.out (rd x8_3 x9_2) p331 q331
                         cases e331
                         replace hx331_0 := (HB.out.cell (World.block_lt_of_cell? w _ hx331_0)).trans hx331_0
                         replace p331 := eq_true p331
                         replace q331 := eq_true q331
                         have p332 : 0 ≤ ((rd (rd_L1 l1 x36_3) (rd x8_3 x9_2)) : Int) := of_decide_eq_true (by first | (with_reducible assumption) | assumption)
                         have q332 : (rd (rd_L1 l1 x36_3) (rd x8_3 x9_2)) < (x6_3.length : Int) := of_decide_eq_true (by first | (with_reducible assumption) | assumption)
                         obtain ⟨ad332, e332, hx332_0⟩ := Kd.at_bool (Kd.R_reads' HO_6.out).2.2 (rd (rd_L1 l1 x36_3) (rd x8_3 x9_2)) p332 q332
                         (try rw [← Nbq10.out] at hx332_0)
                         (try rw [← Nbq30.out] at hx332_0)
                         obtain rfl : (⟨go13, 0, none⟩ : Addr) = ad332 := (by injection e332)
                         (first | simp only [add_plain] at hx332_0 | simp only [add_at] at hx332_0 | simp only [Addr.add, Nat.zero_add] at hx332_0 | skip)
                         replace p332 := eq_true p332
                         replace q332 := eq_true q332
                         have p33 : 0 ≤ ((rd (rd_L1 l1 x36_3) (rd x8_3 x9_2)) : Int) := of_decide_eq_true (by first | (with_reducible assumption) | assumption)
                         have q33 : ((rd (rd_L1 l1 x36_3) (rd x8_3 x9_2)) : Int) < ((x6_3.length : Int) : Int) := of_decide_eq_true (by first | (with_reducible assumption) | assumption)
                         obtain ⟨hx33_0, hf33_0⟩ := Kd.R_celln false HO_6.out ((rd (rd_L1 l1 x36_3) (rd x8_3 x9_2)) : Int) p33 q33
                         replace p33 := eq_true p33
                         replace q33 := eq_true q33
                         have HP36 := Kd.R_putg HO_6.out ((rd (rd_L1 l1 x36_3) (rd x8_3 x9_2)) : Int) true
                         go_wp2_with (first | ((with_reducible refine gate_store (t := 4) (p := 54) rfl ?_); refine store_event (t := 4) (p := 54) (v := ?vo_w37) (w1 := (wr.setCell ⟨go13, ((rd (rd_L1 l1 x36_3) (rd x8_3 x9_2)) : Int).toNat, none⟩ (.bool true))) ?hg ?ho ?hn ?hr ?_; (case ho => rfl); (case hg => rfl); (case hn => rfl); (case hr => first | (go_simp; done) | (go_simp; rfl)); intro w37 hw; have hg : wr.grownBy w37 (some go13) := (by rw [hw]; exact HP36.2); have hp_ : Kd.R Kd.bool 4 w37 w.heap.size (fun _ => True) (.slice (some ⟨go13, 0, none⟩) x6_3.length co14) y333 := (by rw [hw, Ny333.out]; exact HP36.1); clear HP36; have n0_ := am_ (Kd.S_over' (v := (.slice (some ⟨go13, 0, none⟩) x6_3.length co14)) (by (with_reducible repeat (first | apply Kd.S_alloc | apply Kd.S_drewN | apply Kd.S_drew)); exact HO_5.out) (Kd.R_typed HO_6.out) (by decide) hg); have n1_ := am_ (hp_); have n2_ := am_ (Kd.R_over' (v := (.slice (some ⟨go13, 0, none⟩) x6_3.length co14)) (rk_ HO_8.out) (Kd.R_typed HO_6.out) (by decide) hg); have n3_ := am_ ((by rw [hw]; exact below_set (HB.out) GB13.out : Below w.heap.size w w37)); clear HO_5 HO_6 HO_8 HB; revert n0_ n1_ n2_ n3_; intro HO_5 HO_6 HO_8 HB; clear hg hw hp_) | ((with_reducible refine gate_builtin (b := .append) (xs := #[.tmp 55, .tmp 57]) rfl ?_); at_builtin; refine Kd.R_append (Kd.int .i64) (w0 := w) w.heap.size rfl (.tmp 55) (.tmp 57) 39 2 (.int .i64 0) 8 rfl Try.underlying39 info2 rfl (by decide) (by omega) (.slice (some ad330) x8_3.length co35) x8_3 (rd (rd_L1 l1 x36_3) (rd x8_3 x9_2)) [.int .i64 (rd (rd_L1 l1 x36_3) (rd x8_3 x9_2))] (fun _ => True) (fun _ => False) rfl rfl ?aP (fun _ hk => hk.elim) ?aF ?aO ?aB ?aS ?aL ?_; (case aP => exact rfl); (case aB => exact (bb_ HB.out)); (case aF => exact (fun _ _ => trivial)); (case aO => exact (rk_ HO_8.out)); (case aS => exact (below_size (bb_ HB.out))); (case aL => have := LMc34.out; omega); intro v335 w38 ho hb hg hat; rw [← Ny334.out] at ho; have n0_ := am_ (Kd.S_after (ok := (fun _ => True)) (by (with_reducible repeat (first | apply Kd.S_alloc | apply Kd.S_drewN | apply Kd.S_drew)); exact Kd.S_mono HO_5.out (fun _ hk => ⟨trivial, hk⟩)) hg hat); have n1_ := am_ (Kd.R_over' (rk_ HO_6.out) (Kd.R_typed (rk_ HO_8.out)) (by decide) hg); have n2_ := am_ (hb); have n3_ := am_ (ho); clear HO_5 HO_6 HB HO_8; revert n0_ n1_ n2_ n3_; intro HO_5 HO_6 HB HO336; clear ho hb hg hat))
                         (try simp only [← hl6_3])
                         go_roundg k3
                         case measure => have := HK1.out; have := HK2.out; have := HK3.out; omega
                         case rel => exact ⟨(y333), (y334), (wrap64 (x36_3 + 1)), (by first | rfl | (simp; done) | (simp [*]; done)), H', ⟨by have := HK1.out; have := HK2.out; have := HK3.out; omega⟩, ⟨by (try simp only [hl6_2]); (try simp only [hl6_3]); (with_reducible repeat (first | apply Kd.S_alloc | apply Kd.S_drewN | apply Kd.S_drew)); exact Kd.S_mono HO_5.out (fun _ hk => hk.2)⟩, ⟨by (try simp only [hl6_2]); (try simp only [hl6_3]); (with_reducible repeat (first | apply Kd.R_alloc | apply Kd.R_drewN | apply Kd.R_drew)); exact HO_6.out⟩, ⟨by (try simp only [hl6_2]); (try simp only [hl6_3]); (with_reducible repeat (first | apply Kd.R_alloc | apply Kd.R_drewN | apply Kd.R_drew)); exact HO336.out⟩, ⟨bb_ HB.out⟩⟩
                        ·rw [if_neg c34] at H
                         exact absurd H (by simp)
                      ·rw [if_neg c29] at H
                       exact absurd H (by simp)
                     ·rw [if_neg c28] at H
                      exact absurd H (by simp)
                    ·rw [if_neg c27] at H
                     exact absurd H (by simp)
                   ·rw [if_neg c26] at H
                    exact absurd H (by simp)
                  ·rw [if_neg c25] at H
                   exact absurd H (by simp)
                 ·rw [if_neg c24] at H
                  exact absurd H (by simp)
                ·rw [if_neg c23] at H
                 exact absurd H (by simp)
               ·rw [if_neg c22] at H
                exact absurd H (by simp)
              ·rw [if_neg c21] at H
               have c21b0 : decide (x36_3 < (l1.length : Int)) = false := decide_eq_false c21
               clear c21
               have H' := am_ H
               clear H
               go_wp2
               (try simp only [← hl6_2, ← hl6_3])
               go_roundg k3
               case measure => have := HK1.out; have := HK2.out; have := HK3.out; omega
               case rel => exact ⟨(x6_3), (x8_3), (wrap64 (x9_2 + 1)), (by first | rfl | (simp; done) | (simp [*]; done)), H', ⟨by have := HK1.out; have := HK2.out; have := HK3.out; omega⟩, ⟨by (try simp only [hl6_2]); (try simp only [hl6_3]); (with_reducible repeat (first | apply Kd.S_alloc | apply Kd.S_drewN | apply Kd.S_drew)); exact HO_5.out⟩, ⟨by (try simp only [hl6_2]); (try simp only [hl6_3]); (with_reducible repeat (first | apply Kd.R_alloc | apply Kd.R_drewN | apply Kd.R_drew)); exact HO_6.out⟩, ⟨by (try simp only [hl6_2]); (try simp only [hl6_3]); (with_reducible repeat (first | apply Kd.R_alloc | apply Kd.R_drewN | apply Kd.R_drew)); exact HO_8.out⟩, ⟨bb_ HB.out⟩⟩
           ·rw [if_neg c19] at H
            have c19b0 : decide (x9_2 < (x8_2.length : Int)) = false := decide_eq_false c19
            clear c19
            replace H := Option.bind_eq_some_iff.mp H
            obtain ⟨t325, A390, H⟩ := H
            replace H : (if x5_1.length < 5864062014805 then (impl_orbits.l0 k2 l1 (x5_1 ++ [t325]) x6_2 a0 (wrap64 (x16_1 + 1))) else (none)) = some r := H
            have A39 := am_ A390
            clear A390
            by_cases c40 : x5_1.length < 5864062014805
            ·rw [if_pos c40] at H
             have LMc40 := am_ c40
             clear c40
             obtain ⟨y326, hy326⟩ : ∃ y_ : List (List Int), y_ = (x5_1 ++ [t325]) := ⟨_, rfl⟩
             replace H : (impl_orbits.l0 k2 l1 y326 x6_2 a0 (wrap64 (x16_1 + 1))) = some r := by first | (rw [hy326]; with_reducible exact H) | (have H2_ := (Option.bind_some _ _).symm.trans H; rw [hy326]; with_reducible exact H2_) | (have H2_ := (Option.bind_some _ _).symm.trans H; with_reducible exact H2_) | with_reducible exact H | (rw [hy326]; exact H) | exact H
             have Ny326 := am_ hy326
             clear hy326
             have H' := am_ H
             clear H
             obtain ⟨Ao41, co41, eo41⟩ := Kd.R_slice HO_8.out
             subst eo41
             go_wp2_with (first | ((with_reducible refine gate_callee (f := 116) rfl ?_); refine goesL_ (some 61) rfl rfl Try.func116 (by kernel_rfl) rfl #[.slice Ao41 x8_2.length co41] rfl lm_ ?_; (with_reducible refine (slices_Sort_int64_int64.calls k2 (fun k_ => some k_ = (.slice Ao41 x8_2.length co41 : Value).ownBlock) (.slice Ao41 x8_2.length co41) x8_2 t325 w _ ?side1 ?side2 A39.out).mono ?_); (case side1 => exact bb_ HB.out); (case side2 => exact Kd.R_tight rfl HO_8.out); rintro e w42 ⟨rfl, hy0, hb, hkp⟩; refine ⟨_, rfl, ?_⟩; have n0_ := am_ (Kd.S_mono (ok' := fun k_ => some k_ ≠ (.slice Ao41 x8_2.length co41 : Value).ownBlock) (Kd.S_keptB (HO_5.out) hkp (fun k_ hk_ hs_ => (hk_) hs_)) (fun k_ hk_ => hk_.1)); have n1_ := am_ (Kd.R_mono (ok' := fun k_ => True) (Kd.R_keptB ((Kd.R_apart' HO_6.out (Kd.R_typed HO_8.out) (by decide))) hkp (fun k_ hk_ hs_ => (hk_.2) hs_)) (fun k_ hk_ => trivial)); have n2_ := am_ (Kd.R_reok rfl hy0 (fun k_ e_ => HO_8.out.1 k_ e_)); have n3_ := am_ (hb); clear HO_5 HO_6 HO_8 HB; revert n0_ n1_ n2_ n3_; intro HO_5 HO_6 HO_8 HB; (try clear hb); (try clear hkp); (try clear hy0)) | ((with_reducible refine gate_builtin (b := .append) (xs := #[.tmp 62, .tmp 64]) rfl ?_); at_builtin; refine Kd.S_append (Kd.slice 2 (Kd.int .i64)) (w0 := w) w.heap.size rfl (.tmp 62) (.tmp 64) 22 39 (.slice none 0 0) 24 rfl Try.underlying22 info39 rfl (by decide) (by omega) u5 x5_1 t325 [.slice Ao41 x8_2.length co41] (fun _ => True) (fun k_ => some k_ = (.slice Ao41 x8_2.length co41 : Value).ownBlock) rfl rfl ?aP (fun k_ hk_ => ((Kd.R_mono (ok' := fun k_ => ((fun _ => True)) k_ ∧ some k_ ≠ (u5 : Value).ownBlock) (Kd.R_apart' (HO_8.out) (Kd.S_typed HO_5.out) (by decide)) (fun k_ hk => ⟨trivial, hk.2⟩))).1 k_ hk_.symm) ?aF ?aO ?aB ?aS ?aL ?_; (case aP => exact Kd.M_row (Kd.R_mono (Kd.R_tight rfl (Kd.R_mono (ok' := fun k_ => ((fun _ => True)) k_ ∧ some k_ ≠ (u5 : Value).ownBlock) (Kd.R_apart' (HO_8.out) (Kd.S_typed HO_5.out) (by decide)) (fun k_ hk => ⟨trivial, hk.2⟩))) (fun _ h_ => h_))); (case aB => exact (bb_ HB.out)); (case aF => exact (fun _ _ => trivial)); (case aO => exact (by (with_reducible repeat (first | apply Kd.S_alloc | apply Kd.S_drewN | apply Kd.S_drew)); exact Kd.S_mono HO_5.out (fun k_ hk => ⟨trivial, fun e_ => hk e_⟩))); (case aS => exact (below_size (bb_ HB.out))); (case aL => have := LMc40.out; omega); intro v327 w43 ho hb hg hat; rw [← Ny326.out] at ho; have n0_ := am_ (Kd.R_over' (rk_ HO_6.out) (Kd.S_typed (by (with_reducible repeat (first | apply Kd.S_alloc | apply Kd.S_drewN | apply Kd.S_drew)); exact HO_5.out)) (by decide) hg); have n1_ := am_ (hb); have n2_ := am_ (ho); clear HO_6 HB HO_5 HO_8; revert n0_ n1_ n2_; intro HO_6 HB HO328; clear ho hb hg hat))
             (try simp only [← hl6_2])
             go_roundg k2
             case measure => have := HK1.out; have := HK2.out; omega
             case rel => exact ⟨(y326), (x6_2), (wrap64 (x16_1 + 1)), (by first | rfl | (simp; done) | (simp [*]; done)), H', ⟨by have := HK1.out; have := HK2.out; omega⟩, ⟨by (try simp only [hl6_2]); (with_reducible repeat (first | apply Kd.S_alloc | apply Kd.S_drewN | apply Kd.S_drew)); exact HO328.out⟩, ⟨by (try simp only [hl6_2]); (with_reducible repeat (first | apply Kd.R_alloc | apply Kd.R_drewN | apply Kd.R_drew)); exact HO_6.out⟩, ⟨bb_ HB.out⟩⟩
            ·rw [if_neg c40] at H
             exact absurd H (by simp)
       ·rw [if_neg c9] at H
        exact absurd H (by simp)
      ·rw [if_neg c8] at H
       exact absurd H (by simp)
     ·rw [if_neg c7] at H
      have c7b0 : decide (x16_1 < a0) = false := decide_eq_false c7
      clear c7
      obtain rfl := Option.some.inj H
      go_wp2
      go_ret
      exact ⟨_, by first | rfl | (simp [errW_none, errW_some] <;> rfl) | (simp [*, errW_none, errW_some] <;> rfl), by (with_reducible repeat (first | apply Kd.S_alloc | apply Kd.S_drewN | apply Kd.S_drew)); exact HO_5.out, bb_ HB.out⟩
  ·rw [if_neg c4] at H
   exact absurd H (by simp)
 ·rw [if_neg c3] at H
  exact absurd H (by simp)

/-! ### impl_isTransitive: function 55 -/
def impl_isTransitive.f (k : Nat) (a0 : Int) (l1 : List (List Int)) : Option (Bool) := (impl_orbits.f k a0 l1).bind fun t337 => (some ((t337.length : Int) == 1))
theorem impl_isTransitive.mono : ∀ a0 a1 k, LeO (impl_isTransitive.f k a0 a1) (impl_isTransitive.f (k + 1) a0 a1) := by
  intro a0 a1 k
  unfold impl_isTransitive.f
  repeat' first
      | (with_reducible exact impl_orbits.mono _ _ _)
      | (with_reducible exact LeO.refl _)
      | (with_reducible exact LeO.none _)
      | (with_reducible refine LeO.ite ?_ ?_)
      | (with_reducible refine LeO.bind ?_ (fun _ => ?_))
      | exact impl_orbits.mono _ _ _
      | exact LeO.none _
      | refine LeO.ite ?_ ?_
      | refine LeO.bind ?_ (fun _ => ?_)
set_option maxHeartbeats 8000000 in
set_option maxRecDepth 100000 in
theorem impl_isTransitive.calls (k : Nat) (a0 : Int) (A1 : Option Addr) (c1 : Nat) (l1 : List (List Int)) (r : Bool) (w : World) (hr1 : Kd.C (Kd.slice 2 (Kd.int .i64)) w A1 l1.length l1) (hc1 : l1.length ≤ c1) (h : impl_isTransitive.f k a0 l1 = some r) :
    Calls Try.prog 55 #[.int .i64 a0, .slice A1 l1.length c1] w fun e w' => e = .returned (.bool r) ∧ Below w.heap.size w w' := by
  have HR1 := Aside0.mk hr1
  have HC1 := Aside0.mk hc1
  clear hr1 hc1
  have HB := Aside0.mk (Below.refl w.heap.size w)
  have H : ((impl_orbits.f k a0 l1).bind fun t337 => (some ((t337.length : Int) == 1))) = some r := h
  clear h
  replace H := Option.bind_eq_some_iff.mp H
  obtain ⟨t337, A30, H⟩ := H
  replace H : (some ((t337.length : Int) == 1)) = some r := H
  have A3 := Aside0.mk A30
  clear A30
  obtain rfl := Option.some.inj H
  go_enter Try.func55, Try.ntmps55
  go_wp2_with (first | ((with_reducible refine gate_callee (f := 90) rfl ?_); refine goesL_ (some 7) rfl rfl Try.func90 (by kernel_rfl) rfl #[.int .i64 a0, .slice A1 l1.length c1] rfl (by (try simp only [List.map_toArray, List.map_cons, List.map_nil]); first | done | rfl | (simp only [List.length_drop, List.length_take]; rfl)) ?_; (with_reducible refine (impl_orbits.calls k a0 _ _ l1 t337 _ ?side1 ?side2 A3.out).mono ?_); (case side1 => repeat (first | exact HR1.out | (with_reducible refine Kd.C_alloc ?_ _) | (with_reducible refine Kd.C_drewN ?_ _) | (with_reducible refine Kd.C_drew ?_))); (case side2 => exact HC1.out); rintro e w4 ⟨v338, rfl, ho0, hb⟩; refine ⟨_, rfl, ?_⟩; have n0_ := Aside0.mk (Kd.S_lower ho0 (below_size (by repeat (first | (with_reducible first | exact HB.out | apply below_alloc | apply pw_below_drewN | apply below_drew1) | exact HB.out)))); have n1_ := Aside0.mk (below_step (by repeat (first | (with_reducible first | exact HB.out | apply below_alloc | apply pw_below_drewN | apply below_drew1) | exact HB.out)) hb); clear HB; have HO339 := n0_; have HB := n1_; clear n0_ n1_; (try clear hb); (try clear hb2); (try clear hk); (try clear hi); (try clear ho0); obtain ⟨Ao5, co5, eo5⟩ := Kd.S_slice HO339.out; subst eo5))
  go_ret
  exact ⟨by first | rfl | (simp [errW_none, errW_some] <;> rfl) | (simp [*, errW_none, errW_some] <;> rfl), by repeat (first | (with_reducible first | exact HB.out | apply below_alloc | apply pw_below_drewN | apply below_drew1) | exact HB.out)⟩

/-! ### slices_Contains_int64_int64: function 92 -/
def slices_Contains_int64_int64.f (k : Nat) (l0 : List Int) (a1 : Int) : Option (Bool) := (slices_Index_int64_int64.f k l0 a1).bind fun t340 => (some (decide (t340 ≥ 0)))
theorem slices_Contains_int64_int64.mono : ∀ a0 a1 k, LeO (slices_Contains_int64_int64.f k a0 a1) (slices_Contains_int64_int64.f (k + 1) a0 a1) := by
  intro a0 a1 k
  unfold slices_Contains_int64_int64.f
  repeat' first
      | (with_reducible exact slices_Index_int64_int64.mono _ _ _)
      | (with_reducible exact LeO.refl _)
      | (with_reducible exact LeO.none _)
      | (with_reducible refine LeO.ite ?_ ?_)
      | (with_reducible refine LeO.bind ?_ (fun _ => ?_))
      | exact slices_Index_int64_int64.mono _ _ _
      | exact LeO.none _
      | refine LeO.ite ?_ ?_
      | refine LeO.bind ?_ (fun _ => ?_)
set_option maxHeartbeats 8000000 in
set_option maxRecDepth 100000 in
theorem slices_Contains_int64_int64.calls (k : Nat) (A0 : Option Addr) (c0 : Nat) (l0 : List Int) (a1 : Int) (r : Bool) (w : World) (hr0 : Kd.C (Kd.int .i64) w A0 l0.length l0) (hc0 : l0.length ≤ c0) (h : slices_Contains_int64_int64.f k l0 a1 = some r) :
    Calls Try.prog 92 #[.slice A0 l0.length c0, .int .i64 a1] w fun e w' => e = .returned (.bool r) ∧ Drawn0 w w' := by
  have HR0 := Aside0.mk hr0
  have HC0 := Aside0.mk hc0
  clear hr0 hc0
  have H : ((slices_Index_int64_int64.f k l0 a1).bind fun t340 => (some (decide (t340 ≥ 0)))) = some r := h
  clear h
  replace H := Option.bind_eq_some_iff.mp H
  obtain ⟨t340, A30, H⟩ := H
  replace H : (some (decide (t340 ≥ 0))) = some r := H
  have A3 := Aside0.mk A30
  clear A30
  obtain rfl := Option.some.inj H
  go_enter Try.func92, Try.ntmps92
  go_wp2_with (first | ((with_reducible refine gate_callee (f := 118) rfl ?_); refine goesL_ (some 7) rfl rfl Try.func118 (by kernel_rfl) rfl #[.slice A0 l0.length c0, .int .i64 a1] rfl (by (try simp only [List.map_toArray, List.map_cons, List.map_nil]); first | done | rfl | (simp only [List.length_drop, List.length_take]; rfl)) ?_; (with_reducible refine (slices_Index_int64_int64.calls k _ _ l0 a1 t340 _ ?side1 ?side2 A3.out).mono ?_); (case side1 => repeat (first | exact HR0.out | (with_reducible refine Kd.C_alloc ?_ _) | (with_reducible refine Kd.C_drewN ?_ _) | (with_reducible refine Kd.C_drew ?_))); (case side2 => exact HC0.out); rintro e w' ⟨rfl, ⟨nd, rfl⟩⟩; refine ⟨_, rfl, ?_⟩))
  go_ret
  exact ⟨by first | rfl | (simp; done) | (simp [*]; done), by repeat (first | exact Drawn0.refl _ | apply Drawn0.step)⟩

end Go.Proofs.Ytbcdngjajjgmkaa.PFnExactStabilizerPresentation
