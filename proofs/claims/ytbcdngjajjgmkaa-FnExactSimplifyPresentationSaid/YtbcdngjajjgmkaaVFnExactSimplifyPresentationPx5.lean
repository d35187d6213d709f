/- Written by this session's program out of the kit's print and this session's contracts. -/
import Derived.Test.YtbcdngjajjgmkaaVFnExactSimplifyPresentationPx0
namespace Go.Proofs.Ytbcdngjajjgmkaa.PFnExactSimplifyPresentation
open Go.RowKit Go.Proofs.YtbcdngjajjgmkaaW.PrintWords Go.Proofs.YtbcdngjajjgmkaaW.PrintLast Go.Proofs.YtbcdngjajjgmkaaW.PrintMore
set_option maxHeartbeats 8000000
set_option maxRecDepth 100000
set_option linter.unusedVariables false
set_option linter.unusedSimpArgs false

/-! ### spec_l04Inverse: function 96 -/
def spec_l04Inverse.l0 : Nat → List Int → List Int → Int → Option (List Int)
  | 0, _, _, _ => none
  | k + 1, x0, x3, x4 => if x4 ≥ 0 then (if 0 ≤ x4 then (if x4 < (x0.length : Int) then (if x3.length < 17592186044416 then (spec_l04Inverse.l0 k x0 (x3 ++ [wrap64 (-(rd x0 x4))]) (wrap64 (x4 - 1))) else (none)) else (none)) else (none)) else (some x3)
def spec_l04Inverse.f (k : Nat) (l0 : List Int) : Option (List Int) := spec_l04Inverse.l0 k l0 (([] : List Int)) (wrap64 ((l0.length : Int) - 1))
theorem spec_l04Inverse.calls (k : Nat) (A0 : Option Addr) (c0 : Nat) (l0 : List Int) (r : List Int) (w : World) (hr0 : Kd.C (Kd.int .i64) w A0 l0.length l0) (hc0 : l0.length ≤ c0) (h : spec_l04Inverse.f k l0 = some r) :
    Calls Try.prog 96 #[.slice A0 l0.length c0] w fun e w' => ∃ v0_ : Value, e = .returned (v0_) ∧ Kd.R (Kd.int .i64) 2 w' w.heap.size (fun _ => True) v0_ r ∧ Below w.heap.size w w' := by
  have HR0 := Aside0.mk hr0
  have HC0 := Aside0.mk hc0
  clear hr0 hc0
  have HB := Aside0.mk (Below.refl w.heap.size w)
  have H : (spec_l04Inverse.l0 k l0 (([] : List Int)) (wrap64 ((l0.length : Int) - 1))) = some r := h
  clear h
  obtain ⟨y190, hy190⟩ : ∃ y_ : List Int, y_ = (([] : List Int)) := ⟨_, rfl⟩
  replace H : (spec_l04Inverse.l0 k l0 y190 (wrap64 ((l0.length : Int) - 1))) = some r := hq_ hy190 H
  have Ny190 := Aside0.mk hy190
  clear hy190
  have H' := Aside0.mk H
  clear H
  go_enter Try.func96, Try.ntmps96
  go_wp2_with (first | ((with_reducible refine gate_dst (N := 5) rfl ?_); refine Kd.R_lit (Kd.int .i64) _ 2 ?hg (N := 5) ?hd (xs := ([] : List Int)) (inner := []) (ok := fun _ => True) (okp := fun _ => True) ?hr ?hp (fun _ hk => hk) trivial (Below.refl _ _) (Nat.le_refl _) (by simp) ?_; (case hd => rfl); (case hg => rfl); (case hr => first | (go_simp; done) | (go_simp; rfl)); (case hp => exact (Reps.none _ _)); intro v191 w2 ho3 hb hg_ hnew_; clear hg_ hnew_; (first | rw [← Ny190.out] at ho3 | (simp only [Int.reduceToNat] at ho3; rw [← Ny190.out] at ho3)); have n0_ := Aside0.mk (Kd.R_lower ho3 (below_size (by repeat (first | (with_reducible first | exact HB.out | apply below_alloc | apply pw_below_drewN | apply below_drew1) | exact HB.out)))); have n1_ := Aside0.mk (below_step (by repeat (first | (with_reducible first | exact HB.out | apply below_alloc | apply pw_below_drewN | apply below_drew1) | exact HB.out)) hb); clear HB; have HO192 := n0_; have HB := n1_; clear n0_ n1_; clear hb ho3))
  go_loopg [3, 4] k (fun kq v3 v4 w' => ∃ (x3_1 : List Int) (x4_1 : Int), v4 = .int .i64 x4_1 ∧ Aside0 (spec_l04Inverse.l0 kq l0 x3_1 x4_1 = some r) ∧ Aside0 (kq ≤ k) ∧ Aside0 (Kd.R (Kd.int .i64) 2 w' w.heap.size (fun _ => True) v3 x3_1) ∧ Aside0 (Below w.heap.size w w'))
  case atStart => exact ⟨(y190), (wrap64 ((l0.length : Int) - 1)), (by first | rfl | (simp; done) | (simp [*]; done)), H', ⟨Nat.le_refl _⟩, ⟨Rx_ HO192.out⟩, ⟨by repeat (first | (with_reducible first | exact HB.out | apply below_alloc | apply pw_below_drewN | apply below_drew1) | exact HB.out)⟩⟩
  case round =>
    clear H'
    try clear p2
    obtain ⟨x3_1, x4_1, rfl, HA, HK1, HO_3, HB⟩ := hrel
    cases gk with
    | zero => exact absurd HA.out (by simp [spec_l04Inverse.l0])
    | succ k1 =>
      have H := HA.out
      clear HA
      simp only [spec_l04Inverse.l0] at H
      by_cases c4 : x4_1 ≥ 0
      · rw [if_pos c4] at H
        have c4b0 : decide (0 ≤ x4_1) = true := decide_eq_true c4
        clear c4
        by_cases c5 : 0 ≤ x4_1
        · rw [if_pos c5] at H
          have c5b0 : decide (0 ≤ x4_1) = true := decide_eq_true c5
          clear c5
          by_cases c6 : x4_1 < (l0.length : Int)
          · rw [if_pos c6] at H
            have c6b0 : decide (x4_1 < (l0.length : Int)) = true := decide_eq_true c6
            clear c6
            by_cases c7 : x3_1.length < 17592186044416
            · rw [if_pos c7] at H
              have LMc7 := Aside0.mk c7
              clear c7
              obtain ⟨y194, hy194⟩ : ∃ y_ : List Int, y_ = (x3_1 ++ [wrap64 (-(rd l0 x4_1))]) := ⟨_, rfl⟩
              replace H : (spec_l04Inverse.l0 k1 l0 y194 (wrap64 (x4_1 - 1))) = some r := hq_ hy194 H
              have Ny194 := Aside0.mk hy194
              clear hy194
              have H' := Aside0.mk H
              clear H
              have p193 : 0 ≤ (x4_1 : Int) := da_
              have q193 : x4_1 < (l0.length : Int) := da_
              obtain ⟨ad193, e193, hx193_0⟩ := Kd.at_int HR0.out x4_1 p193 q193
              cases e193
              replace hx193_0 := ce_ HB hx193_0
              replace p193 := eq_true p193
              replace q193 := eq_true q193
              go_wp2_with (first | ((with_reducible refine gate_builtin (b := .append) (xs := #[.tmp 13, .tmp 19]) rfl ?_); at_builtin; refine Kd.R_append (Kd.int .i64) (w0 := w) w.heap.size rfl (.tmp 13) (.tmp 19) 39 2 (.int .i64 0) 8 rfl Try.underlying39 info2 rfl (by decide) (by omega) u3 x3_1 (wrap64 (-(rd l0 x4_1))) [.int .i64 (wrap64 (-(rd l0 x4_1)))] (fun _ => True) (fun _ => False) rfl rfl ?aP (fun _ hk => hk.elim) ?aF ?aO ?aB ?aS ?aL ?_; (case aP => exact rfl); (case aB => exact (by repeat (first | (with_reducible first | exact HB.out | apply below_alloc | apply pw_below_drewN | apply below_drew1) | exact HB.out))); (case aF => exact (fun _ _ => trivial)); (case aO => exact (Rx_ HO_3.out)); (case aS => exact (below_size (by repeat (first | (with_reducible first | exact HB.out | apply below_alloc | apply pw_below_drewN | apply below_drew1) | exact HB.out)))); (case aL => have := LMc7.out; omega); intro v195 w8 ho hb hg hat; rw [← Ny194.out] at ho; have n0_ := Aside0.mk (hb); have n1_ := Aside0.mk (ho); clear HB; clear HO_3; have HB := n0_; have HO196 := n1_; clear n0_ n1_; clear ho hb hg hat))
              go_roundg k1
              case measure => have := HK1.out; omega
              case rel => exact ⟨(y194), (wrap64 (x4_1 - 1)), (by first | rfl | (simp; done) | (simp [*]; done)), H', ⟨by have := HK1.out; omega⟩, ⟨Rx_ HO196.out⟩, ⟨by repeat (first | (with_reducible first | exact HB.out | apply below_alloc | apply pw_below_drewN | apply below_drew1) | exact HB.out)⟩⟩
            · rw [if_neg c7] at H
              exact absurd H (by simp)
          · rw [if_neg c6] at H
            exact absurd H (by simp)
        · rw [if_neg c5] at H
          exact absurd H (by simp)
      · rw [if_neg c4] at H
        have c4b0 : decide (0 ≤ x4_1) = false := decide_eq_false c4
        clear c4
        obtain rfl := Option.some.inj H
        go_wp2
        go_ret
        exact ⟨_, er_, Rx_ HO_3.out, by repeat (first | (with_reducible first | exact HB.out | apply below_alloc | apply pw_below_drewN | apply below_drew1) | exact HB.out)⟩

/-! ### spec_l04Solve: function 119 -/
def spec_l04Solve.l0 : Nat → List Int → Int → Int → Option (List Int)
 | 0, _, _, _ => none
 | k + 1, x0, x1, x5 => if 0 ≤ x5 then (if x5 < (x0.length : Int) then (if (rd x0 x5) = x1 then ((some (([] : List Int) : List Int)).bind fun y198 => (if 0 ≤ (wrap64 (x5 + 1)) then (if (wrap64 (x5 + 1)) ≤ (x0.length : Int) then (if y198.length + (x0.drop ((wrap64 (x5 + 1)) : Int).toNat).length < 17592186044416 then ((some (y198 ++ (x0.drop ((wrap64 (x5 + 1)) : Int).toNat) : List Int)).bind fun y202 => (if x5 ≤ (x0.length : Int) then (if y202.length + (x0.take (x5 : Int).toNat).length < 17592186044416 then ((spec_l04Inverse.f k (y202 ++ (x0.take (x5 : Int).toNat))).bind fun t210 => (some t210)) else (none)) else (none))) else (none)) else (none)) else (none))) else (if (rd x0 x5) = (wrap64 (-x1)) then ((some (([] : List Int) : List Int)).bind fun y214 => (if 0 ≤ (wrap64 (x5 + 1)) then (if (wrap64 (x5 + 1)) ≤ (x0.length : Int) then (if y214.length + (x0.drop ((wrap64 (x5 + 1)) : Int).toNat).length < 17592186044416 then ((some (y214 ++ (x0.drop ((wrap64 (x5 + 1)) : Int).toNat) : List Int)).bind fun y218 => (if x5 ≤ (x0.length : Int) then (if y218.length + (x0.take (x5 : Int).toNat).length < 17592186044416 then (some (y218 ++ (x0.take (x5 : Int).toNat))) else (none)) else (none))) else (none)) else (none)) else (none))) else (spec_l04Solve.l0 k x0 x1 (wrap64 (x5 + 1))))) else (none)) else (none)
def spec_l04Solve.f (k : Nat) (l0 : List Int) (a1 : Int) : Option (List Int) := spec_l04Solve.l0 k l0 a1 0
def spec_l04Solve.T4 : Bool × List (List Nat × List Nat) := (true, [([], []), ([], []), ([], []), ([2], [2]), ([1, 3], [1, 3]), ([0, 4], [0, 4]), ([], []), ([], []), ([6, 7], [6, 7]), ([5, 8, 5], [5, 8]), ([9, 9, 0, 1, 2, 3, 4, 5, 6, 7, 8, 9], [9])])
def spec_l04Solve.B4 : List Nat := [0, 0, 0, 4, 14, 31, 0, 0, 192, 511, 1023]
theorem spec_l04Solve.tab4 : rtab .any (opsOf Try.f119 4) = spec_l04Solve.T4 := by kernel_rfl
theorem spec_l04Solve.bits4 : waitsOk spec_l04Solve.T4.2 spec_l04Solve.B4 = true := by kernel_rfl
theorem spec_l04Solve.calls (k : Nat) (A0 : Option Addr) (c0 : Nat) (l0 : List Int) (a1 : Int) (r : List Int) (w : World) (hr0 : Kd.C (Kd.int .i64) w A0 l0.length l0) (hc0 : l0.length ≤ c0) (h : spec_l04Solve.f k l0 a1 = some r) :
  Calls Try.prog 119 #[.slice A0 l0.length c0, .int .i64 a1] w fun e w' => ∃ v0_ : Value, e = .returned (v0_) ∧ Kd.R (Kd.int .i64) 2 w' w.heap.size (fun _ => True) v0_ r ∧ Below w.heap.size w w' := by
 have HR0 := am_ hr0
 have HC0 := am_ hc0
 clear hr0 hc0
 have HB := am_ (Below.refl w.heap.size w)
 have H : (spec_l04Solve.l0 k l0 a1 0) = some r := h
 clear h
 have H' := am_ H
 clear H
 go_enter Try.func119, Try.ntmps119
 go_wp2
 go_loopg [5] k (fun kq v5 w' => ∃ (x5_1 : Int), v5 = .int .i64 x5_1 ∧ Aside0 (spec_l04Solve.l0 kq l0 a1 x5_1 = some r) ∧ Aside0 (kq ≤ k) ∧ Aside0 (Below w.heap.size w w'))
 case atStart => exact ⟨(0), (by first | rfl | (simp; done) | (simp [*]; done)), H', ⟨Nat.le_refl _⟩, ⟨bb_ HB.out⟩⟩
 case round =>
  clear H'
  try clear c1
  try clear p2
  obtain ⟨x5_1, rfl, HA, HK1, HB⟩ := hrel
  cases gk with
  | zero => exact absurd HA.out (by simp [spec_l04Solve.l0])
  | succ k1 =>
   have H := HA.out
   clear HA
   simp only [spec_l04Solve.l0] at H
   by_cases c3 : 0 ≤ x5_1
   ·rw [if_pos c3] at H
    have c3b0 : decide (0 ≤ x5_1) = true := decide_eq_true c3
    clear c3
    by_cases c4 : x5_1 < (l0.length : Int)
    ·rw [if_pos c4] at H
     have c4b0 : decide (x5_1 < (l0.length : Int)) = true := decide_eq_true c4
     clear c4
     by_cases c5 : (rd l0 x5_1) = a1
     ·rw [if_pos c5] at H
      have c5b0 : ((rd l0 x5_1) == a1) = true := beq_iff_eq.mpr c5
      have c5b1 : ((rd l0 x5_1) != a1) = false := bne_eq_false_iff_eq.mpr c5
      clear c5
      obtain ⟨y198, hy198⟩ : ∃ y_ : List Int, y_ = (([] : List Int)) := ⟨_, rfl⟩
      replace H : (if 0 ≤ (wrap64 (x5_1 + 1)) then (if (wrap64 (x5_1 + 1)) ≤ (l0.length : Int) then (if y198.length + (l0.drop ((wrap64 (x5_1 + 1)) : Int).toNat).length < 17592186044416 then ((some (y198 ++ (l0.drop ((wrap64 (x5_1 + 1)) : Int).toNat) : List Int)).bind fun y202 => (if x5_1 ≤ (l0.length : Int) then (if y202.length + (l0.take (x5_1 : Int).toNat).length < 17592186044416 then ((spec_l04Inverse.f k1 (y202 ++ (l0.take (x5_1 : Int).toNat))).bind fun t210 => (some t210)) else (none)) else (none))) else (none)) else (none)) else (none)) = some r := hq_ hy198 H
      have Ny198 := am_ hy198
      clear hy198
      obtain ⟨ji6, hji6⟩ : ∃ j_ : Int, (wrap64 (x5_1 + 1)) = j_ := ⟨_, rfl⟩
      replace H : (if 0 ≤ (ji6) then (if (ji6) ≤ (l0.length : Int) then (if y198.length + (l0.drop ((ji6) : Int).toNat).length < 17592186044416 then ((some (y198 ++ (l0.drop ((ji6) : Int).toNat) : List Int)).bind fun y202 => (if x5_1 ≤ (l0.length : Int) then (if y202.length + (l0.take (x5_1 : Int).toNat).length < 17592186044416 then ((spec_l04Inverse.f k1 (y202 ++ (l0.take (x5_1 : Int).toNat))).bind fun t210 => (some t210)) else (none)) else (none))) else (none)) else (none)) else (none)) = some r := by first | (rw [hji6] at H; exact H) | (simp only [hji6] at H ⊢; exact H)
      have hji6w : (IntKind.i64.wrap (x5_1 + 1)) = ji6 := (i64_w _).trans hji6
      by_cases c7 : 0 ≤ (ji6)
      ·rw [if_pos c7] at H
       have c7b0 := eq_true c7
       have c7b1 : decide (0 ≤ (ji6)) = true := decide_eq_true c7
       clear c7
       by_cases c8 : (ji6) ≤ (l0.length : Int)
       ·rw [if_pos c8] at H
        have c8b0 := eq_true c8
        have c8b1 : decide ((ji6) ≤ (l0.length : Int)) = true := decide_eq_true c8
        clear c8
        by_cases c9 : y198.length + (l0.drop ((ji6) : Int).toNat).length < 17592186044416
        ·rw [if_pos c9] at H
         have LMc9 := am_ c9
         clear c9
         obtain ⟨y202, hy202⟩ : ∃ y_ : List Int, y_ = (y198 ++ (l0.drop ((ji6) : Int).toNat)) := ⟨_, rfl⟩
         replace H : (if x5_1 ≤ (l0.length : Int) then (if y202.length + (l0.take (x5_1 : Int).toNat).length < 17592186044416 then ((spec_l04Inverse.f k1 (y202 ++ (l0.take (x5_1 : Int).toNat))).bind fun t210 => (some t210)) else (none)) else (none)) = some r := hq_ hy202 H
         have Ny202 := am_ hy202
         clear hy202
         have c10b0 := eq_true (da_ : 0 ≤ x5_1)
         by_cases c11 : x5_1 ≤ (l0.length : Int)
         ·rw [if_pos c11] at H
          have c11b0 := eq_true c11
          have c11b1 : decide (x5_1 ≤ (l0.length : Int)) = true := decide_eq_true c11
          clear c11
          by_cases c12 : y202.length + (l0.take (x5_1 : Int).toNat).length < 17592186044416
          ·rw [if_pos c12] at H
           have LMc12 := am_ c12
           clear c12
           obtain ⟨y206, hy206⟩ : ∃ y_ : List Int, y_ = (y202 ++ (l0.take (x5_1 : Int).toNat)) := ⟨_, rfl⟩
           replace H : ((spec_l04Inverse.f k1 y206).bind fun t210 => (some t210)) = some r := hq_ hy206 H
           have Ny206 := am_ hy206
           clear hy206
           replace H := Option.bind_eq_some_iff.mp H
           obtain ⟨t210, A130, H⟩ := H
           replace H : (some t210) = some r := H
           have A13 := am_ A130
           clear A130
           obtain rfl := Option.some.inj H
           have p197 : 0 ≤ (x5_1 : Int) := da_
           have q197 : x5_1 < (l0.length : Int) := da_
           obtain ⟨ad197, e197, hx197_0⟩ := Kd.at_int HR0.out x5_1 p197 q197
           cases e197
           replace hx197_0 := ce_ HB hx197_0
           replace p197 := eq_true p197
           replace q197 := eq_true q197
           try go_wp2
           have n0_ := am_ (below_drew1 HB.out)
           clear HB; revert n0_; intro HB
           obtain ⟨i015, hi015, _, hsz15, _⟩ := info_parts info2
           obtain ⟨A15, hcut15, hA15, hC15⟩ := print_drop_of (P := Try.prog) (Value.int .i64) 0 39 2 .i64 Try.underlying39 hi015 hsz15 (some ad197) c0 l0 (ji6) da_ da_ HC0.out
           have HR201 := am_ (Kd.C_of_reads (h1 := fun _ => rfl) (hA15 _ (Kd.reads_of_C HR0.out)))
           have HC201 := am_ hC15
           clear hA15 hC15 hi015 hsz15
           obtain ⟨i016, hi016, _, hsz16, _⟩ := info_parts info2
           obtain ⟨hcut16, hA16, hC16⟩ := print_take_of (P := Try.prog) (Value.int .i64) 0 39 2 .i64 Try.underlying39 hi016 hsz16 (some ad197) c0 l0 x5_1 da_ da_ HC0.out
           have HR205 := am_ (Kd.C_of_reads (h1 := fun _ => rfl) (hA16 _ (Kd.reads_of_C HR0.out)))
           have HC205 := am_ hC16
           clear hA16 hC16 hi016 hsz16
           refine start_ (n := 11) (S := fun w' => True) (ds := []) (bA_ 11 0) (by kernel_rfl) rfl (by kernel_rfl) trivial (fun hHeld => ?_); refine with_tabW spec_l04Solve.tab4 spec_l04Solve.bits4 (fun HT_ HW_ => ?_)
           generalize wr.drew = w14 at HB HR201 HR205 hHeld ⊢
           refine pz_ 1 25 (bA_ 11 2) HT_ ?_
           refine pz_ 2 26 (bA_ 11 6) HT_ ?_
           refine pz_ 3 27 (bA_ 11 14) HT_ ?_
           refine pz_ 4 28 (bA_ 11 30) HT_ ?_
           refine pz_ 6 30 (bA_ 11 94) HT_ ?_
           refine pz_ 7 31 (bA_ 11 222) HT_ ?_
           refine pz_ 8 32 (bA_ 11 478) HT_ ?_
           refine oz_ 0 24 (bA_ 11 479) HT_ (fun K hK => ?_)
           refine Kd.R_lit_step (Kd.int .i64) _ 2 ?hg (N := 24) ?hd (xs := ([] : List Int)) (inner := []) (ok := fun _ => True) (okp := fun _ => True) ?hr ?hp (fun _ hk => hk) trivial (Below.refl _ _) (Nat.le_refl _) (by simp) ?_; (case hd => rfl); (case hg => rfl); (case hr => first | (go_simp; done) | (go_simp; rfl)); (case hp => exact (Reps.none _ _))
           intro v199 w17 ho18 hb hg_ hnew_
           clear hg_ hnew_
           (first | rw [← Ny198.out] at ho18 | (simp only [Int.reduceToNat] at ho18; rw [← Ny198.out] at ho18))
           have n0_ := am_ (Kd.R_lower ho18 (below_size (bb_ HB.out)))
           have n1_ := am_ (below_step (bb_ HB.out) hb)
           clear HB; revert n0_ n1_; intro HO200 HB
           clear hb ho18
           refine hK.out _ _ trivial (fun hHeld => ?_)
           clear hK K
           refine nm_ 24 ?_
           refine oz_ 5 29 (bA_ 11 511) HT_ (fun K hK => ?_)
           refine Kd.R_append_rows_step (Kd.int .i64) (w0 := w) w.heap.size (by rfl) (.tmp 24) (.tmp 28) 39 2 (.int .i64 0) 8 rfl Try.underlying39 info2 rfl (by decide) (by omega) v199 y198 (l0.drop ((ji6) : Int).toNat) _ _ _ (fun _ => True) (fun _ => False) rfl rfl ?aO ?aR (fun _ _ h => h) (fun _ h => h.elim) ?aF ?aB ?aS ?aL ?_
           (case aR => first | ((exact cb_ HR201 HB); done) | (refine len_ ?_ (show (l0.drop ((ji6) : Int).toNat).length = (l0.length - (ji6).toNat) from List.length_drop); exact cb_ HR201 HB))
           (case aB => exact (bb_ HB.out))
           (case aF => exact (fun _ _ => trivial))
           (case aO => exact (rk_ HO200.out))
           (case aS => exact (below_size (bb_ HB.out)))
           (case aL => have := LMc9.out; have hlx_ := (show (l0.drop ((ji6) : Int).toNat).length = (l0.length - (ji6).toNat) from List.length_drop); omega)
           intro v203 w19 ho hb hg hat
           rw [← Ny202.out] at ho
           have n0_ := am_ (hb)
           have n1_ := am_ (ho)
           clear HB HO200; revert n0_ n1_; intro HB HO204
           clear ho hb hg hat
           refine hK.out _ _ trivial (fun hHeld => ?_)
           clear hK K
           refine nm_ 29 ?_
           refine oz_ 9 33 (bA_ 11 1023) HT_ (fun K hK => ?_)
           refine Kd.R_append_rows_step (Kd.int .i64) (w0 := w) w.heap.size (by rfl) (.tmp 29) (.tmp 32) 39 2 (.int .i64 0) 8 rfl Try.underlying39 info2 rfl (by decide) (by omega) v203 y202 (l0.take (x5_1 : Int).toNat) _ _ _ (fun _ => True) (fun _ => False) rfl rfl ?aO ?aR (fun _ _ h => h) (fun _ h => h.elim) ?aF ?aB ?aS ?aL ?_
           (case aR => first | ((exact cb_ HR205 HB); done) | (refine len_ ?_ (show (l0.take (x5_1 : Int).toNat).length = x5_1.toNat from (by rw [List.length_take]; have h_ : (x5_1 : Int) ≤ (l0.length : Int) := da_; omega)); exact cb_ HR205 HB))
           (case aB => exact (bb_ HB.out))
           (case aF => exact (fun _ _ => trivial))
           (case aO => exact (rk_ HO204.out))
           (case aS => exact (below_size (bb_ HB.out)))
           (case aL => have := LMc12.out; have hlx_ := (show (l0.take (x5_1 : Int).toNat).length = x5_1.toNat from (by rw [List.length_take]; have h_ : (x5_1 : Int) ≤ (l0.length : Int) := da_; omega)); omega)
           intro v207 w20 ho hb hg hat
           rw [← Ny206.out] at ho
           have n0_ := am_ (hb)
           have n1_ := am_ (ho)
           clear HB HO204; revert n0_ n1_; intro HB HO208
           clear ho hb hg hat
           refine hK.out _ _ trivial (fun hHeld => ?_)
           clear hK K
           refine nm_ 33 ?_
           refine pz_ 10 6 (bA_ 11 2047) HT_ ?_
           refine done_ (done_of HT_.out (by kernel_rfl)) ?_
           have p209 : 0 ≤ (x5_1 : Int) := da_
           have q209 : x5_1 < (l0.length : Int) := da_
           obtain ⟨ad209, e209, hx209_0⟩ := Kd.at_int HR0.out x5_1 p209 q209
           obtain rfl : ad197 = ad209 := (by injection e209)
           replace hx209_0 := ce_ HB hx209_0
           replace p209 := eq_true p209
           replace q209 := eq_true q209
           obtain ⟨Ao21, co21, eo21⟩ := Kd.R_slice HO208.out
           subst eo21
           try go_wp2_with (first | ((with_reducible refine gate_callee (f := 96) rfl ?_); refine goesL_ (some 41) rfl rfl Try.func96 (by kernel_rfl) rfl #[.slice Ao21 y206.length co21] rfl lm_ ?_; (with_reducible refine (spec_l04Inverse.calls k1 _ _ y206 t210 _ ?side1 ?side2 A13.out).mono ?_); (case side1 => exact cz_ (Kd.R_reads' HO208.out).2.2); (case side2 => exact (Kd.R_reads' HO208.out).2.1); rintro e w22 ⟨v211, rfl, ho0, hb⟩; refine ⟨_, rfl, ?_⟩; have n0_ := am_ (Kd.R_elder' (rk_ HO208.out) (Kd.R_base ho0) hb); have n1_ := am_ (Kd.R_lower (Kd.R_new' ho0 (Kd.R_lt (rk_ HO208.out))) (below_size (bb_ HB.out))); have n2_ := am_ (below_step (bb_ HB.out) hb); clear HO208 HB; revert n0_ n1_ n2_; intro HO208 HO212 HB; (try clear hb); (try clear hb2); (try clear hk); (try clear hi); (try clear ho0)))
           go_ret
           exact ⟨_, by first | rfl | (simp [errW_none, errW_some] <;> rfl) | (simp only [← hji6]; first | rfl | (simp [errW_none, errW_some] <;> rfl)) | (simp [*, errW_none, errW_some] <;> rfl), rm_ HO212.out (fun _ hk => trivial), bb_ HB.out⟩
          ·rw [if_neg c12] at H
           exact absurd H (by simp)
         ·rw [if_neg c11] at H
          exact absurd H (by simp)
        ·rw [if_neg c9] at H
         exact absurd H (by simp)
       ·rw [if_neg c8] at H
        exact absurd H (by simp)
      ·rw [if_neg c7] at H
       exact absurd H (by simp)
     ·rw [if_neg c5] at H
      have c5b0 : ((rd l0 x5_1) == a1) = false := beq_eq_false_iff_ne.mpr c5
      have c5b1 : ((rd l0 x5_1) != a1) = true := bne_iff_ne.mpr c5
      by_cases c23 : (rd l0 x5_1) = (wrap64 (-a1))
      ·rw [if_pos c23] at H
       have c23b0 : ((rd l0 x5_1) == (wrap64 (-a1))) = true := beq_iff_eq.mpr c23
       have c23b1 : ((rd l0 x5_1) != (wrap64 (-a1))) = false := bne_eq_false_iff_eq.mpr c23
       clear c23
       obtain ⟨y214, hy214⟩ : ∃ y_ : List Int, y_ = (([] : List Int)) := ⟨_, rfl⟩
       replace H : (if 0 ≤ (wrap64 (x5_1 + 1)) then (if (wrap64 (x5_1 + 1)) ≤ (l0.length : Int) then (if y214.length + (l0.drop ((wrap64 (x5_1 + 1)) : Int).toNat).length < 17592186044416 then ((some (y214 ++ (l0.drop ((wrap64 (x5_1 + 1)) : Int).toNat) : List Int)).bind fun y218 => (if x5_1 ≤ (l0.length : Int) then (if y218.length + (l0.take (x5_1 : Int).toNat).length < 17592186044416 then (some (y218 ++ (l0.take (x5_1 : Int).toNat))) else (none)) else (none))) else (none)) else (none)) else (none)) = some r := hq_ hy214 H
       have Ny214 := am_ hy214
       clear hy214
       obtain ⟨ji24, hji24⟩ : ∃ j_ : Int, (wrap64 (x5_1 + 1)) = j_ := ⟨_, rfl⟩
       replace H : (if 0 ≤ (ji24) then (if (ji24) ≤ (l0.length : Int) then (if y214.length + (l0.drop ((ji24) : Int).toNat).length < 17592186044416 then ((some (y214 ++ (l0.drop ((ji24) : Int).toNat) : List Int)).bind fun y218 => (if x5_1 ≤ (l0.length : Int) then (if y218.length + (l0.take (x5_1 : Int).toNat).length < 17592186044416 then (some (y218 ++ (l0.take (x5_1 : Int).toNat))) else (none)) else (none))) else (none)) else (none)) else (none)) = some r := by first | (rw [hji24] at H; exact H) | (simp only [hji24] at H ⊢; exact H)
       have hji24w : (IntKind.i64.wrap (x5_1 + 1)) = ji24 := (i64_w _).trans hji24
       by_cases c25 : 0 ≤ (ji24)
       ·rw [if_pos c25] at H
        have c25b0 := eq_true c25
        have c25b1 : decide (0 ≤ (ji24)) = true := decide_eq_true c25
        clear c25
        by_cases c26 : (ji24) ≤ (l0.length : Int)
        ·rw [if_pos c26] at H
         have c26b0 := eq_true c26
         have c26b1 : decide ((ji24) ≤ (l0.length : Int)) = true := decide_eq_true c26
         clear c26
         by_cases c27 : y214.length + (l0.drop ((ji24) : Int).toNat).length < 17592186044416
         ·rw [if_pos c27] at H
          have LMc27 := am_ c27
          clear c27
          obtain ⟨y218, hy218⟩ : ∃ y_ : List Int, y_ = (y214 ++ (l0.drop ((ji24) : Int).toNat)) := ⟨_, rfl⟩
          replace H : (if x5_1 ≤ (l0.length : Int) then (if y218.length + (l0.take (x5_1 : Int).toNat).length < 17592186044416 then (some (y218 ++ (l0.take (x5_1 : Int).toNat))) else (none)) else (none)) = some r := hq_ hy218 H
          have Ny218 := am_ hy218
          clear hy218
          have c28b0 := eq_true (da_ : 0 ≤ x5_1)
          by_cases c29 : x5_1 ≤ (l0.length : Int)
          ·rw [if_pos c29] at H
           have c29b0 := eq_true c29
           have c29b1 : decide (x5_1 ≤ (l0.length : Int)) = true := decide_eq_true c29
           clear c29
           by_cases c30 : y218.length + (l0.take (x5_1 : Int).toNat).length < 17592186044416
           ·rw [if_pos c30] at H
            have LMc30 := am_ c30
            clear c30
            obtain ⟨y222, hy222⟩ : ∃ y_ : List Int, y_ = (y218 ++ (l0.take (x5_1 : Int).toNat)) := ⟨_, rfl⟩
            replace H : (some y222) = some r := hq_ hy222 H
            have Ny222 := am_ hy222
            clear hy222
            obtain rfl := Option.some.inj H
            have p197 : 0 ≤ (x5_1 : Int) := da_
            have q197 : x5_1 < (l0.length : Int) := da_
            obtain ⟨ad197, e197, hx197_0⟩ := Kd.at_int HR0.out x5_1 p197 q197
            cases e197
            replace hx197_0 := ce_ HB hx197_0
            replace p197 := eq_true p197
            replace q197 := eq_true q197
            have p213 : 0 ≤ (x5_1 : Int) := da_
            have q213 : x5_1 < (l0.length : Int) := da_
            obtain ⟨ad213, e213, hx213_0⟩ := Kd.at_int HR0.out x5_1 p213 q213
            obtain rfl : ad197 = ad213 := (by injection e213)
            replace hx213_0 := ce_ HB hx213_0
            replace p213 := eq_true p213
            replace q213 := eq_true q213
            try go_wp2
            have n0_ := am_ (below_drew1 HB.out)
            clear HB; revert n0_; intro HB
            obtain ⟨i032, hi032, _, hsz32, _⟩ := info_parts info2
            obtain ⟨A32, hcut32, hA32, hC32⟩ := print_drop_of (P := Try.prog) (Value.int .i64) 0 39 2 .i64 Try.underlying39 hi032 hsz32 (some ad197) c0 l0 (ji24) da_ da_ HC0.out
            have HR217 := am_ (Kd.C_of_reads (h1 := fun _ => rfl) (hA32 _ (Kd.reads_of_C HR0.out)))
            have HC217 := am_ hC32
            clear hA32 hC32 hi032 hsz32
            obtain ⟨i033, hi033, _, hsz33, _⟩ := info_parts info2
            obtain ⟨hcut33, hA33, hC33⟩ := print_take_of (P := Try.prog) (Value.int .i64) 0 39 2 .i64 Try.underlying39 hi033 hsz33 (some ad197) c0 l0 x5_1 da_ da_ HC0.out
            have HR221 := am_ (Kd.C_of_reads (h1 := fun _ => rfl) (hA33 _ (Kd.reads_of_C HR0.out)))
            have HC221 := am_ hC33
            clear hA33 hC33 hi033 hsz33
            refine start_ (n := 11) (S := fun w' => True) (ds := []) (bA_ 11 0) (by kernel_rfl) rfl (by kernel_rfl) trivial (fun hHeld => ?_); refine with_tabW spec_l04Solve.tab4 spec_l04Solve.bits4 (fun HT_ HW_ => ?_)
            generalize wr.drew = w31 at HB HR217 HR221 hHeld ⊢
            refine pz_ 1 25 (bA_ 11 2) HT_ ?_
            refine pz_ 2 26 (bA_ 11 6) HT_ ?_
            refine pz_ 3 27 (bA_ 11 14) HT_ ?_
            refine pz_ 4 28 (bA_ 11 30) HT_ ?_
            refine pz_ 6 30 (bA_ 11 94) HT_ ?_
            refine pz_ 7 31 (bA_ 11 222) HT_ ?_
            refine pz_ 8 32 (bA_ 11 478) HT_ ?_
            refine oz_ 0 24 (bA_ 11 479) HT_ (fun K hK => ?_)
            refine Kd.R_lit_step (Kd.int .i64) _ 2 ?hg (N := 24) ?hd (xs := ([] : List Int)) (inner := []) (ok := fun _ => True) (okp := fun _ => True) ?hr ?hp (fun _ hk => hk) trivial (Below.refl _ _) (Nat.le_refl _) (by simp) ?_; (case hd => rfl); (case hg => rfl); (case hr => first | (go_simp; done) | (go_simp; rfl)); (case hp => exact (Reps.none _ _))
            intro v215 w34 ho35 hb hg_ hnew_
            clear hg_ hnew_
            (first | rw [← Ny214.out] at ho35 | (simp only [Int.reduceToNat] at ho35; rw [← Ny214.out] at ho35))
            have n0_ := am_ (Kd.R_lower ho35 (below_size (bb_ HB.out)))
            have n1_ := am_ (below_step (bb_ HB.out) hb)
            clear HB; revert n0_ n1_; intro HO216 HB
            clear hb ho35
            refine hK.out _ _ trivial (fun hHeld => ?_)
            clear hK K
            refine nm_ 24 ?_
            refine oz_ 5 29 (bA_ 11 511) HT_ (fun K hK => ?_)
            refine Kd.R_append_rows_step (Kd.int .i64) (w0 := w) w.heap.size (by rfl) (.tmp 24) (.tmp 28) 39 2 (.int .i64 0) 8 rfl Try.underlying39 info2 rfl (by decide) (by omega) v215 y214 (l0.drop ((ji24) : Int).toNat) _ _ _ (fun _ => True) (fun _ => False) rfl rfl ?aO ?aR (fun _ _ h => h) (fun _ h => h.elim) ?aF ?aB ?aS ?aL ?_
            (case aR => first | ((exact cb_ HR217 HB); done) | (refine len_ ?_ (show (l0.drop ((ji24) : Int).toNat).length = (l0.length - (ji24).toNat) from List.length_drop); exact cb_ HR217 HB))
            (case aB => exact (bb_ HB.out))
            (case aF => exact (fun _ _ => trivial))
            (case aO => exact (rk_ HO216.out))
            (case aS => exact (below_size (bb_ HB.out)))
            (case aL => have := LMc27.out; have hlx_ := (show (l0.drop ((ji24) : Int).toNat).length = (l0.length - (ji24).toNat) from List.length_drop); omega)
            intro v219 w36 ho hb hg hat
            rw [← Ny218.out] at ho
            have n0_ := am_ (hb)
            have n1_ := am_ (ho)
            clear HB HO216; revert n0_ n1_; intro HB HO220
            clear ho hb hg hat
            refine hK.out _ _ trivial (fun hHeld => ?_)
            clear hK K
            refine nm_ 29 ?_
            refine oz_ 9 33 (bA_ 11 1023) HT_ (fun K hK => ?_)
            refine Kd.R_append_rows_step (Kd.int .i64) (w0 := w) w.heap.size (by rfl) (.tmp 29) (.tmp 32) 39 2 (.int .i64 0) 8 rfl Try.underlying39 info2 rfl (by decide) (by omega) v219 y218 (l0.take (x5_1 : Int).toNat) _ _ _ (fun _ => True) (fun _ => False) rfl rfl ?aO ?aR (fun _ _ h => h) (fun _ h => h.elim) ?aF ?aB ?aS ?aL ?_
            (case aR => first | ((exact cb_ HR221 HB); done) | (refine len_ ?_ (show (l0.take (x5_1 : Int).toNat).length = x5_1.toNat from (by rw [List.length_take]; have h_ : (x5_1 : Int) ≤ (l0.length : Int) := da_; omega)); exact cb_ HR221 HB))
            (case aB => exact (bb_ HB.out))
            (case aF => exact (fun _ _ => trivial))
            (case aO => exact (rk_ HO220.out))
            (case aS => exact (below_size (bb_ HB.out)))
            (case aL => have := LMc30.out; have hlx_ := (show (l0.take (x5_1 : Int).toNat).length = x5_1.toNat from (by rw [List.length_take]; have h_ : (x5_1 : Int) ≤ (l0.length : Int) := da_; omega)); omega)
            intro v223 w37 ho hb hg hat
            rw [← Ny222.out] at ho
            have n0_ := am_ (hb)
            have n1_ := am_ (ho)
            clear HB HO220; revert n0_ n1_; intro HB HO224
            clear ho hb hg hat
            refine hK.out _ _ trivial (fun hHeld => ?_)
            clear hK K
            refine nm_ 33 ?_
            refine pz_ 10 6 (bA_ 11 2047) HT_ ?_
            refine done_ (done_of HT_.out (by kernel_rfl)) ?_
            have p225 : 0 ≤ (x5_1 : Int) := da_
            have q225 : x5_1 < (l0.length : Int) := da_
            obtain ⟨ad225, e225, hx225_0⟩ := Kd.at_int HR0.out x5_1 p225 q225
            obtain rfl : ad197 = ad225 := (by injection e225)
            replace hx225_0 := ce_ HB hx225_0
            replace p225 := eq_true p225
            replace q225 := eq_true q225
            try go_wp2
            go_ret
            exact ⟨_, by first | rfl | (simp [errW_none, errW_some] <;> rfl) | (simp only [← hji24]; first | rfl | (simp [errW_none, errW_some] <;> rfl)) | (simp [*, errW_none, errW_some] <;> rfl), Rx_ HO224.out, bb_ HB.out⟩
           ·rw [if_neg c30] at H
            exact absurd H (by simp)
          ·rw [if_neg c29] at H
           exact absurd H (by simp)
         ·rw [if_neg c27] at H
          exact absurd H (by simp)
        ·rw [if_neg c26] at H
         exact absurd H (by simp)
       ·rw [if_neg c25] at H
        exact absurd H (by simp)
      ·rw [if_neg c23] at H
       have c23b0 : ((rd l0 x5_1) == (wrap64 (-a1))) = false := beq_eq_false_iff_ne.mpr c23
       have c23b1 : ((rd l0 x5_1) != (wrap64 (-a1))) = true := bne_iff_ne.mpr c23
       have H' := am_ H
       clear H
       have p197 : 0 ≤ (x5_1 : Int) := da_
       have q197 : x5_1 < (l0.length : Int) := da_
       obtain ⟨ad197, e197, hx197_0⟩ := Kd.at_int HR0.out x5_1 p197 q197
       cases e197
       replace hx197_0 := ce_ HB hx197_0
       replace p197 := eq_true p197
       replace q197 := eq_true q197
       have p213 : 0 ≤ (x5_1 : Int) := da_
       have q213 : x5_1 < (l0.length : Int) := da_
       obtain ⟨ad213, e213, hx213_0⟩ := Kd.at_int HR0.out x5_1 p213 q213
       obtain rfl : ad197 = ad213 := (by injection e213)
       replace hx213_0 := ce_ HB hx213_0
       replace p213 := eq_true p213
       replace q213 := eq_true q213
       go_wp2
       go_roundg k1
       case measure => have := HK1.out; omega
       case rel => exact ⟨(wrap64 (x5_1 + 1)), (by first | rfl | (simp; done) | (simp [*]; done)), H', ⟨by have := HK1.out; omega⟩, ⟨bb_ HB.out⟩⟩
    ·rw [if_neg c4] at H
     exact absurd H (by simp)
   ·rw [if_neg c3] at H
    exact absurd H (by simp)

end Go.Proofs.Ytbcdngjajjgmkaa.PFnExactSimplifyPresentation
