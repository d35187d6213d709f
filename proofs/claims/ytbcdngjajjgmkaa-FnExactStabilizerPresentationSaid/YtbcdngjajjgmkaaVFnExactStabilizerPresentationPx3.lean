/- Written by this session's program out of the kit's print and this session's contracts. -/
import Derived.Test.YtbcdngjajjgmkaaVFnExactStabilizerPresentationPx0
import Derived.Test.YtbcdngjajjgmkaaVFnExactStabilizerPresentationPx2
namespace Go.Proofs.Ytbcdngjajjgmkaa.PFnExactStabilizerPresentation
open Go.RowKit Go.Proofs.YtbcdngjajjgmkaaW.PrintWords Go.Proofs.YtbcdngjajjgmkaaW.PrintLast Go.Proofs.YtbcdngjajjgmkaaW.PrintMore
attribute [local go_sem] max2_int min2_int max_two min_two max_three min_three max_four min_four   -- for this text's walks alone
set_option linter.unusedVariables false
set_option linter.unusedSimpArgs false

/-! ### spec_l04Letters: function 61 -/
def spec_l04Letters.l0 : Nat → List Int → Int → Int → Option (Bool)
 | 0, _, _, _ => none
 | k + 1, x0, x1, x5 => if x5 < (x0.length : Int) then (if 0 ≤ x5 then (if (rd x0 x5) = 0 then (some false) else ((spec_l01In.f (rd x0 x5) (wrap64 (-x1)) x1).bind fun t135 => (if t135 = true then (if x5 > 0 then (if 0 ≤ (wrap64 (x5 - 1)) then (if (wrap64 (x5 - 1)) < (x0.length : Int) then (if (rd x0 x5) = (wrap64 (-(rd x0 (wrap64 (x5 - 1))))) then (some false) else (spec_l04Letters.l0 k x0 x1 (wrap64 (x5 + 1)))) else (none)) else (none)) else (spec_l04Letters.l0 k x0 x1 (wrap64 (x5 + 1)))) else (some false)))) else (none)) else (some (decide ((x0.length : Int) ≤ 120)))
def spec_l04Letters.f (k : Nat) (l0 : List Int) (a1 : Int) : Option (Bool) := spec_l04Letters.l0 k l0 a1 0
theorem spec_l04Letters.mono_l : ∀ k, (∀ y0 y1 y2, LeO (spec_l04Letters.l0 k y0 y1 y2) (spec_l04Letters.l0 (k + 1) y0 y1 y2))
 | 0 => fun _ _ _ r h => by simp [spec_l04Letters.l0] at h
 | k + 1 => by
  have ih0 := spec_l04Letters.mono_l k
  ·intro y0 y1 y2
   unfold spec_l04Letters.l0
   repeat' first
   | (with_reducible exact ih0 _ _ _)
   | (with_reducible exact LeO.refl _)
   | (with_reducible exact LeO.none _)
   | (with_reducible refine LeO.ite ?_ ?_)
   | (with_reducible refine LeO.bind ?_ (fun _ => ?_))
   | exact ih0 _ _ _
   | exact LeO.none _
   | refine LeO.ite ?_ ?_
   | refine LeO.bind ?_ (fun _ => ?_)
theorem spec_l04Letters.mono : ∀ a0 a1 k, LeO (spec_l04Letters.f k a0 a1) (spec_l04Letters.f (k + 1) a0 a1) := by
 intro a0 a1 k
 have ih0 := spec_l04Letters.mono_l k
 unfold spec_l04Letters.f
 repeat' first
   | (with_reducible exact ih0 _ _ _)
   | (with_reducible exact LeO.refl _)
   | (with_reducible exact LeO.none _)
   | (with_reducible refine LeO.ite ?_ ?_)
   | (with_reducible refine LeO.bind ?_ (fun _ => ?_))
   | exact ih0 _ _ _
   | exact LeO.none _
   | refine LeO.ite ?_ ?_
   | refine LeO.bind ?_ (fun _ => ?_)
def spec_l04Letters.T4 : Bool × List (List Nat × List Nat) := (true, [([], []), ([], []), ([0, 1], [0, 1]), ([2], [2]), ([3], [3]), ([4], [4]), ([5], [5]), ([5], [5]), ([6, 7, 5], [5, 6, 7]), ([8, 5], [5, 8]), ([5], [5]), ([10, 5], [5, 10]), ([5], [5]), ([9, 11, 12, 5, 5], [5, 9, 11, 12]), ([13, 5], [5, 13]), ([5, 14], [5, 14]), ([15, 13], [15]), ([16], [16]), ([17, 16], [16, 17]), ([18, 16, 16], [16, 18]), ([19], [19]), ([19], [19]), ([20, 21, 19], [19, 20, 21]), ([22, 19], [19, 22]), ([19], [19]), ([19], [19]), ([25, 19], [19, 25]), ([24, 26, 19], [19, 24, 26]), ([27, 19], [19, 27]), ([28, 19], [19, 28]), ([23, 29, 19], [19, 23, 29]), ([19, 30, 16], [16, 19, 30]), ([16, 31], [16, 31])])
def spec_l04Letters.B4 : List Nat := [0, 0, 3, 7, 15, 31, 63, 63, 255, 511, 63, 1087, 63, 8191, 16383, 32767, 65535, 131071, 262143, 524287, 1048575, 1048575, 4194303, 8388607, 1048575, 1048575, 34603007, 118489087, 252706815, 521142271, 1073741823, 2147483647, 4294967295]
theorem spec_l04Letters.tab4 : rtab .any (opsOf Try.f61 4) = spec_l04Letters.T4 := by kernel_rfl
theorem spec_l04Letters.bits4 : waitsOk spec_l04Letters.T4.2 spec_l04Letters.B4 = true := by kernel_rfl
set_option maxHeartbeats 8000000 in
set_option maxRecDepth 100000 in
theorem spec_l04Letters.calls (k : Nat) (A0 : Option Addr) (c0 : Nat) (l0 : List Int) (a1 : Int) (r : Bool) (w : World) (hr0 : Kd.C (Kd.int .i64) w A0 l0.length l0) (hc0 : l0.length ≤ c0) (h : spec_l04Letters.f k l0 a1 = some r) :
  Calls Try.prog 61 #[.slice A0 l0.length c0, .int .i64 a1] w fun e w' => e = .returned (.bool r) ∧ Below w.heap.size w w' := by
 have HR0 := am_ hr0
 have HC0 := am_ hc0
 clear hr0 hc0
 have HB := am_ (Below.refl w.heap.size w)
 have H : (spec_l04Letters.l0 k l0 a1 0) = some r := h
 clear h
 have H' := am_ H
 clear H
 go_enter Try.func61, Try.ntmps61
 go_wp2
 go_loopg [5] k (fun kq v5 w' => ∃ (x5_1 : Int), v5 = .int .i64 x5_1 ∧ Aside0 (spec_l04Letters.l0 kq l0 a1 x5_1 = some r) ∧ Aside0 (kq ≤ k) ∧ Aside0 (Below w.heap.size w w'))
 case atStart => exact ⟨(0), (by first | rfl | (simp; done) | (simp [*]; done)), H', ⟨Nat.le_refl _⟩, ⟨bb_ HB.out⟩⟩
 case round =>
  clear H'
  try clear p2
  obtain ⟨x5_1, rfl, HA, HK1, HB⟩ := hrel
  cases gk with
  | zero => exact absurd HA.out (by simp [spec_l04Letters.l0])
  | succ k1 =>
   have H := HA.out
   clear HA
   simp only [spec_l04Letters.l0] at H
   by_cases c3 : x5_1 < (l0.length : Int)
   ·rw [if_pos c3] at H
    have c3b0 : decide (x5_1 < (l0.length : Int)) = true := decide_eq_true c3
    clear c3
    by_cases c4 : 0 ≤ x5_1
    ·rw [if_pos c4] at H
     have c4b0 : decide (0 ≤ x5_1) = true := decide_eq_true c4
     clear c4
     by_cases c5 : (rd l0 x5_1) = 0
     ·rw [if_pos c5] at H
      have c5b0 : ((rd l0 x5_1) == 0) = true := beq_iff_eq.mpr c5
      have c5b1 : ((rd l0 x5_1) != 0) = false := bne_eq_false_iff_eq.mpr c5
      clear c5
      obtain rfl := Option.some.inj H
      try go_wp2
      have n0_ := am_ (below_drew1 HB.out)
      clear HB; revert n0_; intro HB
      have p133 : 0 ≤ (x5_1 : Int) := of_decide_eq_true (by first | (with_reducible assumption) | assumption)
      have q133 : x5_1 < (l0.length : Int) := of_decide_eq_true (by first | (with_reducible assumption) | assumption)
      obtain ⟨ad133, e133, hx133_0⟩ := Kd.at_int HR0.out x5_1 p133 q133
      have hw133_0 := hx133_0
      cases e133
      replace hx133_0 := (HB.out.cell (World.block_lt_of_cell? w _ hx133_0)).trans hx133_0
      replace p133 := eq_true p133
      replace q133 := eq_true q133
      refine start_ (n := 33) (S := fun w' => w'.cell? (ad133.add (x5_1).toNat) = some (.int .i64 (rd l0 x5_1))) (ds := []) (bA_ 33 0) (by kernel_rfl) rfl (by kernel_rfl) (((HB.out.cell (World.block_lt_of_cell? w _ hw133_0)).trans hw133_0)) (fun hHeld => ?_); refine with_tabW spec_l04Letters.tab4 spec_l04Letters.bits4 (fun HT_ HW_ => ?_)
      generalize wr.drew = w6 at HB hx133_0 hHeld ⊢
      refine pz_ 0 12 (bA_ 33 1) HT_ ?_
      refine pz_ 1 13 (bA_ 33 3) HT_ ?_
      refine pz_ 2 14 (bA_ 33 7) HT_ ?_
      refine tz_ 3 15 (bA_ 33 15) HT_ HW_ hHeld ?_
      refine pz_ 4 16 (bA_ 33 31) HT_ ?_
      refine pz_ 5 17 (bA_ 33 63) HT_ ?_
      refine pu_ 6 18 (bA_ 33 127) HT_ ?_
      refine pu_ 7 19 (bA_ 33 255) HT_ ?_
      refine pu_ 8 20 (bA_ 33 511) HT_ ?_
      refine pu_ 9 21 (bA_ 33 1023) HT_ ?_
      refine pu_ 10 22 (bA_ 33 2047) HT_ ?_
      refine pu_ 11 23 (bA_ 33 4095) HT_ ?_
      refine pu_ 12 24 (bA_ 33 8191) HT_ ?_
      refine pu_ 13 25 (bA_ 33 16383) HT_ ?_
      refine pu_ 14 26 (bA_ 33 32767) HT_ ?_
      refine pz_ 15 27 (bA_ 33 65535) HT_ ?_
      refine pz_ 16 28 (bA_ 33 131071) HT_ ?_
      refine pu_ 17 29 (bA_ 33 262143) HT_ ?_
      refine pu_ 18 30 (bA_ 33 524287) HT_ ?_
      refine pu_ 19 31 (bA_ 33 1048575) HT_ ?_
      refine pu_ 20 32 (bA_ 33 2097151) HT_ ?_
      refine pu_ 21 33 (bA_ 33 4194303) HT_ ?_
      refine pu_ 22 34 (bA_ 33 8388607) HT_ ?_
      refine pu_ 23 35 (bA_ 33 16777215) HT_ ?_
      refine pu_ 24 36 (bA_ 33 33554431) HT_ ?_
      refine pu_ 25 37 (bA_ 33 67108863) HT_ ?_
      refine pu_ 26 38 (bA_ 33 134217727) HT_ ?_
      refine pu_ 27 39 (bA_ 33 268435455) HT_ ?_
      refine pu_ 28 40 (bA_ 33 536870911) HT_ ?_
      refine pu_ 29 41 (bA_ 33 1073741823) HT_ ?_
      refine pu_ 30 42 (bA_ 33 2147483647) HT_ ?_
      refine pu_ 31 43 (bA_ 33 4294967295) HT_ ?_
      refine pz_ 32 44 (bA_ 33 8589934591) HT_ ?_
      refine done_ (done_of HT_.out (by kernel_rfl)) ?_
      try go_wp2
      go_ret
      exact ⟨by first | rfl | (simp [errW_none, errW_some] <;> rfl) | (simp [*, errW_none, errW_some] <;> rfl), bb_ HB.out⟩
     ·rw [if_neg c5] at H
      have c5b0 : ((rd l0 x5_1) == 0) = false := beq_eq_false_iff_ne.mpr c5
      have c5b1 : ((rd l0 x5_1) != 0) = true := bne_iff_ne.mpr c5
      replace H := Option.bind_eq_some_iff.mp H
      obtain ⟨t135, A70, H⟩ := H
      replace H : (if t135 = true then (if x5_1 > 0 then (if 0 ≤ (wrap64 (x5_1 - 1)) then (if (wrap64 (x5_1 - 1)) < (l0.length : Int) then (if (rd l0 x5_1) = (wrap64 (-(rd l0 (wrap64 (x5_1 - 1))))) then (some false) else (spec_l04Letters.l0 k1 l0 a1 (wrap64 (x5_1 + 1)))) else (none)) else (none)) else (spec_l04Letters.l0 k1 l0 a1 (wrap64 (x5_1 + 1)))) else (some false)) = some r := H
      have A7 := am_ A70
      clear A70
      by_cases c8 : t135 = true
      ·subst c8
       have H1 : (if x5_1 > 0 then (if 0 ≤ (wrap64 (x5_1 - 1)) then (if (wrap64 (x5_1 - 1)) < (l0.length : Int) then (if (rd l0 x5_1) = (wrap64 (-(rd l0 (wrap64 (x5_1 - 1))))) then (some false) else (spec_l04Letters.l0 k1 l0 a1 (wrap64 (x5_1 + 1)))) else (none)) else (none)) else (spec_l04Letters.l0 k1 l0 a1 (wrap64 (x5_1 + 1)))) = some r := by rw [if_pos rfl] at H; exact H
       clear H
       have H := H1
       clear H1
       by_cases c9 : x5_1 > 0
       ·rw [if_pos c9] at H
        have c9b0 : decide (0 < x5_1) = true := decide_eq_true c9
        clear c9
        obtain ⟨ji10, hji10⟩ : ∃ j_ : Int, (wrap64 (x5_1 - 1)) = j_ := ⟨_, rfl⟩
        replace H : (if 0 ≤ (ji10) then (if (ji10) < (l0.length : Int) then (if (rd l0 x5_1) = (wrap64 (-(rd l0 (ji10)))) then (some false) else (spec_l04Letters.l0 k1 l0 a1 (wrap64 (x5_1 + 1)))) else (none)) else (none)) = some r := by first | (rw [hji10] at H; exact H) | (simp only [hji10] at H ⊢; exact H)
        (try rw [hji10] at A7)
        have hji10w : (IntKind.i64.wrap (x5_1 - 1)) = ji10 := (i64_w _).trans hji10
        by_cases c11 : 0 ≤ (ji10)
        ·rw [if_pos c11] at H
         have c11b0 : decide (0 ≤ (ji10)) = true := decide_eq_true c11
         clear c11
         by_cases c12 : (ji10) < (l0.length : Int)
         ·rw [if_pos c12] at H
          have c12b0 : decide ((ji10) < (l0.length : Int)) = true := decide_eq_true c12
          clear c12
          by_cases c13 : (rd l0 x5_1) = (wrap64 (-(rd l0 (ji10))))
          ·rw [if_pos c13] at H
           have c13b0 : ((rd l0 x5_1) == (wrap64 (-(rd l0 (ji10))))) = true := beq_iff_eq.mpr c13
           have c13b1 : ((rd l0 x5_1) != (wrap64 (-(rd l0 (ji10))))) = false := bne_eq_false_iff_eq.mpr c13
           clear c13
           obtain rfl := Option.some.inj H
           try go_wp2
           have n0_ := am_ (below_drew1 HB.out)
           clear HB; revert n0_; intro HB
           have p133 : 0 ≤ (x5_1 : Int) := of_decide_eq_true (by first | (with_reducible assumption) | assumption)
           have q133 : x5_1 < (l0.length : Int) := of_decide_eq_true (by first | (with_reducible assumption) | assumption)
           obtain ⟨ad133, e133, hx133_0⟩ := Kd.at_int HR0.out x5_1 p133 q133
           have hw133_0 := hx133_0
           cases e133
           replace hx133_0 := (HB.out.cell (World.block_lt_of_cell? w _ hx133_0)).trans hx133_0
           replace p133 := eq_true p133
           replace q133 := eq_true q133
           have p134 : 0 ≤ (x5_1 : Int) := of_decide_eq_true (by first | (with_reducible assumption) | assumption)
           have q134 : x5_1 < (l0.length : Int) := of_decide_eq_true (by first | (with_reducible assumption) | assumption)
           obtain ⟨ad134, e134, hx134_0⟩ := Kd.at_int HR0.out x5_1 p134 q134
           have hw134_0 := hx134_0
           obtain rfl : ad133 = ad134 := (by injection e134)
           replace hx134_0 := (HB.out.cell (World.block_lt_of_cell? w _ hx134_0)).trans hx134_0
           replace p134 := eq_true p134
           replace q134 := eq_true q134
           have p136 : 0 ≤ (x5_1 : Int) := of_decide_eq_true (by first | (with_reducible assumption) | assumption)
           have q136 : x5_1 < (l0.length : Int) := of_decide_eq_true (by first | (with_reducible assumption) | assumption)
           obtain ⟨ad136, e136, hx136_0⟩ := Kd.at_int HR0.out x5_1 p136 q136
           have hw136_0 := hx136_0
           obtain rfl : ad133 = ad136 := (by injection e136)
           replace hx136_0 := (HB.out.cell (World.block_lt_of_cell? w _ hx136_0)).trans hx136_0
           replace p136 := eq_true p136
           replace q136 := eq_true q136
           have p137 : 0 ≤ ((ji10) : Int) := of_decide_eq_true (by first | (with_reducible assumption) | assumption)
           have q137 : (ji10) < (l0.length : Int) := of_decide_eq_true (by first | (with_reducible assumption) | assumption)
           obtain ⟨ad137, e137, hx137_0⟩ := Kd.at_int HR0.out (ji10) p137 q137
           have hw137_0 := hx137_0
           obtain rfl : ad133 = ad137 := (by injection e137)
           replace hx137_0 := (HB.out.cell (World.block_lt_of_cell? w _ hx137_0)).trans hx137_0
           replace p137 := eq_true p137
           replace q137 := eq_true q137
           refine start_ (n := 33) (S := fun w' => w'.cell? (ad133.add (x5_1).toNat) = some (.int .i64 (rd l0 x5_1)) ∧ w'.cell? (ad133.add (x5_1).toNat) = some (.int .i64 (rd l0 x5_1)) ∧ w'.cell? (ad133.add (x5_1).toNat) = some (.int .i64 (rd l0 x5_1)) ∧ w'.cell? (ad133.add ((ji10)).toNat) = some (.int .i64 (rd l0 (ji10)))) (ds := []) (bA_ 33 0) (by kernel_rfl) rfl (by kernel_rfl) ⟨((HB.out.cell (World.block_lt_of_cell? w _ hw133_0)).trans hw133_0), ((HB.out.cell (World.block_lt_of_cell? w _ hw134_0)).trans hw134_0), ((HB.out.cell (World.block_lt_of_cell? w _ hw136_0)).trans hw136_0), ((HB.out.cell (World.block_lt_of_cell? w _ hw137_0)).trans hw137_0)⟩ (fun hHeld => ?_); refine with_tabW spec_l04Letters.tab4 spec_l04Letters.bits4 (fun HT_ HW_ => ?_)
           generalize wr.drew = w14 at HB hx133_0 hx134_0 hx136_0 hx137_0 hHeld ⊢
           refine pz_ 0 12 (bA_ 33 1) HT_ ?_
           refine pz_ 1 13 (bA_ 33 3) HT_ ?_
           refine pz_ 2 14 (bA_ 33 7) HT_ ?_
           refine tz_ 3 15 (bA_ 33 15) HT_ HW_ hHeld ?_
           refine pz_ 4 16 (bA_ 33 31) HT_ ?_
           refine pz_ 5 17 (bA_ 33 63) HT_ ?_
           refine pz_ 6 18 (bA_ 33 127) HT_ ?_
           refine pz_ 7 19 (bA_ 33 255) HT_ ?_
           refine pz_ 8 20 (bA_ 33 511) HT_ ?_
           refine pz_ 10 22 (bA_ 33 1535) HT_ ?_
           refine pz_ 11 23 (bA_ 33 3583) HT_ ?_
           refine pz_ 12 24 (bA_ 33 7679) HT_ ?_
           refine tz_ 9 21 (bA_ 33 8191) HT_ HW_ hHeld ?_
           refine one_ (i := 13) (N := some 25) (bA_ 33 16383) rfl rfl (one_of HT_.out (by kernel_rfl)) (by decide) (fun K hK => ?_)
           refine goes_ Try.func39 (by kernel_rfl) rfl #[.int .i64 (rd l0 x5_1), .int .i64 (wrap64 (-a1)), .int .i64 a1] (by rfl) rfl rfl lm_ ?_
           with_reducible refine (spec_l01In.calls (rd l0 x5_1) (wrap64 (-a1)) a1 true _ A7.out).mono ?_
           rintro e w' ⟨rfl, ⟨nd, rfl⟩⟩
           refine ⟨_, rfl, ?_⟩
           refine hK.out _ _ ⟨((HB.out.cell (World.block_lt_of_cell? w _ hw133_0)).trans hw133_0), ((HB.out.cell (World.block_lt_of_cell? w _ hw134_0)).trans hw134_0), ((HB.out.cell (World.block_lt_of_cell? w _ hw136_0)).trans hw136_0), ((HB.out.cell (World.block_lt_of_cell? w _ hw137_0)).trans hw137_0)⟩ (fun hHeld => ?_)
           clear hK K
           refine norm_ (a' := ?_) ?_ ?_
           rotate_left
           ·show Act.put _ (some 25) _ = _
            simp only [Act.put, List.setIfInBounds_toArray, List.set_cons_zero, List.set_cons_succ, i64_w, i32_w]
            rfl
           refine pz_ 14 26 (bA_ 33 32767) HT_ ?_
           refine pz_ 15 27 (bA_ 33 65535) HT_ ?_
           refine pz_ 16 28 (bA_ 33 131071) HT_ ?_
           refine pz_ 17 29 (bA_ 33 262143) HT_ ?_
           refine pz_ 18 30 (bA_ 33 524287) HT_ ?_
           refine pz_ 19 31 (bA_ 33 1048575) HT_ ?_
           refine pz_ 20 32 (bA_ 33 2097151) HT_ ?_
           refine pz_ 21 33 (bA_ 33 4194303) HT_ ?_
           refine pz_ 22 34 (bA_ 33 8388607) HT_ ?_
           refine pz_ 24 36 (bA_ 33 25165823) HT_ ?_
           refine pz_ 25 37 (bA_ 33 58720255) HT_ ?_
           refine pz_ 26 38 (bA_ 33 125829119) HT_ ?_
           refine pz_ 27 39 (bA_ 33 260046847) HT_ ?_
           refine tz_ 23 35 (bA_ 33 268435455) HT_ HW_ hHeld ?_
           refine tz_ 28 40 (bA_ 33 536870911) HT_ HW_ hHeld ?_
           refine pz_ 29 41 (bA_ 33 1073741823) HT_ ?_
           refine pz_ 30 42 (bA_ 33 2147483647) HT_ ?_
           refine pz_ 31 43 (bA_ 33 4294967295) HT_ ?_
           refine pz_ 32 44 (bA_ 33 8589934591) HT_ ?_
           refine done_ (done_of HT_.out (by kernel_rfl)) ?_
           try go_wp2
           go_ret
           exact ⟨by first | rfl | (simp [errW_none, errW_some] <;> rfl) | (simp only [← hji10]; first | rfl | (simp [errW_none, errW_some] <;> rfl)) | (simp [*, errW_none, errW_some] <;> rfl), bb_ HB.out⟩
          ·rw [if_neg c13] at H
           have c13b0 : ((rd l0 x5_1) == (wrap64 (-(rd l0 (ji10))))) = false := beq_eq_false_iff_ne.mpr c13
           have c13b1 : ((rd l0 x5_1) != (wrap64 (-(rd l0 (ji10))))) = true := bne_iff_ne.mpr c13
           have H' := am_ H
           clear H
           try go_wp2
           have n0_ := am_ (below_drew1 HB.out)
           clear HB; revert n0_; intro HB
           have p133 : 0 ≤ (x5_1 : Int) := of_decide_eq_true (by first | (with_reducible assumption) | assumption)
           have q133 : x5_1 < (l0.length : Int) := of_decide_eq_true (by first | (with_reducible assumption) | assumption)
           obtain ⟨ad133, e133, hx133_0⟩ := Kd.at_int HR0.out x5_1 p133 q133
           have hw133_0 := hx133_0
           cases e133
           replace hx133_0 := (HB.out.cell (World.block_lt_of_cell? w _ hx133_0)).trans hx133_0
           replace p133 := eq_true p133
           replace q133 := eq_true q133
           have p134 : 0 ≤ (x5_1 : Int) := of_decide_eq_true (by first | (with_reducible assumption) | assumption)
           have q134 : x5_1 < (l0.length : Int) := of_decide_eq_true (by first | (with_reducible assumption) | assumption)
           obtain ⟨ad134, e134, hx134_0⟩ := Kd.at_int HR0.out x5_1 p134 q134
           have hw134_0 := hx134_0
           obtain rfl : ad133 = ad134 := (by injection e134)
           replace hx134_0 := (HB.out.cell (World.block_lt_of_cell? w _ hx134_0)).trans hx134_0
           replace p134 := eq_true p134
           replace q134 := eq_true q134
           have p136 : 0 ≤ (x5_1 : Int) := of_decide_eq_true (by first | (with_reducible assumption) | assumption)
           have q136 : x5_1 < (l0.length : Int) := of_decide_eq_true (by first | (with_reducible assumption) | assumption)
           obtain ⟨ad136, e136, hx136_0⟩ := Kd.at_int HR0.out x5_1 p136 q136
           have hw136_0 := hx136_0
           obtain rfl : ad133 = ad136 := (by injection e136)
           replace hx136_0 := (HB.out.cell (World.block_lt_of_cell? w _ hx136_0)).trans hx136_0
           replace p136 := eq_true p136
           replace q136 := eq_true q136
           have p137 : 0 ≤ ((ji10) : Int) := of_decide_eq_true (by first | (with_reducible assumption) | assumption)
           have q137 : (ji10) < (l0.length : Int) := of_decide_eq_true (by first | (with_reducible assumption) | assumption)
           obtain ⟨ad137, e137, hx137_0⟩ := Kd.at_int HR0.out (ji10) p137 q137
           have hw137_0 := hx137_0
           obtain rfl : ad133 = ad137 := (by injection e137)
           replace hx137_0 := (HB.out.cell (World.block_lt_of_cell? w _ hx137_0)).trans hx137_0
           replace p137 := eq_true p137
           replace q137 := eq_true q137
           refine start_ (n := 33) (S := fun w' => w'.cell? (ad133.add (x5_1).toNat) = some (.int .i64 (rd l0 x5_1)) ∧ w'.cell? (ad133.add (x5_1).toNat) = some (.int .i64 (rd l0 x5_1)) ∧ w'.cell? (ad133.add (x5_1).toNat) = some (.int .i64 (rd l0 x5_1)) ∧ w'.cell? (ad133.add ((ji10)).toNat) = some (.int .i64 (rd l0 (ji10)))) (ds := []) (bA_ 33 0) (by kernel_rfl) rfl (by kernel_rfl) ⟨((HB.out.cell (World.block_lt_of_cell? w _ hw133_0)).trans hw133_0), ((HB.out.cell (World.block_lt_of_cell? w _ hw134_0)).trans hw134_0), ((HB.out.cell (World.block_lt_of_cell? w _ hw136_0)).trans hw136_0), ((HB.out.cell (World.block_lt_of_cell? w _ hw137_0)).trans hw137_0)⟩ (fun hHeld => ?_); refine with_tabW spec_l04Letters.tab4 spec_l04Letters.bits4 (fun HT_ HW_ => ?_)
           generalize wr.drew = w15 at HB hx133_0 hx134_0 hx136_0 hx137_0 hHeld ⊢
           refine pz_ 0 12 (bA_ 33 1) HT_ ?_
           refine pz_ 1 13 (bA_ 33 3) HT_ ?_
           refine pz_ 2 14 (bA_ 33 7) HT_ ?_
           refine tz_ 3 15 (bA_ 33 15) HT_ HW_ hHeld ?_
           refine pz_ 4 16 (bA_ 33 31) HT_ ?_
           refine pz_ 5 17 (bA_ 33 63) HT_ ?_
           refine pz_ 6 18 (bA_ 33 127) HT_ ?_
           refine pz_ 7 19 (bA_ 33 255) HT_ ?_
           refine pz_ 8 20 (bA_ 33 511) HT_ ?_
           refine pz_ 10 22 (bA_ 33 1535) HT_ ?_
           refine pz_ 11 23 (bA_ 33 3583) HT_ ?_
           refine pz_ 12 24 (bA_ 33 7679) HT_ ?_
           refine tz_ 9 21 (bA_ 33 8191) HT_ HW_ hHeld ?_
           refine one_ (i := 13) (N := some 25) (bA_ 33 16383) rfl rfl (one_of HT_.out (by kernel_rfl)) (by decide) (fun K hK => ?_)
           refine goes_ Try.func39 (by kernel_rfl) rfl #[.int .i64 (rd l0 x5_1), .int .i64 (wrap64 (-a1)), .int .i64 a1] (by rfl) rfl rfl lm_ ?_
           with_reducible refine (spec_l01In.calls (rd l0 x5_1) (wrap64 (-a1)) a1 true _ A7.out).mono ?_
           rintro e w' ⟨rfl, ⟨nd, rfl⟩⟩
           refine ⟨_, rfl, ?_⟩
           refine hK.out _ _ ⟨((HB.out.cell (World.block_lt_of_cell? w _ hw133_0)).trans hw133_0), ((HB.out.cell (World.block_lt_of_cell? w _ hw134_0)).trans hw134_0), ((HB.out.cell (World.block_lt_of_cell? w _ hw136_0)).trans hw136_0), ((HB.out.cell (World.block_lt_of_cell? w _ hw137_0)).trans hw137_0)⟩ (fun hHeld => ?_)
           clear hK K
           refine norm_ (a' := ?_) ?_ ?_
           rotate_left
           ·show Act.put _ (some 25) _ = _
            simp only [Act.put, List.setIfInBounds_toArray, List.set_cons_zero, List.set_cons_succ, i64_w, i32_w]
            rfl
           refine pz_ 14 26 (bA_ 33 32767) HT_ ?_
           refine pz_ 15 27 (bA_ 33 65535) HT_ ?_
           refine pz_ 16 28 (bA_ 33 131071) HT_ ?_
           refine pz_ 17 29 (bA_ 33 262143) HT_ ?_
           refine pz_ 18 30 (bA_ 33 524287) HT_ ?_
           refine pz_ 19 31 (bA_ 33 1048575) HT_ ?_
           refine pz_ 20 32 (bA_ 33 2097151) HT_ ?_
           refine pz_ 21 33 (bA_ 33 4194303) HT_ ?_
           refine pz_ 22 34 (bA_ 33 8388607) HT_ ?_
           refine pz_ 24 36 (bA_ 33 25165823) HT_ ?_
           refine pz_ 25 37 (bA_ 33 58720255) HT_ ?_
           refine pz_ 26 38 (bA_ 33 125829119) HT_ ?_
           refine pz_ 27 39 (bA_ 33 260046847) HT_ ?_
           refine tz_ 23 35 (bA_ 33 268435455) HT_ HW_ hHeld ?_
           refine tz_ 28 40 (bA_ 33 536870911) HT_ HW_ hHeld ?_
           refine pz_ 29 41 (bA_ 33 1073741823) HT_ ?_
           refine pz_ 30 42 (bA_ 33 2147483647) HT_ ?_
           refine pz_ 31 43 (bA_ 33 4294967295) HT_ ?_
           refine pz_ 32 44 (bA_ 33 8589934591) HT_ ?_
           refine done_ (done_of HT_.out (by kernel_rfl)) ?_
           try go_wp2
           go_roundg k1
           case measure => have := HK1.out; omega
           case rel => exact ⟨(wrap64 (x5_1 + 1)), (by first | rfl | (simp; done) | (simp [*]; done)), H', ⟨by have := HK1.out; omega⟩, ⟨bb_ HB.out⟩⟩
         ·rw [if_neg c12] at H
          exact absurd H (by simp)
        ·rw [if_neg c11] at H
         exact absurd H (by simp)
       ·rw [if_neg c9] at H
        have c9b0 : decide (0 < x5_1) = false := decide_eq_false c9
        clear c9
        have H' := am_ H
        clear H
        try go_wp2
        have n0_ := am_ (below_drew1 HB.out)
        clear HB; revert n0_; intro HB
        have p133 : 0 ≤ (x5_1 : Int) := of_decide_eq_true (by first | (with_reducible assumption) | assumption)
        have q133 : x5_1 < (l0.length : Int) := of_decide_eq_true (by first | (with_reducible assumption) | assumption)
        obtain ⟨ad133, e133, hx133_0⟩ := Kd.at_int HR0.out x5_1 p133 q133
        have hw133_0 := hx133_0
        cases e133
        replace hx133_0 := (HB.out.cell (World.block_lt_of_cell? w _ hx133_0)).trans hx133_0
        replace p133 := eq_true p133
        replace q133 := eq_true q133
        have p134 : 0 ≤ (x5_1 : Int) := of_decide_eq_true (by first | (with_reducible assumption) | assumption)
        have q134 : x5_1 < (l0.length : Int) := of_decide_eq_true (by first | (with_reducible assumption) | assumption)
        obtain ⟨ad134, e134, hx134_0⟩ := Kd.at_int HR0.out x5_1 p134 q134
        have hw134_0 := hx134_0
        obtain rfl : ad133 = ad134 := (by injection e134)
        replace hx134_0 := (HB.out.cell (World.block_lt_of_cell? w _ hx134_0)).trans hx134_0
        replace p134 := eq_true p134
        replace q134 := eq_true q134
        refine start_ (n := 33) (S := fun w' => w'.cell? (ad133.add (x5_1).toNat) = some (.int .i64 (rd l0 x5_1)) ∧ w'.cell? (ad133.add (x5_1).toNat) = some (.int .i64 (rd l0 x5_1))) (ds := []) (bA_ 33 0) (by kernel_rfl) rfl (by kernel_rfl) ⟨((HB.out.cell (World.block_lt_of_cell? w _ hw133_0)).trans hw133_0), ((HB.out.cell (World.block_lt_of_cell? w _ hw134_0)).trans hw134_0)⟩ (fun hHeld => ?_); refine with_tabW spec_l04Letters.tab4 spec_l04Letters.bits4 (fun HT_ HW_ => ?_)
        generalize wr.drew = w16 at HB hx133_0 hx134_0 hHeld ⊢
        refine pz_ 0 12 (bA_ 33 1) HT_ ?_
        refine pz_ 1 13 (bA_ 33 3) HT_ ?_
        refine pz_ 2 14 (bA_ 33 7) HT_ ?_
        refine tz_ 3 15 (bA_ 33 15) HT_ HW_ hHeld ?_
        refine pz_ 4 16 (bA_ 33 31) HT_ ?_
        refine pz_ 5 17 (bA_ 33 63) HT_ ?_
        refine pz_ 6 18 (bA_ 33 127) HT_ ?_
        refine pz_ 7 19 (bA_ 33 255) HT_ ?_
        refine pz_ 8 20 (bA_ 33 511) HT_ ?_
        refine pz_ 10 22 (bA_ 33 1535) HT_ ?_
        refine pz_ 11 23 (bA_ 33 3583) HT_ ?_
        refine pz_ 12 24 (bA_ 33 7679) HT_ ?_
        refine tz_ 9 21 (bA_ 33 8191) HT_ HW_ hHeld ?_
        refine one_ (i := 13) (N := some 25) (bA_ 33 16383) rfl rfl (one_of HT_.out (by kernel_rfl)) (by decide) (fun K hK => ?_)
        refine goes_ Try.func39 (by kernel_rfl) rfl #[.int .i64 (rd l0 x5_1), .int .i64 (wrap64 (-a1)), .int .i64 a1] (by rfl) rfl rfl lm_ ?_
        with_reducible refine (spec_l01In.calls (rd l0 x5_1) (wrap64 (-a1)) a1 true _ A7.out).mono ?_
        rintro e w' ⟨rfl, ⟨nd, rfl⟩⟩
        refine ⟨_, rfl, ?_⟩
        refine hK.out _ _ ⟨((HB.out.cell (World.block_lt_of_cell? w _ hw133_0)).trans hw133_0), ((HB.out.cell (World.block_lt_of_cell? w _ hw134_0)).trans hw134_0)⟩ (fun hHeld => ?_)
        clear hK K
        refine norm_ (a' := ?_) ?_ ?_
        rotate_left
        ·show Act.put _ (some 25) _ = _
         simp only [Act.put, List.setIfInBounds_toArray, List.set_cons_zero, List.set_cons_succ, i64_w, i32_w]
         rfl
        refine pz_ 14 26 (bA_ 33 32767) HT_ ?_
        refine pz_ 15 27 (bA_ 33 65535) HT_ ?_
        refine pz_ 16 28 (bA_ 33 131071) HT_ ?_
        refine pz_ 17 29 (bA_ 33 262143) HT_ ?_
        refine pz_ 18 30 (bA_ 33 524287) HT_ ?_
        refine pz_ 19 31 (bA_ 33 1048575) HT_ ?_
        refine pu_ 20 32 (bA_ 33 2097151) HT_ ?_
        refine pu_ 21 33 (bA_ 33 4194303) HT_ ?_
        refine pu_ 22 34 (bA_ 33 8388607) HT_ ?_
        refine pu_ 23 35 (bA_ 33 16777215) HT_ ?_
        refine pu_ 24 36 (bA_ 33 33554431) HT_ ?_
        refine pu_ 25 37 (bA_ 33 67108863) HT_ ?_
        refine pu_ 26 38 (bA_ 33 134217727) HT_ ?_
        refine pu_ 27 39 (bA_ 33 268435455) HT_ ?_
        refine pu_ 28 40 (bA_ 33 536870911) HT_ ?_
        refine pu_ 29 41 (bA_ 33 1073741823) HT_ ?_
        refine pu_ 30 42 (bA_ 33 2147483647) HT_ ?_
        refine pz_ 31 43 (bA_ 33 4294967295) HT_ ?_
        refine pz_ 32 44 (bA_ 33 8589934591) HT_ ?_
        refine done_ (done_of HT_.out (by kernel_rfl)) ?_
        try go_wp2
        go_roundg k1
        case measure => have := HK1.out; omega
        case rel => exact ⟨(wrap64 (x5_1 + 1)), (by first | rfl | (simp; done) | (simp [*]; done)), H', ⟨by have := HK1.out; omega⟩, ⟨bb_ HB.out⟩⟩
      ·replace c8 := Bool.eq_false_iff.mpr c8
       subst c8
       have H1 : (some false) = some r := by rw [if_neg (show ¬ (false = true) by decide)] at H; exact H
       clear H
       have H := H1
       clear H1
       obtain rfl := Option.some.inj H
       try go_wp2
       have n0_ := am_ (below_drew1 HB.out)
       clear HB; revert n0_; intro HB
       have p133 : 0 ≤ (x5_1 : Int) := of_decide_eq_true (by first | (with_reducible assumption) | assumption)
       have q133 : x5_1 < (l0.length : Int) := of_decide_eq_true (by first | (with_reducible assumption) | assumption)
       obtain ⟨ad133, e133, hx133_0⟩ := Kd.at_int HR0.out x5_1 p133 q133
       have hw133_0 := hx133_0
       cases e133
       replace hx133_0 := (HB.out.cell (World.block_lt_of_cell? w _ hx133_0)).trans hx133_0
       replace p133 := eq_true p133
       replace q133 := eq_true q133
       have p134 : 0 ≤ (x5_1 : Int) := of_decide_eq_true (by first | (with_reducible assumption) | assumption)
       have q134 : x5_1 < (l0.length : Int) := of_decide_eq_true (by first | (with_reducible assumption) | assumption)
       obtain ⟨ad134, e134, hx134_0⟩ := Kd.at_int HR0.out x5_1 p134 q134
       have hw134_0 := hx134_0
       obtain rfl : ad133 = ad134 := (by injection e134)
       replace hx134_0 := (HB.out.cell (World.block_lt_of_cell? w _ hx134_0)).trans hx134_0
       replace p134 := eq_true p134
       replace q134 := eq_true q134
       refine start_ (n := 33) (S := fun w' => w'.cell? (ad133.add (x5_1).toNat) = some (.int .i64 (rd l0 x5_1)) ∧ w'.cell? (ad133.add (x5_1).toNat) = some (.int .i64 (rd l0 x5_1))) (ds := []) (bA_ 33 0) (by kernel_rfl) rfl (by kernel_rfl) ⟨((HB.out.cell (World.block_lt_of_cell? w _ hw133_0)).trans hw133_0), ((HB.out.cell (World.block_lt_of_cell? w _ hw134_0)).trans hw134_0)⟩ (fun hHeld => ?_); refine with_tabW spec_l04Letters.tab4 spec_l04Letters.bits4 (fun HT_ HW_ => ?_)
       generalize wr.drew = w17 at HB hx133_0 hx134_0 hHeld ⊢
       refine pz_ 0 12 (bA_ 33 1) HT_ ?_
       refine pz_ 1 13 (bA_ 33 3) HT_ ?_
       refine pz_ 2 14 (bA_ 33 7) HT_ ?_
       refine tz_ 3 15 (bA_ 33 15) HT_ HW_ hHeld ?_
       refine pz_ 4 16 (bA_ 33 31) HT_ ?_
       refine pz_ 5 17 (bA_ 33 63) HT_ ?_
       refine pz_ 6 18 (bA_ 33 127) HT_ ?_
       refine pz_ 7 19 (bA_ 33 255) HT_ ?_
       refine pz_ 8 20 (bA_ 33 511) HT_ ?_
       refine pz_ 10 22 (bA_ 33 1535) HT_ ?_
       refine pz_ 11 23 (bA_ 33 3583) HT_ ?_
       refine pz_ 12 24 (bA_ 33 7679) HT_ ?_
       refine tz_ 9 21 (bA_ 33 8191) HT_ HW_ hHeld ?_
       refine one_ (i := 13) (N := some 25) (bA_ 33 16383) rfl rfl (one_of HT_.out (by kernel_rfl)) (by decide) (fun K hK => ?_)
       refine goes_ Try.func39 (by kernel_rfl) rfl #[.int .i64 (rd l0 x5_1), .int .i64 (wrap64 (-a1)), .int .i64 a1] (by rfl) rfl rfl lm_ ?_
       with_reducible refine (spec_l01In.calls (rd l0 x5_1) (wrap64 (-a1)) a1 false _ A7.out).mono ?_
       rintro e w' ⟨rfl, ⟨nd, rfl⟩⟩
       refine ⟨_, rfl, ?_⟩
       refine hK.out _ _ ⟨((HB.out.cell (World.block_lt_of_cell? w _ hw133_0)).trans hw133_0), ((HB.out.cell (World.block_lt_of_cell? w _ hw134_0)).trans hw134_0)⟩ (fun hHeld => ?_)
       clear hK K
       refine norm_ (a' := ?_) ?_ ?_
       rotate_left
       ·show Act.put _ (some 25) _ = _
        simp only [Act.put, List.setIfInBounds_toArray, List.set_cons_zero, List.set_cons_succ, i64_w, i32_w]
        rfl
       refine pz_ 14 26 (bA_ 33 32767) HT_ ?_
       refine pz_ 15 27 (bA_ 33 65535) HT_ ?_
       refine pz_ 16 28 (bA_ 33 131071) HT_ ?_
       refine pu_ 17 29 (bA_ 33 262143) HT_ ?_
       refine pu_ 18 30 (bA_ 33 524287) HT_ ?_
       refine pu_ 19 31 (bA_ 33 1048575) HT_ ?_
       refine pu_ 20 32 (bA_ 33 2097151) HT_ ?_
       refine pu_ 21 33 (bA_ 33 4194303) HT_ ?_
       refine pu_ 22 34 (bA_ 33 8388607) HT_ ?_
       refine pu_ 23 35 (bA_ 33 16777215) HT_ ?_
       refine pu_ 24 36 (bA_ 33 33554431) HT_ ?_
       refine pu_ 25 37 (bA_ 33 67108863) HT_ ?_
       refine pu_ 26 38 (bA_ 33 134217727) HT_ ?_
       refine pu_ 27 39 (bA_ 33 268435455) HT_ ?_
       refine pu_ 28 40 (bA_ 33 536870911) HT_ ?_
       refine pu_ 29 41 (bA_ 33 1073741823) HT_ ?_
       refine pu_ 30 42 (bA_ 33 2147483647) HT_ ?_
       refine pu_ 31 43 (bA_ 33 4294967295) HT_ ?_
       refine pz_ 32 44 (bA_ 33 8589934591) HT_ ?_
       refine done_ (done_of HT_.out (by kernel_rfl)) ?_
       try go_wp2
       go_ret
       exact ⟨by first | rfl | (simp [errW_none, errW_some] <;> rfl) | (simp [*, errW_none, errW_some] <;> rfl), bb_ HB.out⟩
    ·rw [if_neg c4] at H
     exact absurd H (by simp)
   ·rw [if_neg c3] at H
    have c3b0 : decide (x5_1 < (l0.length : Int)) = false := decide_eq_false c3
    clear c3
    obtain rfl := Option.some.inj H
    go_wp2
    go_ret
    exact ⟨by first | rfl | (simp [errW_none, errW_some] <;> rfl) | (simp [*, errW_none, errW_some] <;> rfl), bb_ HB.out⟩

end Go.Proofs.Ytbcdngjajjgmkaa.PFnExactStabilizerPresentation
