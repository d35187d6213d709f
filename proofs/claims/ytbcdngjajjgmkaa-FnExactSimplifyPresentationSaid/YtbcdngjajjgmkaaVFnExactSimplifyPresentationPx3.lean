/- Written by this session's program out of the kit's print and this session's contracts. -/
import Derived.Test.YtbcdngjajjgmkaaVFnExactSimplifyPresentationPx0
import Derived.Test.YtbcdngjajjgmkaaVFnExactSimplifyPresentationPx2
namespace Go.Proofs.Ytbcdngjajjgmkaa.PFnExactSimplifyPresentation
open Go.RowKit Go.Proofs.YtbcdngjajjgmkaaW.PrintWords Go.Proofs.YtbcdngjajjgmkaaW.PrintLast Go.Proofs.YtbcdngjajjgmkaaW.PrintMore
set_option maxHeartbeats 8000000
set_option maxRecDepth 100000
set_option linter.unusedVariables false
set_option linter.unusedSimpArgs false

/-! ### spec_l04Letters: function 61 -/
def spec_l04Letters.l0 : Nat → List Int → Int → Int → Option (Bool)
 | 0, _, _, _ => none
 | k + 1, x0, x1, x5 => if x5 < (x0.length : Int) then (if 0 ≤ x5 then (if (rd x0 x5) = 0 then (some false) else ((spec_l01In.f (rd x0 x5) (wrap64 (-x1)) x1).bind fun t140 => (if t140 = true then (if x5 > 0 then (if 0 ≤ (wrap64 (x5 - 1)) then (if (wrap64 (x5 - 1)) < (x0.length : Int) then (if (rd x0 x5) = (wrap64 (-(rd x0 (wrap64 (x5 - 1))))) then (some false) else (spec_l04Letters.l0 k x0 x1 (wrap64 (x5 + 1)))) else (none)) else (none)) else (spec_l04Letters.l0 k x0 x1 (wrap64 (x5 + 1)))) else (some false)))) else (none)) else (some (decide ((x0.length : Int) ≤ 120)))
def spec_l04Letters.f (k : Nat) (l0 : List Int) (a1 : Int) : Option (Bool) := spec_l04Letters.l0 k l0 a1 0
def spec_l04Letters.T4 : Bool × List (List Nat × List Nat) := (true, [([], []), ([], []), ([0, 1], [0, 1]), ([2], [2]), ([3], [3]), ([4], [4]), ([5], [5]), ([5], [5]), ([6, 7, 5], [5, 6, 7]), ([8, 5], [5, 8]), ([5], [5]), ([10, 5], [5, 10]), ([5], [5]), ([9, 11, 12, 5, 5], [5, 9, 11, 12]), ([13, 5], [5, 13]), ([5, 14], [5, 14]), ([15, 13], [15]), ([16], [16]), ([17, 16], [16, 17]), ([18, 16, 16], [16, 18]), ([19], [19]), ([19], [19]), ([20, 21, 19], [19, 20, 21]), ([22, 19], [19, 22]), ([19], [19]), ([19], [19]), ([25, 19], [19, 25]), ([24, 26, 19], [19, 24, 26]), ([27, 19], [19, 27]), ([28, 19], [19, 28]), ([23, 29, 19], [19, 23, 29]), ([19, 30, 16], [16, 19, 30]), ([16, 31], [16, 31])])
def spec_l04Letters.B4 : List Nat := [0, 0, 3, 7, 15, 31, 63, 63, 255, 511, 63, 1087, 63, 8191, 16383, 32767, 65535, 131071, 262143, 524287, 1048575, 1048575, 4194303, 8388607, 1048575, 1048575, 34603007, 118489087, 252706815, 521142271, 1073741823, 2147483647, 4294967295]
theorem spec_l04Letters.tab4 : rtab .any (opsOf Try.f61 4) = spec_l04Letters.T4 := by kernel_rfl
theorem spec_l04Letters.bits4 : waitsOk spec_l04Letters.T4.2 spec_l04Letters.B4 = true := by kernel_rfl
theorem spec_l04Letters.calls (k : Nat) (A0 : Option Addr) (c0 : Nat) (l0 : List Int) (a1 : Int) (r : Bool) (w : World) (hr0 : Kd.C (Kd.int .i64) w A0 l0.length l0) (hc0 : l0.length ≤ c0) (h : spec_l04Letters.f k l0 a1 = some r) :
  Calls Try.prog 61 #[.slice A0 l0.length c0, .int .i64 a1] w fun e w' => e = .returned (.bool r) ∧ Below w.heap.size w w' := by
 have HR0 := am_ hr0
 have HC0 := am_ hc0
 clear hr0 hc0
 have HB := am_ (Below.refl w.heap.size w)
 have H : (spec_l04Letters.l0 k l0 a1 0) = some r := h
 clear h
 have H' := am_ H
 clear H
 go_enter Try.func61, Try.ntmps61
 go_wp2
 go_loopg [5] k (fun kq v5 w' => ∃ (x5_1 : Int), v5 = .int .i64 x5_1 ∧ Aside0 (spec_l04Letters.l0 kq l0 a1 x5_1 = some r) ∧ Aside0 (kq ≤ k) ∧ Aside0 (Below w.heap.size w w'))
 case atStart => exact ⟨(0), (by first | rfl | (simp; done) | (simp [*]; done)), H', ⟨Nat.le_refl _⟩, ⟨bb_ HB.out⟩⟩
 case round =>
  clear H'
  try clear p2
  obtain ⟨x5_1, rfl, HA, HK1, HB⟩ := hrel
  cases gk with
  | zero => exact absurd HA.out (by simp [spec_l04Letters.l0])
  | succ k1 =>
   have H := HA.out
   clear HA
   simp only [spec_l04Letters.l0] at H
   by_cases c3 : x5_1 < (l0.length : Int)
   ·rw [if_pos c3] at H
    have c3b0 : decide (x5_1 < (l0.length : Int)) = true := decide_eq_true c3
    clear c3
    by_cases c4 : 0 ≤ x5_1
    ·rw [if_pos c4] at H
     have c4b0 : decide (0 ≤ x5_1) = true := decide_eq_true c4
     clear c4
     by_cases c5 : (rd l0 x5_1) = 0
     ·rw [if_pos c5] at H
      have c5b0 : ((rd l0 x5_1) == 0) = true := beq_iff_eq.mpr c5
      have c5b1 : ((rd l0 x5_1) != 0) = false := bne_eq_false_iff_eq.mpr c5
      clear c5
      obtain rfl := Option.some.inj H
      try go_wp2
      have n0_ := am_ (below_drew1 HB.out)
      clear HB; revert n0_; intro HB
      have p138 : 0 ≤ (x5_1 : Int) := da_
      have q138 : x5_1 < (l0.length : Int) := da_
      obtain ⟨ad138, e138, hx138_0⟩ := Kd.at_int HR0.out x5_1 p138 q138
      have hw138_0 := hx138_0
      cases e138
      replace hx138_0 := ce_ HB hx138_0
      replace p138 := eq_true p138
      replace q138 := eq_true q138
      refine start_ (n := 33) (S := fun w' => w'.cell? (ad138.add (x5_1).toNat) = some (.int .i64 (rd l0 x5_1))) (ds := []) (bA_ 33 0) (by kernel_rfl) rfl (by kernel_rfl) ((cf_ HB hw138_0)) (fun hHeld => ?_); refine with_tabW spec_l04Letters.tab4 spec_l04Letters.bits4 (fun HT_ HW_ => ?_)
      generalize wr.drew = w6 at HB hx138_0 hHeld ⊢
      refine pz_ 0 12 (bA_ 33 1) HT_ ?_
      refine pz_ 1 13 (bA_ 33 3) HT_ ?_
      refine pz_ 2 14 (bA_ 33 7) HT_ ?_
      refine tz_ 3 15 (bA_ 33 15) HT_ HW_ hHeld ?_
      refine pz_ 4 16 (bA_ 33 31) HT_ ?_
      refine pz_ 5 17 (bA_ 33 63) HT_ ?_
      refine pu_ 6 18 (bA_ 33 127) HT_ ?_
      refine pu_ 7 19 (bA_ 33 255) HT_ ?_
      refine pu_ 8 20 (bA_ 33 511) HT_ ?_
      refine pu_ 9 21 (bA_ 33 1023) HT_ ?_
      refine pu_ 10 22 (bA_ 33 2047) HT_ ?_
      refine pu_ 11 23 (bA_ 33 4095) HT_ ?_
      refine pu_ 12 24 (bA_ 33 8191) HT_ ?_
      refine pu_ 13 25 (bA_ 33 16383) HT_ ?_
      refine pu_ 14 26 (bA_ 33 32767) HT_ ?_
      refine pz_ 15 27 (bA_ 33 65535) HT_ ?_
      refine pz_ 16 28 (bA_ 33 131071) HT_ ?_
      refine pu_ 17 29 (bA_ 33 262143) HT_ ?_
      refine pu_ 18 30 (bA_ 33 524287) HT_ ?_
      refine pu_ 19 31 (bA_ 33 1048575) HT_ ?_
      refine pu_ 20 32 (bA_ 33 2097151) HT_ ?_
      refine pu_ 21 33 (bA_ 33 4194303) HT_ ?_
      refine pu_ 22 34 (bA_ 33 8388607) HT_ ?_
      refine pu_ 23 35 (bA_ 33 16777215) HT_ ?_
      refine pu_ 24 36 (bA_ 33 33554431) HT_ ?_
      refine pu_ 25 37 (bA_ 33 67108863) HT_ ?_
      refine pu_ 26 38 (bA_ 33 134217727) HT_ ?_
      refine pu_ 27 39 (bA_ 33 268435455) HT_ ?_
      refine pu_ 28 40 (bA_ 33 536870911) HT_ ?_
      refine pu_ 29 41 (bA_ 33 1073741823) HT_ ?_
      refine pu_ 30 42 (bA_ 33 2147483647) HT_ ?_
      refine pu_ 31 43 (bA_ 33 4294967295) HT_ ?_
      refine pz_ 32 44 (bA_ 33 8589934591) HT_ ?_
      refine done_ (done_of HT_.out (by kernel_rfl)) ?_
      try go_wp2
      go_ret
      exact ⟨er_, bb_ HB.out⟩
     ·rw [if_neg c5] at H
      have c5b0 : ((rd l0 x5_1) == 0) = false := beq_eq_false_iff_ne.mpr c5
      have c5b1 : ((rd l0 x5_1) != 0) = true := bne_iff_ne.mpr c5
      replace H := Option.bind_eq_some_iff.mp H
      obtain ⟨t140, A70, H⟩ := H
      replace H : (if t140 = true then (if x5_1 > 0 then (if 0 ≤ (wrap64 (x5_1 - 1)) then (if (wrap64 (x5_1 - 1)) < (l0.length : Int) then (if (rd l0 x5_1) = (wrap64 (-(rd l0 (wrap64 (x5_1 - 1))))) then (some false) else (spec_l04Letters.l0 k1 l0 a1 (wrap64 (x5_1 + 1)))) else (none)) else (none)) else (spec_l04Letters.l0 k1 l0 a1 (wrap64 (x5_1 + 1)))) else (some false)) = some r := H
      have A7 := am_ A70
      clear A70
      by_cases c8 : t140 = true
      ·subst c8
       have H1 : (if x5_1 > 0 then (if 0 ≤ (wrap64 (x5_1 - 1)) then (if (wrap64 (x5_1 - 1)) < (l0.length : Int) then (if (rd l0 x5_1) = (wrap64 (-(rd l0 (wrap64 (x5_1 - 1))))) then (some false) else (spec_l04Letters.l0 k1 l0 a1 (wrap64 (x5_1 + 1)))) else (none)) else (none)) else (spec_l04Letters.l0 k1 l0 a1 (wrap64 (x5_1 + 1)))) = some r := by rw [if_pos rfl] at H; exact H
       clear H
       have H := H1
       clear H1
       by_cases c9 : x5_1 > 0
       ·rw [if_pos c9] at H
        have c9b0 : decide (0 < x5_1) = true := decide_eq_true c9
        clear c9
        obtain ⟨ji10, hji10⟩ : ∃ j_ : Int, (wrap64 (x5_1 - 1)) = j_ := ⟨_, rfl⟩
        replace H : (if 0 ≤ (ji10) then (if (ji10) < (l0.length : Int) then (if (rd l0 x5_1) = (wrap64 (-(rd l0 (ji10)))) then (some false) else (spec_l04Letters.l0 k1 l0 a1 (wrap64 (x5_1 + 1)))) else (none)) else (none)) = some r := by first | (rw [hji10] at H; exact H) | (simp only [hji10] at H ⊢; exact H)
        (try rw [hji10] at A7)
        have hji10w : (IntKind.i64.wrap (x5_1 - 1)) = ji10 := (i64_w _).trans hji10
        by_cases c11 : 0 ≤ (ji10)
        ·rw [if_pos c11] at H
         have c11b0 : decide (0 ≤ (ji10)) = true := decide_eq_true c11
         clear c11
         by_cases c12 : (ji10) < (l0.length : Int)
         ·rw [if_pos c12] at H
          have c12b0 : decide ((ji10) < (l0.length : Int)) = true := decide_eq_true c12
          clear c12
          by_cases c13 : (rd l0 x5_1) = (wrap64 (-(rd l0 (ji10))))
          ·rw [if_pos c13] at H
           have c13b0 : ((rd l0 x5_1) == (wrap64 (-(rd l0 (ji10))))) = true := beq_iff_eq.mpr c13
           have c13b1 : ((rd l0 x5_1) != (wrap64 (-(rd l0 (ji10))))) = false := bne_eq_false_iff_eq.mpr c13
           clear c13
           obtain rfl := Option.some.inj H
           try go_wp2
           have n0_ := am_ (below_drew1 HB.out)
           clear HB; revert n0_; intro HB
           have p138 : 0 ≤ (x5_1 : Int) := da_
           have q138 : x5_1 < (l0.length : Int) := da_
           obtain ⟨ad138, e138, hx138_0⟩ := Kd.at_int HR0.out x5_1 p138 q138
           have hw138_0 := hx138_0
           cases e138
           replace hx138_0 := ce_ HB hx138_0
           replace p138 := eq_true p138
           replace q138 := eq_true q138
           have p139 : 0 ≤ (x5_1 : Int) := da_
           have q139 : x5_1 < (l0.length : Int) := da_
           obtain ⟨ad139, e139, hx139_0⟩ := Kd.at_int HR0.out x5_1 p139 q139
           have hw139_0 := hx139_0
           obtain rfl : ad138 = ad139 := (by injection e139)
           replace hx139_0 := ce_ HB hx139_0
           replace p139 := eq_true p139
           replace q139 := eq_true q139
           have p141 : 0 ≤ (x5_1 : Int) := da_
           have q141 : x5_1 < (l0.length : Int) := da_
           obtain ⟨ad141, e141, hx141_0⟩ := Kd.at_int HR0.out x5_1 p141 q141
           have hw141_0 := hx141_0
           obtain rfl : ad138 = ad141 := (by injection e141)
           replace hx141_0 := ce_ HB hx141_0
           replace p141 := eq_true p141
           replace q141 := eq_true q141
           have p142 : 0 ≤ ((ji10) : Int) := da_
           have q142 : (ji10) < (l0.length : Int) := da_
           obtain ⟨ad142, e142, hx142_0⟩ := Kd.at_int HR0.out (ji10) p142 q142
           have hw142_0 := hx142_0
           obtain rfl : ad138 = ad142 := (by injection e142)
           replace hx142_0 := ce_ HB hx142_0
           replace p142 := eq_true p142
           replace q142 := eq_true q142
           refine start_ (n := 33) (S := fun w' => w'.cell? (ad138.add (x5_1).toNat) = some (.int .i64 (rd l0 x5_1)) ∧ w'.cell? (ad138.add (x5_1).toNat) = some (.int .i64 (rd l0 x5_1)) ∧ w'.cell? (ad138.add (x5_1).toNat) = some (.int .i64 (rd l0 x5_1)) ∧ w'.cell? (ad138.add ((ji10)).toNat) = some (.int .i64 (rd l0 (ji10)))) (ds := []) (bA_ 33 0) (by kernel_rfl) rfl (by kernel_rfl) ⟨(cf_ HB hw138_0), (cf_ HB hw139_0), (cf_ HB hw141_0), (cf_ HB hw142_0)⟩ (fun hHeld => ?_); refine with_tabW spec_l04Letters.tab4 spec_l04Letters.bits4 (fun HT_ HW_ => ?_)
           generalize wr.drew = w14 at HB hx138_0 hx139_0 hx141_0 hx142_0 hHeld ⊢
           refine pz_ 0 12 (bA_ 33 1) HT_ ?_
           refine pz_ 1 13 (bA_ 33 3) HT_ ?_
           refine pz_ 2 14 (bA_ 33 7) HT_ ?_
           refine tz_ 3 15 (bA_ 33 15) HT_ HW_ hHeld ?_
           refine pz_ 4 16 (bA_ 33 31) HT_ ?_
           refine pz_ 5 17 (bA_ 33 63) HT_ ?_
           refine pz_ 6 18 (bA_ 33 127) HT_ ?_
           refine pz_ 7 19 (bA_ 33 255) HT_ ?_
           refine pz_ 8 20 (bA_ 33 511) HT_ ?_
           refine pz_ 10 22 (bA_ 33 1535) HT_ ?_
           refine pz_ 11 23 (bA_ 33 3583) HT_ ?_
           refine pz_ 12 24 (bA_ 33 7679) HT_ ?_
           refine tz_ 9 21 (bA_ 33 8191) HT_ HW_ hHeld ?_
           refine oz_ 13 25 (bA_ 33 16383) HT_ (fun K hK => ?_)
           refine goes_ Try.func39 (by kernel_rfl) rfl #[.int .i64 (rd l0 x5_1), .int .i64 (wrap64 (-a1)), .int .i64 a1] (by rfl) rfl rfl lm_ ?_
           with_reducible refine (spec_l01In.calls (rd l0 x5_1) (wrap64 (-a1)) a1 true _ A7.out).mono ?_
           rintro e w' ⟨rfl, ⟨nd, rfl⟩⟩
           refine ⟨_, rfl, ?_⟩
           refine hK.out _ _ ⟨(cf_ HB hw138_0), (cf_ HB hw139_0), (cf_ HB hw141_0), (cf_ HB hw142_0)⟩ (fun hHeld => ?_)
           clear hK K
           refine nm_ 25 ?_
           refine pz_ 14 26 (bA_ 33 32767) HT_ ?_
           refine pz_ 15 27 (bA_ 33 65535) HT_ ?_
           refine pz_ 16 28 (bA_ 33 131071) HT_ ?_
           refine pz_ 17 29 (bA_ 33 262143) HT_ ?_
           refine pz_ 18 30 (bA_ 33 524287) HT_ ?_
           refine pz_ 19 31 (bA_ 33 1048575) HT_ ?_
           refine pz_ 20 32 (bA_ 33 2097151) HT_ ?_
           refine pz_ 21 33 (bA_ 33 4194303) HT_ ?_
           refine pz_ 22 34 (bA_ 33 8388607) HT_ ?_
           refine pz_ 24 36 (bA_ 33 25165823) HT_ ?_
           refine pz_ 25 37 (bA_ 33 58720255) HT_ ?_
           refine pz_ 26 38 (bA_ 33 125829119) HT_ ?_
           refine pz_ 27 39 (bA_ 33 260046847) HT_ ?_
           refine tz_ 23 35 (bA_ 33 268435455) HT_ HW_ hHeld ?_
           refine tz_ 28 40 (bA_ 33 536870911) HT_ HW_ hHeld ?_
           refine pz_ 29 41 (bA_ 33 1073741823) HT_ ?_
           refine pz_ 30 42 (bA_ 33 2147483647) HT_ ?_
           refine pz_ 31 43 (bA_ 33 4294967295) HT_ ?_
           refine pz_ 32 44 (bA_ 33 8589934591) HT_ ?_
           refine done_ (done_of HT_.out (by kernel_rfl)) ?_
           try go_wp2
           go_ret
           exact ⟨by first | rfl | (simp [errW_none, errW_some] <;> rfl) | (simp only [← hji10]; first | rfl | (simp [errW_none, errW_some] <;> rfl)) | (simp [*, errW_none, errW_some] <;> rfl), bb_ HB.out⟩
          ·rw [if_neg c13] at H
           have c13b0 : ((rd l0 x5_1) == (wrap64 (-(rd l0 (ji10))))) = false := beq_eq_false_iff_ne.mpr c13
           have c13b1 : ((rd l0 x5_1) != (wrap64 (-(rd l0 (ji10))))) = true := bne_iff_ne.mpr c13
           have H' := am_ H
           clear H
           try go_wp2
           have n0_ := am_ (below_drew1 HB.out)
           clear HB; revert n0_; intro HB
           have p138 : 0 ≤ (x5_1 : Int) := da_
           have q138 : x5_1 < (l0.length : Int) := da_
           obtain ⟨ad138, e138, hx138_0⟩ := Kd.at_int HR0.out x5_1 p138 q138
           have hw138_0 := hx138_0
           cases e138
           replace hx138_0 := ce_ HB hx138_0
           replace p138 := eq_true p138
           replace q138 := eq_true q138
           have p139 : 0 ≤ (x5_1 : Int) := da_
           have q139 : x5_1 < (l0.length : Int) := da_
           obtain ⟨ad139, e139, hx139_0⟩ := Kd.at_int HR0.out x5_1 p139 q139
           have hw139_0 := hx139_0
           obtain rfl : ad138 = ad139 := (by injection e139)
           replace hx139_0 := ce_ HB hx139_0
           replace p139 := eq_true p139
           replace q139 := eq_true q139
           have p141 : 0 ≤ (x5_1 : Int) := da_
           have q141 : x5_1 < (l0.length : Int) := da_
           obtain ⟨ad141, e141, hx141_0⟩ := Kd.at_int HR0.out x5_1 p141 q141
           have hw141_0 := hx141_0
           obtain rfl : ad138 = ad141 := (by injection e141)
           replace hx141_0 := ce_ HB hx141_0
           replace p141 := eq_true p141
           replace q141 := eq_true q141
           have p142 : 0 ≤ ((ji10) : Int) := da_
           have q142 : (ji10) < (l0.length : Int) := da_
           obtain ⟨ad142, e142, hx142_0⟩ := Kd.at_int HR0.out (ji10) p142 q142
           have hw142_0 := hx142_0
           obtain rfl : ad138 = ad142 := (by injection e142)
           replace hx142_0 := ce_ HB hx142_0
           replace p142 := eq_true p142
           replace q142 := eq_true q142
           refine start_ (n := 33) (S := fun w' => w'.cell? (ad138.add (x5_1).toNat) = some (.int .i64 (rd l0 x5_1)) ∧ w'.cell? (ad138.add (x5_1).toNat) = some (.int .i64 (rd l0 x5_1)) ∧ w'.cell? (ad138.add (x5_1).toNat) = some (.int .i64 (rd l0 x5_1)) ∧ w'.cell? (ad138.add ((ji10)).toNat) = some (.int .i64 (rd l0 (ji10)))) (ds := []) (bA_ 33 0) (by kernel_rfl) rfl (by kernel_rfl) ⟨(cf_ HB hw138_0), (cf_ HB hw139_0), (cf_ HB hw141_0), (cf_ HB hw142_0)⟩ (fun hHeld => ?_); refine with_tabW spec_l04Letters.tab4 spec_l04Letters.bits4 (fun HT_ HW_ => ?_)
           generalize wr.drew = w15 at HB hx138_0 hx139_0 hx141_0 hx142_0 hHeld ⊢
           refine pz_ 0 12 (bA_ 33 1) HT_ ?_
           refine pz_ 1 13 (bA_ 33 3) HT_ ?_
           refine pz_ 2 14 (bA_ 33 7) HT_ ?_
           refine tz_ 3 15 (bA_ 33 15) HT_ HW_ hHeld ?_
           refine pz_ 4 16 (bA_ 33 31) HT_ ?_
           refine pz_ 5 17 (bA_ 33 63) HT_ ?_
           refine pz_ 6 18 (bA_ 33 127) HT_ ?_
           refine pz_ 7 19 (bA_ 33 255) HT_ ?_
           refine pz_ 8 20 (bA_ 33 511) HT_ ?_
           refine pz_ 10 22 (bA_ 33 1535) HT_ ?_
           refine pz_ 11 23 (bA_ 33 3583) HT_ ?_
           refine pz_ 12 24 (bA_ 33 7679) HT_ ?_
           refine tz_ 9 21 (bA_ 33 8191) HT_ HW_ hHeld ?_
           refine oz_ 13 25 (bA_ 33 16383) HT_ (fun K hK => ?_)
           refine goes_ Try.func39 (by kernel_rfl) rfl #[.int .i64 (rd l0 x5_1), .int .i64 (wrap64 (-a1)), .int .i64 a1] (by rfl) rfl rfl lm_ ?_
           with_reducible refine (spec_l01In.calls (rd l0 x5_1) (wrap64 (-a1)) a1 true _ A7.out).mono ?_
           rintro e w' ⟨rfl, ⟨nd, rfl⟩⟩
           refine ⟨_, rfl, ?_⟩
           refine hK.out _ _ ⟨(cf_ HB hw138_0), (cf_ HB hw139_0), (cf_ HB hw141_0), (cf_ HB hw142_0)⟩ (fun hHeld => ?_)
           clear hK K
           refine nm_ 25 ?_
           refine pz_ 14 26 (bA_ 33 32767) HT_ ?_
           refine pz_ 15 27 (bA_ 33 65535) HT_ ?_
           refine pz_ 16 28 (bA_ 33 131071) HT_ ?_
           refine pz_ 17 29 (bA_ 33 262143) HT_ ?_
           refine pz_ 18 30 (bA_ 33 524287) HT_ ?_
           refine pz_ 19 31 (bA_ 33 1048575) HT_ ?_
           refine pz_ 20 32 (bA_ 33 2097151) HT_ ?_
           refine pz_ 21 33 (bA_ 33 4194303) HT_ ?_
           refine pz_ 22 34 (bA_ 33 8388607) HT_ ?_
           refine pz_ 24 36 (bA_ 33 25165823) HT_ ?_
           refine pz_ 25 37 (bA_ 33 58720255) HT_ ?_
           refine pz_ 26 38 (bA_ 33 125829119) HT_ ?_
           refine pz_ 27 39 (bA_ 33 260046847) HT_ ?_
           refine tz_ 23 35 (bA_ 33 268435455) HT_ HW_ hHeld ?_
           refine tz_ 28 40 (bA_ 33 536870911) HT_ HW_ hHeld ?_
           refine pz_ 29 41 (bA_ 33 1073741823) HT_ ?_
           refine pz_ 30 42 (bA_ 33 2147483647) HT_ ?_
           refine pz_ 31 43 (bA_ 33 4294967295) HT_ ?_
           refine pz_ 32 44 (bA_ 33 8589934591) HT_ ?_
           refine done_ (done_of HT_.out (by kernel_rfl)) ?_
           try go_wp2
           go_roundg k1
           case measure => have := HK1.out; omega
           case rel => exact ⟨(wrap64 (x5_1 + 1)), (by first | rfl | (simp; done) | (simp [*]; done)), H', ⟨by have := HK1.out; omega⟩, ⟨bb_ HB.out⟩⟩
         ·rw [if_neg c12] at H
          exact absurd H (by simp)
        ·rw [if_neg c11] at H
         exact absurd H (by simp)
       ·rw [if_neg c9] at H
        have c9b0 : decide (0 < x5_1) = false := decide_eq_false c9
        clear c9
        have H' := am_ H
        clear H
        try go_wp2
        have n0_ := am_ (below_drew1 HB.out)
        clear HB; revert n0_; intro HB
        have p138 : 0 ≤ (x5_1 : Int) := da_
        have q138 : x5_1 < (l0.length : Int) := da_
        obtain ⟨ad138, e138, hx138_0⟩ := Kd.at_int HR0.out x5_1 p138 q138
        have hw138_0 := hx138_0
        cases e138
        replace hx138_0 := ce_ HB hx138_0
        replace p138 := eq_true p138
        replace q138 := eq_true q138
        have p139 : 0 ≤ (x5_1 : Int) := da_
        have q139 : x5_1 < (l0.length : Int) := da_
        obtain ⟨ad139, e139, hx139_0⟩ := Kd.at_int HR0.out x5_1 p139 q139
        have hw139_0 := hx139_0
        obtain rfl : ad138 = ad139 := (by injection e139)
        replace hx139_0 := ce_ HB hx139_0
        replace p139 := eq_true p139
        replace q139 := eq_true q139
        refine start_ (n := 33) (S := fun w' => w'.cell? (ad138.add (x5_1).toNat) = some (.int .i64 (rd l0 x5_1)) ∧ w'.cell? (ad138.add (x5_1).toNat) = some (.int .i64 (rd l0 x5_1))) (ds := []) (bA_ 33 0) (by kernel_rfl) rfl (by kernel_rfl) ⟨(cf_ HB hw138_0), (cf_ HB hw139_0)⟩ (fun hHeld => ?_); refine with_tabW spec_l04Letters.tab4 spec_l04Letters.bits4 (fun HT_ HW_ => ?_)
        generalize wr.drew = w16 at HB hx138_0 hx139_0 hHeld ⊢
        refine pz_ 0 12 (bA_ 33 1) HT_ ?_
        refine pz_ 1 13 (bA_ 33 3) HT_ ?_
        refine pz_ 2 14 (bA_ 33 7) HT_ ?_
        refine tz_ 3 15 (bA_ 33 15) HT_ HW_ hHeld ?_
        refine pz_ 4 16 (bA_ 33 31) HT_ ?_
        refine pz_ 5 17 (bA_ 33 63) HT_ ?_
        refine pz_ 6 18 (bA_ 33 127) HT_ ?_
        refine pz_ 7 19 (bA_ 33 255) HT_ ?_
        refine pz_ 8 20 (bA_ 33 511) HT_ ?_
        refine pz_ 10 22 (bA_ 33 1535) HT_ ?_
        refine pz_ 11 23 (bA_ 33 3583) HT_ ?_
        refine pz_ 12 24 (bA_ 33 7679) HT_ ?_
        refine tz_ 9 21 (bA_ 33 8191) HT_ HW_ hHeld ?_
        refine oz_ 13 25 (bA_ 33 16383) HT_ (fun K hK => ?_)
        refine goes_ Try.func39 (by kernel_rfl) rfl #[.int .i64 (rd l0 x5_1), .int .i64 (wrap64 (-a1)), .int .i64 a1] (by rfl) rfl rfl lm_ ?_
        with_reducible refine (spec_l01In.calls (rd l0 x5_1) (wrap64 (-a1)) a1 true _ A7.out).mono ?_
        rintro e w' ⟨rfl, ⟨nd, rfl⟩⟩
        refine ⟨_, rfl, ?_⟩
        refine hK.out _ _ ⟨(cf_ HB hw138_0), (cf_ HB hw139_0)⟩ (fun hHeld => ?_)
        clear hK K
        refine nm_ 25 ?_
        refine pz_ 14 26 (bA_ 33 32767) HT_ ?_
        refine pz_ 15 27 (bA_ 33 65535) HT_ ?_
        refine pz_ 16 28 (bA_ 33 131071) HT_ ?_
        refine pz_ 17 29 (bA_ 33 262143) HT_ ?_
        refine pz_ 18 30 (bA_ 33 524287) HT_ ?_
        refine pz_ 19 31 (bA_ 33 1048575) HT_ ?_
        refine pu_ 20 32 (bA_ 33 2097151) HT_ ?_
        refine pu_ 21 33 (bA_ 33 4194303) HT_ ?_
        refine pu_ 22 34 (bA_ 33 8388607) HT_ ?_
        refine pu_ 23 35 (bA_ 33 16777215) HT_ ?_
        refine pu_ 24 36 (bA_ 33 33554431) HT_ ?_
        refine pu_ 25 37 (bA_ 33 67108863) HT_ ?_
        refine pu_ 26 38 (bA_ 33 134217727) HT_ ?_
        refine pu_ 27 39 (bA_ 33 268435455) HT_ ?_
        refine pu_ 28 40 (bA_ 33 536870911) HT_ ?_
        refine pu_ 29 41 (bA_ 33 1073741823) HT_ ?_
        refine pu_ 30 42 (bA_ 33 2147483647) HT_ ?_
        refine pz_ 31 43 (bA_ 33 4294967295) HT_ ?_
        refine pz_ 32 44 (bA_ 33 8589934591) HT_ ?_
        refine done_ (done_of HT_.out (by kernel_rfl)) ?_
        try go_wp2
        go_roundg k1
        case measure => have := HK1.out; omega
        case rel => exact ⟨(wrap64 (x5_1 + 1)), (by first | rfl | (simp; done) | (simp [*]; done)), H', ⟨by have := HK1.out; omega⟩, ⟨bb_ HB.out⟩⟩
      ·replace c8 := Bool.eq_false_iff.mpr c8
       subst c8
       have H1 : (some false) = some r := by rw [if_neg (show ¬ (false = true) by decide)] at H; exact H
       clear H
       have H := H1
       clear H1
       obtain rfl := Option.some.inj H
       try go_wp2
       have n0_ := am_ (below_drew1 HB.out)
       clear HB; revert n0_; intro HB
       have p138 : 0 ≤ (x5_1 : Int) := da_
       have q138 : x5_1 < (l0.length : Int) := da_
       obtain ⟨ad138, e138, hx138_0⟩ := Kd.at_int HR0.out x5_1 p138 q138
       have hw138_0 := hx138_0
       cases e138
       replace hx138_0 := ce_ HB hx138_0
       replace p138 := eq_true p138
       replace q138 := eq_true q138
       have p139 : 0 ≤ (x5_1 : Int) := da_
       have q139 : x5_1 < (l0.length : Int) := da_
       obtain ⟨ad139, e139, hx139_0⟩ := Kd.at_int HR0.out x5_1 p139 q139
       have hw139_0 := hx139_0
       obtain rfl : ad138 = ad139 := (by injection e139)
       replace hx139_0 := ce_ HB hx139_0
       replace p139 := eq_true p139
       replace q139 := eq_true q139
       refine start_ (n := 33) (S := fun w' => w'.cell? (ad138.add (x5_1).toNat) = some (.int .i64 (rd l0 x5_1)) ∧ w'.cell? (ad138.add (x5_1).toNat) = some (.int .i64 (rd l0 x5_1))) (ds := []) (bA_ 33 0) (by kernel_rfl) rfl (by kernel_rfl) ⟨(cf_ HB hw138_0), (cf_ HB hw139_0)⟩ (fun hHeld => ?_); refine with_tabW spec_l04Letters.tab4 spec_l04Letters.bits4 (fun HT_ HW_ => ?_)
       generalize wr.drew = w17 at HB hx138_0 hx139_0 hHeld ⊢
       refine pz_ 0 12 (bA_ 33 1) HT_ ?_
       refine pz_ 1 13 (bA_ 33 3) HT_ ?_
       refine pz_ 2 14 (bA_ 33 7) HT_ ?_
       refine tz_ 3 15 (bA_ 33 15) HT_ HW_ hHeld ?_
       refine pz_ 4 16 (bA_ 33 31) HT_ ?_
       refine pz_ 5 17 (bA_ 33 63) HT_ ?_
       refine pz_ 6 18 (bA_ 33 127) HT_ ?_
       refine pz_ 7 19 (bA_ 33 255) HT_ ?_
       refine pz_ 8 20 (bA_ 33 511) HT_ ?_
       refine pz_ 10 22 (bA_ 33 1535) HT_ ?_
       refine pz_ 11 23 (bA_ 33 3583) HT_ ?_
       refine pz_ 12 24 (bA_ 33 7679) HT_ ?_
       refine tz_ 9 21 (bA_ 33 8191) HT_ HW_ hHeld ?_
       refine oz_ 13 25 (bA_ 33 16383) HT_ (fun K hK => ?_)
       refine goes_ Try.func39 (by kernel_rfl) rfl #[.int .i64 (rd l0 x5_1), .int .i64 (wrap64 (-a1)), .int .i64 a1] (by rfl) rfl rfl lm_ ?_
       with_reducible refine (spec_l01In.calls (rd l0 x5_1) (wrap64 (-a1)) a1 false _ A7.out).mono ?_
       rintro e w' ⟨rfl, ⟨nd, rfl⟩⟩
       refine ⟨_, rfl, ?_⟩
       refine hK.out _ _ ⟨(cf_ HB hw138_0), (cf_ HB hw139_0)⟩ (fun hHeld => ?_)
       clear hK K
       refine nm_ 25 ?_
       refine pz_ 14 26 (bA_ 33 32767) HT_ ?_
       refine pz_ 15 27 (bA_ 33 65535) HT_ ?_
       refine pz_ 16 28 (bA_ 33 131071) HT_ ?_
       refine pu_ 17 29 (bA_ 33 262143) HT_ ?_
       refine pu_ 18 30 (bA_ 33 524287) HT_ ?_
       refine pu_ 19 31 (bA_ 33 1048575) HT_ ?_
       refine pu_ 20 32 (bA_ 33 2097151) HT_ ?_
       refine pu_ 21 33 (bA_ 33 4194303) HT_ ?_
       refine pu_ 22 34 (bA_ 33 8388607) HT_ ?_
       refine pu_ 23 35 (bA_ 33 16777215) HT_ ?_
       refine pu_ 24 36 (bA_ 33 33554431) HT_ ?_
       refine pu_ 25 37 (bA_ 33 67108863) HT_ ?_
       refine pu_ 26 38 (bA_ 33 134217727) HT_ ?_
       refine pu_ 27 39 (bA_ 33 268435455) HT_ ?_
       refine pu_ 28 40 (bA_ 33 536870911) HT_ ?_
       refine pu_ 29 41 (bA_ 33 1073741823) HT_ ?_
       refine pu_ 30 42 (bA_ 33 2147483647) HT_ ?_
       refine pu_ 31 43 (bA_ 33 4294967295) HT_ ?_
       refine pz_ 32 44 (bA_ 33 8589934591) HT_ ?_
       refine done_ (done_of HT_.out (by kernel_rfl)) ?_
       try go_wp2
       go_ret
       exact ⟨er_, bb_ HB.out⟩
    ·rw [if_neg c4] at H
     exact absurd H (by simp)
   ·rw [if_neg c3] at H
    have c3b0 : decide (x5_1 < (l0.length : Int)) = false := decide_eq_false c3
    clear c3
    obtain rfl := Option.some.inj H
    go_wp2
    go_ret
    exact ⟨er_, bb_ HB.out⟩

/-! ### spec_IsPresentation: function 35 -/
mutual
def spec_IsPresentation.j0 : Nat → Bool → Int → List (List Int) → Option (Bool)
 | 0, _, _, _ => none
 | k + 1, x13, x144000, x144001 => if x13 = true then (some false) else (spec_IsPresentation.l0 k 0 x144000 x144001)
def spec_IsPresentation.l0 : Nat → Int → Int → List (List Int) → Option (Bool)
 | 0, _, _, _ => none
 | k + 1, x3, x144000, x144001 => if x3 < (x144001.length : Int) then (if 0 ≤ x3 then ((spec_l04Letters.f k (rd_L1 x144001 x3) x144000).bind fun t146 => (if t146 = true then (spec_IsPresentation.l0 k (wrap64 (x3 + 1)) x144000 x144001) else (some false))) else (none)) else (some true)
end
def spec_IsPresentation.f (k : Nat) (a0_0 : Int) (l0_1 : List (List Int)) : Option (Bool) := (spec_l01In.f a0_0 0 24).bind fun t144 => (if t144 = true then (spec_IsPresentation.j0 k (decide ((l0_1.length : Int) > 48)) a0_0 l0_1) else (spec_IsPresentation.j0 k true a0_0 l0_1))
def spec_IsPresentation.T6 : Bool × List (List Nat × List Nat) := (true, [([], []), ([0], [0]), ([], []), ([1, 2], [1, 2]), ([3], [3]), ([], []), ([5], [5]), ([4, 6], [4, 6]), ([7], [7])])
def spec_IsPresentation.B6 : List Nat := [0, 1, 0, 7, 15, 0, 32, 127, 255]
theorem spec_IsPresentation.tab6 : rtab .any (opsOf Try.f35 6) = spec_IsPresentation.T6 := by kernel_rfl
theorem spec_IsPresentation.bits6 : waitsOk spec_IsPresentation.T6.2 spec_IsPresentation.B6 = true := by kernel_rfl
theorem spec_IsPresentation.calls (k : Nat) (a0_0 : Int) (A0_1 : Option Addr) (c0_1 : Nat) (l0_1 : List (List Int)) (r : Bool) (w : World) (hr0_1 : Kd.C (Kd.slice 2 (Kd.int .i64)) w A0_1 l0_1.length l0_1) (hc0_1 : l0_1.length ≤ c0_1) (h : spec_IsPresentation.f k a0_0 l0_1 = some r) :
  Calls Try.prog 35 #[.agg #[.int .i64 a0_0, .slice A0_1 l0_1.length c0_1]] w fun e w' => e = .returned (.bool r) ∧ Below w.heap.size w w' := by
 have hu28 := Try.underlying28
 have HR0_1 := am_ hr0_1
 have HC0_1 := am_ hc0_1
 clear hr0_1 hc0_1
 have HB := am_ (Below.refl w.heap.size w)
 have H : ((spec_l01In.f a0_0 0 24).bind fun t144 => (if t144 = true then (spec_IsPresentation.j0 k (decide ((l0_1.length : Int) > 48)) a0_0 l0_1) else (spec_IsPresentation.j0 k true a0_0 l0_1))) = some r := h
 clear h
 have HC2 := am_ H
 clear H
 go_enter Try.func35, Try.ntmps35
 go_upto_region 1 with (first | (refine be_ 1 28 #[.int .i64 a0_0, .slice A0_1 l0_1.length c0_1] ?_; intro gb143 hg w3 hbox hb; have n_ := ba0_ HB hbox hb hg; clear  HB hb hbox hg; obtain ⟨HB, BK143, GW143, GE143⟩ := n_))
 (try simp only [Act.put, List.setIfInBounds_toArray, List.set_cons_zero, List.set_cons_succ])
 go_cut [13] (fun v13 wc => ∃ (kq : Nat) (x13_1 : Bool), v13 = .bool x13_1 ∧ Aside0 (spec_IsPresentation.j0 kq x13_1 a0_0 l0_1 = some r) ∧ Aside0 (kq ≤ k) ∧ Aside0 (wc.heap[gb143]? = some (.cells #[.int .i64 a0_0, (.slice A0_1 l0_1.length c0_1)] 28 (0, 0))) ∧ Aside0 (Below w.heap.size w wc))
 case first =>
  have H := HC2.out
  clear HC2
  replace H := Option.bind_eq_some_iff.mp H
  obtain ⟨t144, A40, H⟩ := H
  replace H : (if t144 = true then (spec_IsPresentation.j0 k (decide ((l0_1.length : Int) > 48)) a0_0 l0_1) else (spec_IsPresentation.j0 k true a0_0 l0_1)) = some r := H
  have A4 := am_ A40
  clear A40
  by_cases c5 : t144 = true
  ·subst c5
   have H1 : (spec_IsPresentation.j0 k (decide ((l0_1.length : Int) > 48)) a0_0 l0_1) = some r := by rw [if_pos rfl] at H; exact H
   clear H
   have H := H1
   clear H1
   have H' := am_ H
   clear H
   obtain ⟨hcz6_0, hcz6_1, hfz6_0, hfz6_1⟩ := bx2_ BK143
   go_wp2_with (first | ((with_reducible refine gate_callee (f := 39) rfl ?_); refine goesL_ (some 6) rfl rfl Try.func39 (by kernel_rfl) rfl #[.int .i64 a0_0, .int .i64 0, .int .i64 24] rfl lm_ ?_; (with_reducible refine (spec_l01In.calls a0_0 0 24 true _ A4.out).mono ?_); rintro e w' ⟨rfl, ⟨nd, rfl⟩⟩; refine ⟨_, rfl, ?_⟩))
   go_meet
   case rel => exact ⟨_, (decide ((l0_1.length : Int) > 48)), (by first | rfl | (simp; done) | (simp [*]; done)), H', ⟨by first | omega | exact Nat.le_refl _⟩, ⟨bk_ BK143.out⟩, ⟨bb_ HB.out⟩⟩
  ·replace c5 := Bool.eq_false_iff.mpr c5
   subst c5
   have H1 : (spec_IsPresentation.j0 k true a0_0 l0_1) = some r := by rw [if_neg (show ¬ (false = true) by decide)] at H; exact H
   clear H
   have H := H1
   clear H1
   have H' := am_ H
   clear H
   obtain ⟨hcz7_0, hcz7_1, hfz7_0, hfz7_1⟩ := bx2_ BK143
   go_wp2_with (first | ((with_reducible refine gate_callee (f := 39) rfl ?_); refine goesL_ (some 6) rfl rfl Try.func39 (by kernel_rfl) rfl #[.int .i64 a0_0, .int .i64 0, .int .i64 24] rfl lm_ ?_; (with_reducible refine (spec_l01In.calls a0_0 0 24 false _ A4.out).mono ?_); rintro e w' ⟨rfl, ⟨nd, rfl⟩⟩; refine ⟨_, rfl, ?_⟩))
   go_meet
   case rel => exact ⟨_, (true), (by first | rfl | (simp; done) | (simp [*]; done)), H', ⟨by first | omega | exact Nat.le_refl _⟩, ⟨bk_ BK143.out⟩, ⟨bb_ HB.out⟩⟩
 case rest =>
  clear HC2
  try clear p2
  try clear c3
  try clear c5
  try clear hcz6_0
  try clear hcz6_1
  try clear hcz7_0
  try clear hcz7_1
  try clear hfz6_0
  try clear hfz6_1
  try clear hfz7_0
  try clear hfz7_1
  obtain ⟨kq, x13_1, rfl, HA, HJ1, BK143, HB⟩ := hcut
  cases kq with
  | zero => exact absurd HA.out (by simp [spec_IsPresentation.j0])
  | succ kj1 =>
   have H := HA.out
   clear HA
   simp only [spec_IsPresentation.j0] at H
   by_cases c8 : x13_1 = true
   ·subst c8
    have H1 : (some false) = some r := by rw [if_pos rfl] at H; exact H
    clear H
    have H := H1
    clear H1
    obtain rfl := Option.some.inj H
    go_wp2
    go_ret
    exact ⟨er_, bb_ HB.out⟩
   ·replace c8 := Bool.eq_false_iff.mpr c8
    subst c8
    have H1 : (spec_IsPresentation.l0 kj1 0 a0_0 l0_1) = some r := by rw [if_neg (show ¬ (false = true) by decide)] at H; exact H
    clear H
    have H := H1
    clear H1
    have H' := am_ H
    clear H
    go_wp2
    go_loopg [3] kj1 (fun kq v3 w' => ∃ (x3_2 : Int), v3 = .int .i64 x3_2 ∧ Aside0 (spec_IsPresentation.l0 kq x3_2 a0_0 l0_1 = some r) ∧ Aside0 (kq ≤ kj1) ∧ Aside0 (w'.heap[gb143]? = some (.cells #[.int .i64 a0_0, (.slice A0_1 l0_1.length c0_1)] 28 (0, 0))) ∧ Aside0 (Below w.heap.size w w'))
    case atStart => exact ⟨(0), (by first | rfl | (simp; done) | (simp [*]; done)), H', ⟨Nat.le_refl _⟩, ⟨bk_ BK143.out⟩, ⟨bb_ HB.out⟩⟩
    case round =>
     clear H'
     try clear p2
     try clear c3
     try clear c5
     try clear c8
     try clear hcz6_0
     try clear hcz6_1
     try clear hcz7_0
     try clear hcz7_1
     try clear hfz6_0
     try clear hfz6_1
     try clear hfz7_0
     try clear hfz7_1
     try clear p2
     obtain ⟨x3_2, rfl, HA, HK2, BK143, HB⟩ := hrel
     cases gk with
     | zero => exact absurd HA.out (by simp [spec_IsPresentation.l0])
     | succ k2 =>
      have H := HA.out
      clear HA
      simp only [spec_IsPresentation.l0] at H
      by_cases c9 : x3_2 < (l0_1.length : Int)
      ·rw [if_pos c9] at H
       have c9b0 : decide (x3_2 < (l0_1.length : Int)) = true := decide_eq_true c9
       clear c9
       by_cases c10 : 0 ≤ x3_2
       ·rw [if_pos c10] at H
        have c10b0 : decide (0 ≤ x3_2) = true := decide_eq_true c10
        clear c10
        replace H := Option.bind_eq_some_iff.mp H
        obtain ⟨t146, A110, H⟩ := H
        replace H : (if t146 = true then (spec_IsPresentation.l0 k2 (wrap64 (x3_2 + 1)) a0_0 l0_1) else (some false)) = some r := H
        have A11 := am_ A110
        clear A110
        by_cases c12 : t146 = true
        ·subst c12
         have H1 : (spec_IsPresentation.l0 k2 (wrap64 (x3_2 + 1)) a0_0 l0_1) = some r := by rw [if_pos rfl] at H; exact H
         clear H
         have H := H1
         clear H1
         have H' := am_ H
         clear H
         obtain ⟨hcz13_0, hcz13_1, hfz13_0, hfz13_1⟩ := bx2_ BK143
         try go_wp2
         have n0_ := am_ (blk_drew BK143.out)
         have n1_ := am_ (below_drew1 HB.out)
         clear BK143 HB; revert n0_ n1_; intro BK143 HB
         have p145 : 0 ≤ (x3_2 : Int) := da_
         have q145 : x3_2 < (l0_1.length : Int) := da_
         obtain ⟨ad145, A145_0, c145_0, e145, hx145_0, hl145_0, hi145_0⟩ := at_L1 HR0_1.out x3_2 p145 q145
         have hw145_0 := hx145_0
         cases e145
         replace hx145_0 := ce_ HB hx145_0
         have HR145_0 := am_ hi145_0
         have HC145_0 := am_ hl145_0
         clear hi145_0 hl145_0
         replace p145 := eq_true p145
         replace q145 := eq_true q145
         refine start_ (n := 9) (S := fun w' => w'.cell? ⟨gb143, 0, none⟩ = some (.int .i64 a0_0) ∧ w'.cell? ⟨gb143, 1, none⟩ = some (.slice (some ad145) l0_1.length c0_1) ∧ w'.cell? (ad145.add (x3_2).toNat) = some (.slice A145_0 (rd_L1 l0_1 x3_2).length c145_0)) (ds := []) (bA_ 9 0) (by kernel_rfl) rfl (by kernel_rfl) ⟨bc_ BK143 0, bc_ BK143 1, (cf_ HB hw145_0)⟩ (fun hHeld => ?_); refine with_tabW spec_IsPresentation.tab6 spec_IsPresentation.bits6 (fun HT_ HW_ => ?_)
         generalize wr.drew = w14 at BK143 HB HR145_0 hx145_0 hHeld ⊢
         refine pz_ 0 21 (bA_ 9 1) HT_ ?_
         refine pz_ 2 23 (bA_ 9 5) HT_ ?_
         refine pz_ 5 26 (bA_ 9 37) HT_ ?_
         refine tz_ 1 22 (bA_ 9 39) HT_ HW_ hHeld ?_
         refine pz_ 3 24 (bA_ 9 47) HT_ ?_
         refine tz_ 4 25 (bA_ 9 63) HT_ HW_ hHeld ?_
         refine tz_ 6 27 (bA_ 9 127) HT_ HW_ hHeld ?_
         refine oz_ 7 28 (bA_ 9 255) HT_ (fun K hK => ?_)
         refine goes_ Try.func61 (by kernel_rfl) rfl #[.slice A145_0 (rd_L1 l0_1 x3_2).length c145_0, .int .i64 a0_0] (by rfl) rfl rfl lm_ ?_
         with_reducible refine (spec_l04Letters.calls k2 _ _ (rd_L1 l0_1 x3_2) a0_0 true _ ?side1 ?side2 A11.out).mono ?_
         (case side1 => exact cb_ HR145_0 HB)
         (case side2 => exact HC145_0.out)
         rintro e w15 ⟨rfl, hb⟩
         refine ⟨_, rfl, ?_⟩
         have n0_ := am_ (bw_ BK143 hb)
         have n1_ := am_ (below_step (bb_ HB.out) hb)
         clear BK143 HB; revert n0_ n1_; intro BK143 HB
         (try clear hb)
         (try clear hb2)
         (try clear hk)
         (try clear hi)
         refine hK.out _ _ ⟨bc_ BK143 0, bc_ BK143 1, (cf_ HB hw145_0)⟩ (fun hHeld => ?_)
         clear hK K
         refine nm_ 28 ?_
         refine pz_ 8 29 (bA_ 9 511) HT_ ?_
         refine done_ (done_of HT_.out (by kernel_rfl)) ?_
         try go_wp2
         go_roundg k2
         case measure => have := HJ1.out; have := HK2.out; omega
         case rel => exact ⟨(wrap64 (x3_2 + 1)), (by first | rfl | (simp; done) | (simp [*]; done)), H', ⟨by have := HJ1.out; have := HK2.out; omega⟩, ⟨bk_ BK143.out⟩, ⟨bb_ HB.out⟩⟩
        ·replace c12 := Bool.eq_false_iff.mpr c12
         subst c12
         have H1 : (some false) = some r := by rw [if_neg (show ¬ (false = true) by decide)] at H; exact H
         clear H
         have H := H1
         clear H1
         obtain rfl := Option.some.inj H
         obtain ⟨hcz16_0, hcz16_1, hfz16_0, hfz16_1⟩ := bx2_ BK143
         try go_wp2
         have n0_ := am_ (blk_drew BK143.out)
         have n1_ := am_ (below_drew1 HB.out)
         clear BK143 HB; revert n0_ n1_; intro BK143 HB
         have p145 : 0 ≤ (x3_2 : Int) := da_
         have q145 : x3_2 < (l0_1.length : Int) := da_
         obtain ⟨ad145, A145_0, c145_0, e145, hx145_0, hl145_0, hi145_0⟩ := at_L1 HR0_1.out x3_2 p145 q145
         have hw145_0 := hx145_0
         cases e145
         replace hx145_0 := ce_ HB hx145_0
         have HR145_0 := am_ hi145_0
         have HC145_0 := am_ hl145_0
         clear hi145_0 hl145_0
         replace p145 := eq_true p145
         replace q145 := eq_true q145
         refine start_ (n := 9) (S := fun w' => w'.cell? ⟨gb143, 0, none⟩ = some (.int .i64 a0_0) ∧ w'.cell? ⟨gb143, 1, none⟩ = some (.slice (some ad145) l0_1.length c0_1) ∧ w'.cell? (ad145.add (x3_2).toNat) = some (.slice A145_0 (rd_L1 l0_1 x3_2).length c145_0)) (ds := []) (bA_ 9 0) (by kernel_rfl) rfl (by kernel_rfl) ⟨bc_ BK143 0, bc_ BK143 1, (cf_ HB hw145_0)⟩ (fun hHeld => ?_); refine with_tabW spec_IsPresentation.tab6 spec_IsPresentation.bits6 (fun HT_ HW_ => ?_)
         generalize wr.drew = w17 at BK143 HB HR145_0 hx145_0 hHeld ⊢
         refine pz_ 0 21 (bA_ 9 1) HT_ ?_
         refine pz_ 2 23 (bA_ 9 5) HT_ ?_
         refine pz_ 5 26 (bA_ 9 37) HT_ ?_
         refine tz_ 1 22 (bA_ 9 39) HT_ HW_ hHeld ?_
         refine pz_ 3 24 (bA_ 9 47) HT_ ?_
         refine tz_ 4 25 (bA_ 9 63) HT_ HW_ hHeld ?_
         refine tz_ 6 27 (bA_ 9 127) HT_ HW_ hHeld ?_
         refine oz_ 7 28 (bA_ 9 255) HT_ (fun K hK => ?_)
         refine goes_ Try.func61 (by kernel_rfl) rfl #[.slice A145_0 (rd_L1 l0_1 x3_2).length c145_0, .int .i64 a0_0] (by rfl) rfl rfl lm_ ?_
         with_reducible refine (spec_l04Letters.calls k2 _ _ (rd_L1 l0_1 x3_2) a0_0 false _ ?side1 ?side2 A11.out).mono ?_
         (case side1 => exact cb_ HR145_0 HB)
         (case side2 => exact HC145_0.out)
         rintro e w18 ⟨rfl, hb⟩
         refine ⟨_, rfl, ?_⟩
         have n0_ := am_ (bw_ BK143 hb)
         have n1_ := am_ (below_step (bb_ HB.out) hb)
         clear BK143 HB; revert n0_ n1_; intro BK143 HB
         (try clear hb)
         (try clear hb2)
         (try clear hk)
         (try clear hi)
         refine hK.out _ _ ⟨bc_ BK143 0, bc_ BK143 1, (cf_ HB hw145_0)⟩ (fun hHeld => ?_)
         clear hK K
         refine nm_ 28 ?_
         refine pz_ 8 29 (bA_ 9 511) HT_ ?_
         refine done_ (done_of HT_.out (by kernel_rfl)) ?_
         try go_wp2
         go_ret
         exact ⟨er_, bb_ HB.out⟩
       ·rw [if_neg c10] at H
        exact absurd H (by simp)
      ·rw [if_neg c9] at H
       have c9b0 : decide (x3_2 < (l0_1.length : Int)) = false := decide_eq_false c9
       clear c9
       obtain rfl := Option.some.inj H
       obtain ⟨hcz19_0, hcz19_1, hfz19_0, hfz19_1⟩ := bx2_ BK143
       go_wp2
       go_ret
       exact ⟨er_, bb_ HB.out⟩

end Go.Proofs.Ytbcdngjajjgmkaa.PFnExactSimplifyPresentation
