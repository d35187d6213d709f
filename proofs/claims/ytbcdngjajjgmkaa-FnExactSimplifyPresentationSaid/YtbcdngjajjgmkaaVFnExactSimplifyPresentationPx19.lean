/- Written by this session's program out of the kit's print and this session's contracts. -/
import Derived.Test.YtbcdngjajjgmkaaVFnExactSimplifyPresentationPx0
import Derived.Test.YtbcdngjajjgmkaaVFnExactSimplifyPresentationPx1
import Derived.Test.YtbcdngjajjgmkaaVFnExactSimplifyPresentationPx2
import Derived.Test.YtbcdngjajjgmkaaVFnExactSimplifyPresentationPx11
import Derived.Test.YtbcdngjajjgmkaaVFnExactSimplifyPresentationPx18
namespace Go.Proofs.Ytbcdngjajjgmkaa.PFnExactSimplifyPresentation
open Go.RowKit Go.Proofs.YtbcdngjajjgmkaaW.PrintWords Go.Proofs.YtbcdngjajjgmkaaW.PrintLast Go.Proofs.YtbcdngjajjgmkaaW.PrintMore
set_option maxHeartbeats 32000000
set_option maxRecDepth 100000
set_option linter.unusedVariables false
set_option linter.unusedSimpArgs false

/-! ### laws_heldTietzeMoveS: function 32 -/
def laws_heldTietzeMoveS.l0 : Nat → List (S44) → Int → Int → Option (Int)
 | 0, _, _, _ => none
 | k + 1, x0, x1, x5 => if x5 < (x0.length : Int) then (if 0 ≤ x5 then (if ((rd_T44 x0 x5).f0) = x1 then (if ((rd_T44 x0 x5).f1) = (wrap64 (x1 + 1)) then (if ((rd_T44 x0 x5).f2) = (wrap64 ((wrap64 (x1 + 1)) + 1)) then ((laws_heldInt64S.f k ((rd_T44 x0 x5).f3) (wrap64 ((wrap64 ((wrap64 (x1 + 1)) + 1)) + 1))).bind fun t479 => (if t479 < 0 then (some (-1)) else (laws_heldTietzeMoveS.l0 k x0 t479 (wrap64 (x5 + 1))))) else (some (-1))) else (some (-1))) else (some (-1))) else (none)) else (some x1)
def laws_heldTietzeMoveS.f (k : Nat) (l0 : List (S44)) (a1 : Int) : Option (Int) := laws_heldTietzeMoveS.l0 k l0 a1 0
theorem laws_heldTietzeMoveS.calls (k : Nat) (A0 : Option Addr) (c0 : Nat) (l0 : List (S44)) (a1 : Int) (r : Int) (w : World) (hr0 : Kd.C k44 w A0 l0.length l0) (hc0 : l0.length ≤ c0) (h : laws_heldTietzeMoveS.f k l0 a1 = some r) :
  Calls Try.prog 32 #[.slice A0 l0.length c0, .int .i64 a1] w fun e w' => e = .returned (.int .i64 r) ∧ Drawn0 w w' := by
 have HR0 := am_ hr0
 have HC0 := am_ hc0
 clear hr0 hc0
 have H : (laws_heldTietzeMoveS.l0 k l0 a1 0) = some r := h
 clear h
 have H' := am_ H
 clear H
 go_enter Try.func32, Try.ntmps32
 go_wp2
 go_loopg [1, 5] k (fun kq v1 v5 w' => ∃ (x1_1 : Int) (x5_1 : Int), v1 = .int .i64 x1_1 ∧ v5 = .int .i64 x5_1 ∧ Aside0 (laws_heldTietzeMoveS.l0 kq l0 x1_1 x5_1 = some r) ∧ Aside0 (kq ≤ k) ∧ Drawn0 w w')
 case atStart => exact ⟨(a1), (0), (by first | rfl | (simp; done) | (simp [*]; done)), (by first | rfl | (simp; done) | (simp [*]; done)), H', ⟨Nat.le_refl _⟩, by repeat (first | exact Drawn0.refl _ | apply Drawn0.step)⟩
 case round =>
  clear H'
  try clear p2
  obtain ⟨x1_1, x5_1, rfl, rfl, HA, HK1, ⟨m1, rfl⟩⟩ := hrel
  cases gk with
  | zero => exact absurd HA.out (by simp [laws_heldTietzeMoveS.l0])
  | succ k1 =>
   have H := HA.out
   clear HA
   simp only [laws_heldTietzeMoveS.l0] at H
   by_cases c3 : x5_1 < (l0.length : Int)
   ·rw [if_pos c3] at H
    have c3b0 : decide (x5_1 < (l0.length : Int)) = true := decide_eq_true c3
    clear c3
    by_cases c4 : 0 ≤ x5_1
    ·rw [if_pos c4] at H
     have c4b0 : decide (0 ≤ x5_1) = true := decide_eq_true c4
     clear c4
     by_cases c5 : ((rd_T44 l0 x5_1).f0) = x1_1
     ·rw [if_pos c5] at H
      have c5b0 : (((rd_T44 l0 x5_1).f0) == x1_1) = true := beq_iff_eq.mpr c5
      have c5b1 : (((rd_T44 l0 x5_1).f0) != x1_1) = false := bne_eq_false_iff_eq.mpr c5
      clear c5
      by_cases c6 : ((rd_T44 l0 x5_1).f1) = (wrap64 (x1_1 + 1))
      ·rw [if_pos c6] at H
       have c6b0 : (((rd_T44 l0 x5_1).f1) == (wrap64 (x1_1 + 1))) = true := beq_iff_eq.mpr c6
       have c6b1 : (((rd_T44 l0 x5_1).f1) != (wrap64 (x1_1 + 1))) = false := bne_eq_false_iff_eq.mpr c6
       clear c6
       by_cases c7 : ((rd_T44 l0 x5_1).f2) = (wrap64 ((wrap64 (x1_1 + 1)) + 1))
       ·rw [if_pos c7] at H
        have c7b0 : (((rd_T44 l0 x5_1).f2) == (wrap64 ((wrap64 (x1_1 + 1)) + 1))) = true := beq_iff_eq.mpr c7
        have c7b1 : (((rd_T44 l0 x5_1).f2) != (wrap64 ((wrap64 (x1_1 + 1)) + 1))) = false := bne_eq_false_iff_eq.mpr c7
        clear c7
        replace H := Option.bind_eq_some_iff.mp H
        obtain ⟨t479, A80, H⟩ := H
        replace H : (if t479 < 0 then (some (-1)) else (laws_heldTietzeMoveS.l0 k1 l0 t479 (wrap64 (x5_1 + 1)))) = some r := H
        have A8 := am_ A80
        clear A80
        by_cases c9 : t479 < 0
        ·rw [if_pos c9] at H
         have c9b0 : decide (t479 < 0) = true := decide_eq_true c9
         clear c9
         obtain rfl := Option.some.inj H
         have p475 : 0 ≤ (x5_1 : Int) := da_
         have q475 : x5_1 < (l0.length : Int) := da_
         obtain ⟨ad475, A475_3, c475_3, e475, hx475_0, hx475_1, hx475_2, hx475_3, hl475_3, hi475_3⟩ := at_T44 HR0.out x5_1 p475 q475
         cases e475
         have HR475_3 := am_ hi475_3
         have HC475_3 := am_ hl475_3
         clear hi475_3 hl475_3
         replace p475 := eq_true p475
         replace q475 := eq_true q475
         have p476 : 0 ≤ (x5_1 : Int) := da_
         have q476 : x5_1 < (l0.length : Int) := da_
         obtain ⟨ad476, A476_3, c476_3, e476, hx476_0, hx476_1, hx476_2, hx476_3, hl476_3, hi476_3⟩ := at_T44 HR0.out x5_1 p476 q476
         obtain rfl : ad475 = ad476 := (by injection e476)
         have HR476_3 := am_ hi476_3
         have HC476_3 := am_ hl476_3
         clear hi476_3 hl476_3
         replace p476 := eq_true p476
         replace q476 := eq_true q476
         have ea_ := Option.some.inj (hx475_3.symm.trans hx476_3)
         injection ea_ with ea_ en_ ec_
         subst ea_
         subst ec_
         clear en_
         have p477 : 0 ≤ (x5_1 : Int) := da_
         have q477 : x5_1 < (l0.length : Int) := da_
         obtain ⟨ad477, A477_3, c477_3, e477, hx477_0, hx477_1, hx477_2, hx477_3, hl477_3, hi477_3⟩ := at_T44 HR0.out x5_1 p477 q477
         obtain rfl : ad475 = ad477 := (by injection e477)
         have HR477_3 := am_ hi477_3
         have HC477_3 := am_ hl477_3
         clear hi477_3 hl477_3
         replace p477 := eq_true p477
         replace q477 := eq_true q477
         have ea_ := Option.some.inj (hx475_3.symm.trans hx477_3)
         injection ea_ with ea_ en_ ec_
         subst ea_
         subst ec_
         clear en_
         have p478 : 0 ≤ (x5_1 : Int) := da_
         have q478 : x5_1 < (l0.length : Int) := da_
         obtain ⟨ad478, A478_3, c478_3, e478, hx478_0, hx478_1, hx478_2, hx478_3, hl478_3, hi478_3⟩ := at_T44 HR0.out x5_1 p478 q478
         obtain rfl : ad475 = ad478 := (by injection e478)
         have HR478_3 := am_ hi478_3
         have HC478_3 := am_ hl478_3
         clear hi478_3 hl478_3
         replace p478 := eq_true p478
         replace q478 := eq_true q478
         have ea_ := Option.some.inj (hx475_3.symm.trans hx478_3)
         injection ea_ with ea_ en_ ec_
         subst ea_
         subst ec_
         clear en_
         go_wp2_with (first | ((with_reducible refine gate_callee (f := 47) rfl ?_); refine goesL_ (some 45) rfl rfl Try.func47 (by kernel_rfl) rfl #[.slice A475_3 ((rd_T44 l0 x5_1).f3).length c475_3, .int .i64 (wrap64 ((wrap64 ((wrap64 (x1_1 + 1)) + 1)) + 1))] rfl lm_ ?_; (with_reducible refine (laws_heldInt64S.calls k1 _ _ ((rd_T44 l0 x5_1).f3) (wrap64 ((wrap64 ((wrap64 (x1_1 + 1)) + 1)) + 1)) t479 _ ?side1 ?side2 A8.out).mono ?_); (case side1 => exact cz_ HR478_3.out); (case side2 => exact HC478_3.out); rintro e w' ⟨rfl, ⟨nd, rfl⟩⟩; refine ⟨_, rfl, ?_⟩))
         go_ret
         exact ⟨by first | rfl | (simp; done) | (simp [*]; done), by repeat (first | exact Drawn0.refl _ | apply Drawn0.step)⟩
        ·rw [if_neg c9] at H
         have c9b0 : decide (t479 < 0) = false := decide_eq_false c9
         clear c9
         have H' := am_ H
         clear H
         have p475 : 0 ≤ (x5_1 : Int) := da_
         have q475 : x5_1 < (l0.length : Int) := da_
         obtain ⟨ad475, A475_3, c475_3, e475, hx475_0, hx475_1, hx475_2, hx475_3, hl475_3, hi475_3⟩ := at_T44 HR0.out x5_1 p475 q475
         cases e475
         have HR475_3 := am_ hi475_3
         have HC475_3 := am_ hl475_3
         clear hi475_3 hl475_3
         replace p475 := eq_true p475
         replace q475 := eq_true q475
         have p476 : 0 ≤ (x5_1 : Int) := da_
         have q476 : x5_1 < (l0.length : Int) := da_
         obtain ⟨ad476, A476_3, c476_3, e476, hx476_0, hx476_1, hx476_2, hx476_3, hl476_3, hi476_3⟩ := at_T44 HR0.out x5_1 p476 q476
         obtain rfl : ad475 = ad476 := (by injection e476)
         have HR476_3 := am_ hi476_3
         have HC476_3 := am_ hl476_3
         clear hi476_3 hl476_3
         replace p476 := eq_true p476
         replace q476 := eq_true q476
         have ea_ := Option.some.inj (hx475_3.symm.trans hx476_3)
         injection ea_ with ea_ en_ ec_
         subst ea_
         subst ec_
         clear en_
         have p477 : 0 ≤ (x5_1 : Int) := da_
         have q477 : x5_1 < (l0.length : Int) := da_
         obtain ⟨ad477, A477_3, c477_3, e477, hx477_0, hx477_1, hx477_2, hx477_3, hl477_3, hi477_3⟩ := at_T44 HR0.out x5_1 p477 q477
         obtain rfl : ad475 = ad477 := (by injection e477)
         have HR477_3 := am_ hi477_3
         have HC477_3 := am_ hl477_3
         clear hi477_3 hl477_3
         replace p477 := eq_true p477
         replace q477 := eq_true q477
         have ea_ := Option.some.inj (hx475_3.symm.trans hx477_3)
         injection ea_ with ea_ en_ ec_
         subst ea_
         subst ec_
         clear en_
         have p478 : 0 ≤ (x5_1 : Int) := da_
         have q478 : x5_1 < (l0.length : Int) := da_
         obtain ⟨ad478, A478_3, c478_3, e478, hx478_0, hx478_1, hx478_2, hx478_3, hl478_3, hi478_3⟩ := at_T44 HR0.out x5_1 p478 q478
         obtain rfl : ad475 = ad478 := (by injection e478)
         have HR478_3 := am_ hi478_3
         have HC478_3 := am_ hl478_3
         clear hi478_3 hl478_3
         replace p478 := eq_true p478
         replace q478 := eq_true q478
         have ea_ := Option.some.inj (hx475_3.symm.trans hx478_3)
         injection ea_ with ea_ en_ ec_
         subst ea_
         subst ec_
         clear en_
         go_wp2_with (first | ((with_reducible refine gate_callee (f := 47) rfl ?_); refine goesL_ (some 45) rfl rfl Try.func47 (by kernel_rfl) rfl #[.slice A475_3 ((rd_T44 l0 x5_1).f3).length c475_3, .int .i64 (wrap64 ((wrap64 ((wrap64 (x1_1 + 1)) + 1)) + 1))] rfl lm_ ?_; (with_reducible refine (laws_heldInt64S.calls k1 _ _ ((rd_T44 l0 x5_1).f3) (wrap64 ((wrap64 ((wrap64 (x1_1 + 1)) + 1)) + 1)) t479 _ ?side1 ?side2 A8.out).mono ?_); (case side1 => exact cz_ HR478_3.out); (case side2 => exact HC478_3.out); rintro e w' ⟨rfl, ⟨nd, rfl⟩⟩; refine ⟨_, rfl, ?_⟩))
         go_roundg k1
         case measure => have := HK1.out; omega
         case rel => exact ⟨(t479), (wrap64 (x5_1 + 1)), (by first | rfl | (simp; done) | (simp [*]; done)), (by first | rfl | (simp; done) | (simp [*]; done)), H', ⟨by have := HK1.out; omega⟩, by repeat (first | exact Drawn0.refl _ | apply Drawn0.step)⟩
       ·rw [if_neg c7] at H
        have c7b0 : (((rd_T44 l0 x5_1).f2) == (wrap64 ((wrap64 (x1_1 + 1)) + 1))) = false := beq_eq_false_iff_ne.mpr c7
        have c7b1 : (((rd_T44 l0 x5_1).f2) != (wrap64 ((wrap64 (x1_1 + 1)) + 1))) = true := bne_iff_ne.mpr c7
        obtain rfl := Option.some.inj H
        have p475 : 0 ≤ (x5_1 : Int) := da_
        have q475 : x5_1 < (l0.length : Int) := da_
        obtain ⟨ad475, A475_3, c475_3, e475, hx475_0, hx475_1, hx475_2, hx475_3, hl475_3, hi475_3⟩ := at_T44 HR0.out x5_1 p475 q475
        cases e475
        have HR475_3 := am_ hi475_3
        have HC475_3 := am_ hl475_3
        clear hi475_3 hl475_3
        replace p475 := eq_true p475
        replace q475 := eq_true q475
        have p476 : 0 ≤ (x5_1 : Int) := da_
        have q476 : x5_1 < (l0.length : Int) := da_
        obtain ⟨ad476, A476_3, c476_3, e476, hx476_0, hx476_1, hx476_2, hx476_3, hl476_3, hi476_3⟩ := at_T44 HR0.out x5_1 p476 q476
        obtain rfl : ad475 = ad476 := (by injection e476)
        have HR476_3 := am_ hi476_3
        have HC476_3 := am_ hl476_3
        clear hi476_3 hl476_3
        replace p476 := eq_true p476
        replace q476 := eq_true q476
        have ea_ := Option.some.inj (hx475_3.symm.trans hx476_3)
        injection ea_ with ea_ en_ ec_
        subst ea_
        subst ec_
        clear en_
        have p477 : 0 ≤ (x5_1 : Int) := da_
        have q477 : x5_1 < (l0.length : Int) := da_
        obtain ⟨ad477, A477_3, c477_3, e477, hx477_0, hx477_1, hx477_2, hx477_3, hl477_3, hi477_3⟩ := at_T44 HR0.out x5_1 p477 q477
        obtain rfl : ad475 = ad477 := (by injection e477)
        have HR477_3 := am_ hi477_3
        have HC477_3 := am_ hl477_3
        clear hi477_3 hl477_3
        replace p477 := eq_true p477
        replace q477 := eq_true q477
        have ea_ := Option.some.inj (hx475_3.symm.trans hx477_3)
        injection ea_ with ea_ en_ ec_
        subst ea_
        subst ec_
        clear en_
        go_wp2
        go_ret
        exact ⟨by first | rfl | (simp; done) | (simp [*]; done), by repeat (first | exact Drawn0.refl _ | apply Drawn0.step)⟩
      ·rw [if_neg c6] at H
       have c6b0 : (((rd_T44 l0 x5_1).f1) == (wrap64 (x1_1 + 1))) = false := beq_eq_false_iff_ne.mpr c6
       have c6b1 : (((rd_T44 l0 x5_1).f1) != (wrap64 (x1_1 + 1))) = true := bne_iff_ne.mpr c6
       obtain rfl := Option.some.inj H
       have p475 : 0 ≤ (x5_1 : Int) := da_
       have q475 : x5_1 < (l0.length : Int) := da_
       obtain ⟨ad475, A475_3, c475_3, e475, hx475_0, hx475_1, hx475_2, hx475_3, hl475_3, hi475_3⟩ := at_T44 HR0.out x5_1 p475 q475
       cases e475
       have HR475_3 := am_ hi475_3
       have HC475_3 := am_ hl475_3
       clear hi475_3 hl475_3
       replace p475 := eq_true p475
       replace q475 := eq_true q475
       have p476 : 0 ≤ (x5_1 : Int) := da_
       have q476 : x5_1 < (l0.length : Int) := da_
       obtain ⟨ad476, A476_3, c476_3, e476, hx476_0, hx476_1, hx476_2, hx476_3, hl476_3, hi476_3⟩ := at_T44 HR0.out x5_1 p476 q476
       obtain rfl : ad475 = ad476 := (by injection e476)
       have HR476_3 := am_ hi476_3
       have HC476_3 := am_ hl476_3
       clear hi476_3 hl476_3
       replace p476 := eq_true p476
       replace q476 := eq_true q476
       have ea_ := Option.some.inj (hx475_3.symm.trans hx476_3)
       injection ea_ with ea_ en_ ec_
       subst ea_
       subst ec_
       clear en_
       go_wp2
       go_ret
       exact ⟨by first | rfl | (simp; done) | (simp [*]; done), by repeat (first | exact Drawn0.refl _ | apply Drawn0.step)⟩
     ·rw [if_neg c5] at H
      have c5b0 : (((rd_T44 l0 x5_1).f0) == x1_1) = false := beq_eq_false_iff_ne.mpr c5
      have c5b1 : (((rd_T44 l0 x5_1).f0) != x1_1) = true := bne_iff_ne.mpr c5
      obtain rfl := Option.some.inj H
      have p475 : 0 ≤ (x5_1 : Int) := da_
      have q475 : x5_1 < (l0.length : Int) := da_
      obtain ⟨ad475, A475_3, c475_3, e475, hx475_0, hx475_1, hx475_2, hx475_3, hl475_3, hi475_3⟩ := at_T44 HR0.out x5_1 p475 q475
      cases e475
      have HR475_3 := am_ hi475_3
      have HC475_3 := am_ hl475_3
      clear hi475_3 hl475_3
      replace p475 := eq_true p475
      replace q475 := eq_true q475
      go_wp2
      go_ret
      exact ⟨by first | rfl | (simp; done) | (simp [*]; done), by repeat (first | exact Drawn0.refl _ | apply Drawn0.step)⟩
    ·rw [if_neg c4] at H
     exact absurd H (by simp)
   ·rw [if_neg c3] at H
    have c3b0 : decide (x5_1 < (l0.length : Int)) = false := decide_eq_false c3
    clear c3
    obtain rfl := Option.some.inj H
    go_wp2
    go_ret
    exact ⟨by first | rfl | (simp; done) | (simp [*]; done), by repeat (first | exact Drawn0.refl _ | apply Drawn0.step)⟩

/-! ### laws_FnExactSimplifyPresentation: function 6 -/
def laws_FnExactSimplifyPresentation.f (k : Nat) (a0_0 : Int) (l0_1 : List (List Int)) : Option Bool :=
  (laws_szPresentation.f k a0_0 l0_1 1048576).bind fun z => if z < 0 then some true else
  (laws_toPresentation.f k a0_0 l0_1).bind fun p => (spec_SimplifyPresentation.f k p.1 p.2).bind fun s => (impl_SimplifyPresentation.f k p.1 p.2).bind fun r =>
  (laws_eqPresentation.f k r.1 r.2.1 s.1 s.2.1).bind fun e1 => if e1 = true then (laws_eqTietzeMoveS.f k r.2.2.1 s.2.2.1).bind fun e2 => if e2 = true then (if r.2.2.2 = s.2.2.2 then
  (laws_eqPresentation.f k p.1 p.2 p.1 p.2).bind fun e3 => if e3 = true then
  (laws_markPresentation.f k p.1 p.2 1).bind fun m1 => if 0 ≤ m1.1 then
  (laws_markPresentation.f k r.1 r.2.1 1).bind fun m2 => (laws_markTietzeMoveS.f r.2.2.1 m2.1).bind fun m3 =>
  (laws_heldPresentation.f k r.1 m2.2 1).bind fun h1 => if 0 ≤ h1 then (laws_heldTietzeMoveS.f k m3.2 h1).bind fun h2 => if 0 ≤ h2 then (if h2 = m3.1 then some true
  else some false) else some false else some false else some false else some false else some false) else some false else some false
theorem takeL {P : Program} {ops : Array Oper} {Q : Exit → Act → World → Prop} {md : Region.Mode} {S : World → Prop} {i : Nat} {oi : Oper} (d : Option Tmp) {v : Value} {fuel : Nat} {listed : Array Bool} {a : Act} {w : World} (hi : ops[i]? = some oi) (hd : oi.dst = d)
    (hs : Region.noSelect ops = true) (hf : Region.free md ops listed i = true) (hr : (Region.ready md ops listed).contains i = true)
    (hQ : ∀ c a w, Q (.panic c) (a.put d v) w → Q (.panic c) a w) (hy : YieldsIf P ops S oi v a) (hS : S w)
    (h : wpAnyH P md ops Q S fuel (listed.setIfInBounds i true) (a.put d v) w) : wpAnyH P md ops Q S (fuel + 1) listed a w := by
  subst hd
  exact wpAnyH_take hi hs hf hr hQ hy hS h
theorem if_true_ {c : Prop} [Decidable c] {x : Option Bool} (h : (if c then x else some false) = some true) : c ∧ x = some true := by
  by_cases hc : c
  · rw [if_pos hc] at h
    exact ⟨hc, h⟩
  · rw [if_neg hc] at h
    exact absurd h (by simp)
/-- Rows whose blocks all lie in a part of the heap. -/
def Seg (w W : World) (lo hi : Nat) (v : Value) (xs : List (List Int)) : Prop := Kd.S (Kd.slice 2 (Kd.int .i64)) 39 W w.heap.size (fun k_ => lo ≤ k_ ∧ k_ < hi) v xs
theorem Seg.new {w W W' : World} {v : Value} {xs : List (List Int)} (h : Kd.S (Kd.slice 2 (Kd.int .i64)) 39 W' W.heap.size (fun _ => True) v xs) (hw : w.heap.size ≤ W.heap.size) : Seg w W' W.heap.size W'.heap.size v xs :=
  Kd.S_mono (Kd.S_lower (Kd.S_bound h) hw) fun _ hk => ⟨hk.2.1, hk.2.2.1⟩
theorem Seg.below {w W W' : World} {lo hi : Nat} {v : Value} {xs : List (List Int)} (h : Seg w W lo hi v xs) (hb : Below W.heap.size W W') : Seg w W' lo hi v xs := Kd.S_below h hb
theorem Seg.kept {w W W' : World} {lo hi lo' hi' : Nat} {v : Value} {xs : List (List Int)} (h : Seg w W lo hi v xs) (hk : Kept W W' fun k_ => lo' ≤ k_ ∧ k_ < hi') (hd : hi ≤ lo' ∨ hi' ≤ lo) : Seg w W' lo hi v xs := Kd.S_kept h hk fun k h1 h2 => by omega
theorem Seg.reads {w W : World} {lo hi : Nat} {A : Option Addr} {n c : Nat} {xs : List (List Int)} (h : Seg w W lo hi (.slice A n c) xs) : n = xs.length ∧ n ≤ c ∧ (Kd.slice 2 (Kd.int .i64)).C W A xs.length xs := Kd.S_reads' h
theorem drawn_below {W W' : World} (h : Drawn0 W W') : Below W.heap.size W W' := by
  obtain ⟨n, rfl⟩ := h
  exact pw_below_drewN (Below.refl _ W) n
theorem am2_ {P : Prop} (h : P) : Aside0 P := ⟨h⟩
theorem heldAtP {f : FuncId} {W : World} {base n c : Nat} {ok : Nat → Prop} {A : Option Addr} {xs : List (List Int)} {a g : Int} {Q : Ending → World → Prop} (hS : Kd.S (Kd.slice 2 (Kd.int .i64)) 39 W base ok (.slice A n c) xs)
    (h : (Kd.slice 2 (Kd.int .i64)).C W A xs.length xs → xs.length ≤ c → Calls Try.prog f #[.agg #[.int .i64 g, .slice A xs.length c], .int .i64 a] W Q) : Calls Try.prog f #[.agg #[.int .i64 g, .slice A n c], .int .i64 a] W Q := by
  obtain ⟨h1, h2, h3⟩ := Kd.S_reads' hS
  subst h1
  exact h h3 h2
theorem lw_ {W W' : World} {b : Nat} {o : Obj} (H : Aside0 (W.heap[b]? = some o)) (hb : Below W.heap.size W W') : Aside0 (W'.heap[b]? = some o) := ⟨(hb.block _ (blk_lt H.out)).trans H.out⟩
theorem lc2_ {W : World} {b t : Nat} {v0 v1 : Value} (H : Aside0 (W.heap[b]? = some (.cells #[v0, v1] t (0, 0)))) : W.cell? ⟨b, 0, none⟩ = some v0 ∧ W.cell? ⟨b, 1, none⟩ = some v1 := ⟨(blk_cell H.out 0).trans rfl, (blk_cell H.out 1).trans rfl⟩
def SegV (w W : World) (lo hi : Nat) (v : Value) (xs : List (List Int)) : Prop := Kd.V (Kd.slice 2 (Kd.int .i64)) 39 W w.heap.size (fun k_ => lo ≤ k_ ∧ k_ < hi) v xs
theorem SegV.new {w W W' : World} {v : Value} {xs : List (List Int)} {u : Value} (h : Kd.V (Kd.slice 2 (Kd.int .i64)) 39 W' W.heap.size (fun k_ => W.heap.size ≤ k_ ∧ some k_ ≠ u.ownBlock) v xs) (hw : w.heap.size ≤ W.heap.size) : SegV w W' W.heap.size W'.heap.size v xs := Kd.V_mono (Kd.V_lower (Kd.V_bound h) hw) fun _ hk => ⟨hk.1.1, hk.2⟩
theorem SegV.below {w W W' : World} {lo hi : Nat} {v : Value} {xs : List (List Int)} (h : SegV w W lo hi v xs) (hb : Below W.heap.size W W') : SegV w W' lo hi v xs := Kd.V_below h hb
theorem SegV.kept {w W W' : World} {lo hi lo' hi' : Nat} {v : Value} {xs : List (List Int)} (h : SegV w W lo hi v xs) (hk : Kept W W' fun k_ => lo' ≤ k_ ∧ k_ < hi') (hd : hi ≤ lo' ∨ hi' ≤ lo) : SegV w W' lo hi v xs := Kd.V_kept h hk fun k h1 h2 => by omega
theorem SegV.reads {w W : World} {lo hi : Nat} {A : Option Addr} {n c : Nat} {xs : List (List Int)} (h : SegV w W lo hi (.slice A n c) xs) : n = xs.length ∧ n ≤ c ∧ (Kd.slice 2 (Kd.int .i64)).C W A xs.length xs := Kd.V_reads' h
def SegM (w W : World) (lo hi : Nat) (v : Value) (xs : List S44) : Prop := Kd.S kmv 44 W w.heap.size (fun k_ => lo ≤ k_ ∧ k_ < hi) v xs
theorem SegM.new {w W W' : World} {v : Value} {xs : List S44} (h : Kd.S kmv 44 W' W.heap.size (fun _ => True) v xs) (hw : w.heap.size ≤ W.heap.size) : SegM w W' W.heap.size W'.heap.size v xs := Kd.S_mono (Kd.S_lower (Kd.S_bound h) hw) fun _ hk => ⟨hk.2.1, hk.2.2.1⟩
theorem SegM.below {w W W' : World} {lo hi : Nat} {v : Value} {xs : List S44} (h : SegM w W lo hi v xs) (hb : Below W.heap.size W W') : SegM w W' lo hi v xs := Kd.S_below h hb
theorem SegM.kept {w W W' : World} {lo hi lo' hi' : Nat} {v : Value} {xs : List S44} (h : SegM w W lo hi v xs) (hk : Kept W W' fun k_ => lo' ≤ k_ ∧ k_ < hi') (hd : hi ≤ lo' ∨ hi' ≤ lo) : SegM w W' lo hi v xs := Kd.S_kept h hk fun k h1 h2 => by omega
theorem SegM.reads {w W : World} {lo hi : Nat} {A : Option Addr} {n c : Nat} {xs : List S44} (h : SegM w W lo hi (.slice A n c) xs) : n = xs.length ∧ n ≤ c ∧ k44.C W A xs.length xs := ⟨(Kd.S_reads' h).1, (Kd.S_reads' h).2.1, kmv_C (Kd.S_reads' h).2.2⟩
def SegK (w W : World) (lo hi : Nat) (v : Value) (xs : List S44) : Prop := Kd.N k44 44 W w.heap.size (fun k_ => lo ≤ k_ ∧ k_ < hi) v xs
theorem SegK.new {w W W' : World} {v : Value} {xs : List S44} (h : Kd.N k44 44 W' W.heap.size (fun k_ => W.heap.size ≤ k_) v xs) (hw : w.heap.size ≤ W.heap.size) : SegK w W' W.heap.size W'.heap.size v xs := Kd.N_mono (Kd.N_lower (Kd.N_bound h) hw) fun _ hk => hk
theorem SegK.below {w W W' : World} {lo hi : Nat} {v : Value} {xs : List S44} (h : SegK w W lo hi v xs) (hb : Below W.heap.size W W') : SegK w W' lo hi v xs := Kd.N_below h hb
theorem SegK.kept {w W W' : World} {lo hi lo' hi' : Nat} {v : Value} {xs : List S44} (h : SegK w W lo hi v xs) (hk : Kept W W' fun k_ => lo' ≤ k_ ∧ k_ < hi') (hd : hi ≤ lo' ∨ hi' ≤ lo) : SegK w W' lo hi v xs := Kd.N_kept h hk fun k h1 h2 => by omega
theorem SegK.reads {w W : World} {lo hi : Nat} {A : Option Addr} {n c : Nat} {xs : List S44} (h : SegK w W lo hi (.slice A n c) xs) : n = xs.length ∧ n ≤ c ∧ k44.C W A xs.length xs := Kd.N_reads' h
theorem heldAtM {f : FuncId} {W : World} {base n c : Nat} {ok : Nat → Prop} {A : Option Addr} {xs : List S44} {a : Int} {Q : Ending → World → Prop} (hS : Kd.S kmv 44 W base ok (.slice A n c) xs)
    (h : k44.C W A xs.length xs → xs.length ≤ c → Calls Try.prog f #[.slice A xs.length c, .int .i64 a] W Q) : Calls Try.prog f #[.slice A n c, .int .i64 a] W Q := by
  obtain ⟨h1, h2, h3⟩ := Kd.S_reads' hS
  subst h1
  exact h (kmv_C h3) h2
theorem S_tight_ {α : Type} {d : Kd α} {e : Nat} {w : World} {base : Nat} {ok : Nat → Prop} {v : Value} {xs : List α} (hE : d.E = []) (h : d.S e w base ok v xs) : d.S e w base (fun k => some k = v.ownBlock) v xs := h.elim fun f hf => ⟨f, Kd.R_tight hE hf⟩
theorem S_own_ {α : Type} {d : Kd α} {e : Nat} {w : World} {base : Nat} {ok : Nat → Prop} {v : Value} {xs : List α} (h : d.S e w base ok v xs) : ∀ k, some k = v.ownBlock → ok k := fun k hk => h.elim fun _ hf => hf.1 k hk.symm
theorem kept_wide_ {w W : World} {S S' : Nat → Prop} (h : Kept w W S) (hs : ∀ k, S k → S' k) : Kept w W S' := ⟨h.1, fun i hi hn => h.2 i hi fun q => hn (hs i q)⟩
theorem impl_SimplifyRun.calls (k : Nat) (a0_0 : Int) (A0_1 : Option Addr) (c0_1 : Nat) (l0_1 : List (List Int)) (r1 : Int) (r2 : List (List Int)) (r3 : List S44) (r4 : Int) (w : World) (hr0_1 : Kd.C (Kd.slice 2 (Kd.int .i64)) w A0_1 l0_1.length l0_1) (hc0_1 : l0_1.length ≤ c0_1) (h : impl_SimplifyPresentation.f k a0_0 l0_1 = some (r1, r2, r3, r4)) :
    Calls Try.prog 29 #[.agg #[.int .i64 a0_0, .slice A0_1 l0_1.length c0_1]] w fun e w' => ∃ v1_ v2_ : Value, e = .returned (.tuple #[.agg #[.int .i64 r1, v1_], v2_, .int .i64 r4]) ∧ Kd.S (Kd.slice 2 (Kd.int .i64)) 39 w' w.heap.size (fun _ => True) v1_ r2 ∧ Kd.S kmv 44 w' w.heap.size (fun _ => True) v2_ r3 ∧ Below w.heap.size w w' := impl_SimplifyPresentation.run k a0_0 A0_1 c0_1 l0_1 r1 r2 r3 r4 w hr0_1 hc0_1 h
theorem laws_FnExactSimplifyPresentation.calls (k : Nat) (a0_0 : Int) (A1 : Option Addr) (c1 : Nat) (l1 : List (List Int)) (r : Bool) (w : World) (hr1 : Kd.C (Kd.slice 2 (Kd.int .i64)) w A1 l1.length l1) (hc1 : l1.length ≤ c1) (h : laws_FnExactSimplifyPresentation.f k a0_0 l1 = some r) (HTRUE_ : Aside0 (r = true)) :
    Calls Try.prog 6 #[.agg #[.int .i64 a0_0, .slice A1 l1.length c1]] w fun e w' => e = .returned (.bool r) ∧ Below w.heap.size w w' := by
  obtain rfl := HTRUE_.out
  clear HTRUE_
  have HR1 := Aside0.mk hr1
  have HC1 := Aside0.mk hc1
  clear hr1 hc1
  unfold laws_FnExactSimplifyPresentation.f at h
  obtain ⟨z, Z, h⟩ := Option.bind_eq_some_iff.mp h
  by_cases c0 : z < 0
  · have c0b : decide (z < 0) = true := decide_eq_true c0
    have F1 := Aside0.mk fun W (hW : Below w.heap.size w W) => laws_szPresentation.calls k a0_0 A1 c1 l1 1048576 z W (Kd.C_below HR1.out hW) HC1.out Z
    clear c0 h Z
    go_enter Try.func6, Try.ntmps6
    go_wp2_with (go_at_call 8; refine (F1.out _ (by repeat (first | exact Below.refl _ _ | apply below_alloc | apply pw_below_drewN))).mono ?_; rintro e w' ⟨rfl, hb⟩)
    go_ret
    exact ⟨rfl, below_then (below_alloc (Below.refl _ _) _) (below_size (below_alloc (Below.refl _ _) _)) hb⟩
  · have c0b : decide (z < 0) = false := decide_eq_false c0
    rw [if_neg c0] at h
    have hx_ := Option.bind_eq_some_iff.mp h
    clear h
    obtain ⟨⟨p1, p2⟩, B, h⟩ := hx_
    have hx_ := Option.bind_eq_some_iff.mp h
    clear h
    obtain ⟨⟨s1, s2, s3, s4⟩, S, h⟩ := hx_
    have hx_ := Option.bind_eq_some_iff.mp h
    clear h
    obtain ⟨⟨r1, r2, r3, r4⟩, R, h⟩ := hx_
    have hx_ := Option.bind_eq_some_iff.mp h
    clear h
    obtain ⟨e1, E1, h⟩ := hx_
    have hx_ := if_true_ h
    clear h
    obtain ⟨rfl, h⟩ := hx_
    have hx_ := Option.bind_eq_some_iff.mp h
    clear h
    obtain ⟨e2, E2, h⟩ := hx_
    have hx_ := if_true_ h
    clear h
    obtain ⟨rfl, h⟩ := hx_
    have hx_ := if_true_ h
    clear h
    obtain ⟨hrs, h⟩ := hx_
    simp only at E1 E2 hrs
    subst hrs
    have hx_ := Option.bind_eq_some_iff.mp h
    clear h
    obtain ⟨e3, E3, h⟩ := hx_
    have hx_ := if_true_ h
    clear h
    obtain ⟨rfl, h⟩ := hx_
    have hx_ := Option.bind_eq_some_iff.mp h
    clear h
    obtain ⟨⟨n1, b'⟩, M1, h⟩ := hx_
    have hx_ := if_true_ h
    clear h
    obtain ⟨hn1, h⟩ := hx_
    have hx_ := Option.bind_eq_some_iff.mp h
    clear h
    obtain ⟨⟨n2, r'⟩, M2, h⟩ := hx_
    have hx_ := Option.bind_eq_some_iff.mp h
    clear h
    obtain ⟨⟨n3, q'⟩, M3, h⟩ := hx_
    have hx_ := Option.bind_eq_some_iff.mp h
    clear h
    obtain ⟨h1, G, h⟩ := hx_
    have hx_ := if_true_ h
    clear h
    obtain ⟨hh, h⟩ := hx_
    have hx_ := Option.bind_eq_some_iff.mp h
    clear h
    obtain ⟨h2, G2, h⟩ := hx_
    have hx_ := if_true_ h
    clear h
    obtain ⟨hh2, h⟩ := hx_
    have hx_ := if_true_ h
    clear h
    obtain ⟨hz_, h⟩ := hx_
    simp only at S R E3 M1 hn1 M2 M3 G G2 hz_
    subst hz_
    have c1b : decide (n1 < 0) = false := decide_eq_false (by simpa using hn1)
    have c2b : decide (h1 < 0) = false := decide_eq_false (by simpa using hh)
    have c3b : decide (h2 < 0) = false := decide_eq_false (by simpa using hh2)
    have F1 := Aside0.mk fun  (W : World) (hW : Below w.heap.size w W)  => laws_szPresentation.calls k a0_0 A1 c1 l1 1048576 z W (Kd.C_below HR1.out hW) HC1.out Z
    have F2 := Aside0.mk fun  (W : World) (hW : Below w.heap.size w W)  => laws_toPresentation.calls k a0_0 A1 c1 l1 p1 p2 W (Kd.C_below HR1.out hW) HC1.out B
    have F3 := Aside0.mk fun A1_ c1_ (W : World) (hW : Below w.heap.size w W) h1_ g1_ => spec_SimplifyPresentation.calls k p1 A1_ c1_ p2 s1 s2 s3 r4 W h1_ g1_ S
    have F4 := Aside0.mk fun  (W : World) (hW : Below w.heap.size w W)  => laws_toPresentation.calls k a0_0 A1 c1 l1 p1 p2 W (Kd.C_below HR1.out hW) HC1.out B
    have F5 := Aside0.mk fun A1_ c1_ (W : World) (hW : Below w.heap.size w W) h1_ g1_ => impl_SimplifyRun.calls k p1 A1_ c1_ p2 r1 r2 r3 r4 W h1_ g1_ R
    have F6 := Aside0.mk fun A1_ c1_ A3_ c3_ (W : World) (hW : Below w.heap.size w W) h1_ g1_ h3_ g3_ => laws_eqPresentation.calls k r1 A1_ c1_ r2 s1 A3_ c3_ s2 true W h1_ g1_ h3_ g3_ E1
    have F7 := Aside0.mk fun A0_ c0_ A1_ c1_ (W : World) (hW : Below w.heap.size w W) h0_ g0_ h1_ g1_ => laws_eqTietzeMoveS.calls k A0_ c0_ r3 A1_ c1_ s3 true W h0_ g0_ h1_ g1_ E2
    have F8 := Aside0.mk fun  (W : World) (hW : Below w.heap.size w W)  => laws_toPresentation.calls k a0_0 A1 c1 l1 p1 p2 W (Kd.C_below HR1.out hW) HC1.out B
    have F9 := Aside0.mk fun A1_ c1_ A3_ c3_ (W : World) (hW : Below w.heap.size w W) h1_ g1_ h3_ g3_ => laws_eqPresentation.calls k p1 A1_ c1_ p2 p1 A3_ c3_ p2 true W h1_ g1_ h3_ g3_ E3
    have F10 := Aside0.mk fun P0_ u W hB ho => laws_markPresentation.calls k P0_ u p1 p2 1 n1 b' w W hB ho M1
    have F11 := Aside0.mk fun A1_ c1_ A3_ c3_ (W : World) (hW : Below w.heap.size w W) h1_ g1_ h3_ g3_ => laws_eqPresentation.calls k r1 A1_ c1_ r2 s1 A3_ c3_ s2 true W h1_ g1_ h3_ g3_ E1
    have F12 := Aside0.mk fun A0_ c0_ A1_ c1_ (W : World) (hW : Below w.heap.size w W) h0_ g0_ h1_ g1_ => laws_eqTietzeMoveS.calls k A0_ c0_ r3 A1_ c1_ s3 true W h0_ g0_ h1_ g1_ E2
    have F13 := Aside0.mk fun P0_ u W hB ho => laws_markPresentation.calls k P0_ u r1 r2 1 n2 r' w W hB ho M2
    have F14 := Aside0.mk fun P0_ u W hB ho => laws_markTietzeMoveS.calls P0_ u r3 n2 h2 q' w W hB ho M3
    have F15 := Aside0.mk fun A1_ c1_ (W : World) (hW : Below w.heap.size w W) h1_ g1_ => laws_heldPresentation.calls k r1 A1_ c1_ r' 1 h1 W h1_ g1_ G
    have F16 := Aside0.mk fun A0_ c0_ (W : World) (hW : Below w.heap.size w W) h0_ g0_ => laws_heldTietzeMoveS.calls k A0_ c0_ q' h1 h2 W h0_ g0_ G2
    have F17 := Aside0.mk fun  (W : World) (hW : Below w.heap.size w W)  => laws_toPresentation.calls k a0_0 A1 c1 l1 p1 p2 W (Kd.C_below HR1.out hW) HC1.out B
    have F18 := Aside0.mk fun A1_ c1_ (W : World) (hW : Below w.heap.size w W) h1_ g1_ => impl_SimplifyRun.calls k p1 A1_ c1_ p2 r1 r2 r3 r4 W h1_ g1_ R
    have F19 := Aside0.mk fun A1_ c1_ A3_ c3_ (W : World) (hW : Below w.heap.size w W) h1_ g1_ h3_ g3_ => laws_eqPresentation.calls k r1 A1_ c1_ r2 s1 A3_ c3_ s2 true W h1_ g1_ h3_ g3_ E1
    have F20 := Aside0.mk fun A0_ c0_ A1_ c1_ (W : World) (hW : Below w.heap.size w W) h0_ g0_ h1_ g1_ => laws_eqTietzeMoveS.calls k A0_ c0_ r3 A1_ c1_ s3 true W h0_ g0_ h1_ g1_ E2
    have F21 := Aside0.mk fun A1_ c1_ (W : World) (hW : Below w.heap.size w W) h1_ g1_ => laws_heldPresentation.calls k r1 A1_ c1_ r' 1 h1 W h1_ g1_ G
    have F22 := Aside0.mk fun A0_ c0_ (W : World) (hW : Below w.heap.size w W) h0_ g0_ => laws_heldTietzeMoveS.calls k A0_ c0_ q' h1 h2 W h0_ g0_ G2
    clear c0 Z B S R E1 E2 E3 M1 M2 M3 G G2 hn1 hh hh2
    go_enter Try.func6, Try.ntmps6
    go_upto_region 1 with (fail)
    obtain ⟨W1, hW_⟩ : ∃ W_, W_ = w.alloc (.cells #[.int .i64 a0_0, .slice A1 l1.length c1] 24) := ⟨_, rfl⟩
    have hb : Below w.heap.size w W1 := by rw [hW_]; exact below_alloc (Below.refl _ _) _
    have hnew_ : W1.heap[w.heap.size]? = some (.cells #[.int .i64 a0_0, .slice A1 l1.length c1] 24 (0, 0)) := by rw [hW_]; exact heap_alloc_new w _
    have bpLT := am2_ (show w.heap.size < W1.heap.size by rw [hW_]; simp)
    have HB1 := am2_ hb
    have HL1 := am2_ (below_size hb)
    have bp := am2_ hnew_
    obtain ⟨qbp_0, qbp_1⟩ := lc2_ bp
    change Code.wp Try.prog _ _ _ (w.alloc (.cells #[.int .i64 a0_0, .slice A1 l1.length c1] 24))
    rw [← hW_]
    clear hW_ hb hnew_
    go_upto_region 6 with (first
      | (go_at_call 8; refine (F1.out  _ HB1.out ).mono ?_; rintro e W2 ⟨rfl, hb⟩; have HB2 := am2_ (below_then HB1.out (below_size HB1.out) hb); have HL2 := am2_ (below_size hb); replace bp := lw_ bp hb; clear qbp_0 qbp_1; obtain ⟨qbp_0, qbp_1⟩ := lc2_ bp; clear F1  hb  )
      | (go_at_call 10; refine (F2.out  _ HB2.out ).mono ?_; rintro e W3 ⟨v3_0, rfl, hS0, hb⟩; have HB3 := am2_ (below_then HB2.out (below_size HB2.out) hb); have HL3 := am2_ (below_size hb); replace bp := lw_ bp hb; clear qbp_0 qbp_1; obtain ⟨qbp_0, qbp_1⟩ := lc2_ bp; have XA := am2_ (Seg.new hS0 (below_size HB2.out)); obtain ⟨A3_0, d3_0, e3_0⟩ := Kd.S_slice hS0; subst e3_0; clear F2 hS0 hb  )
      | (go_at_call 28; refine (F3.out _ _ _ HB3.out XA.out.reads.2.2 XA.out.reads.2.1).mono ?_; rintro e W4 ⟨v4_0, v4_1, rfl, hS0, hS1, hb⟩; have HB4 := am2_ (below_then HB3.out (below_size HB3.out) hb); have HL4 := am2_ (below_size hb); replace bp := lw_ bp hb; clear qbp_0 qbp_1; obtain ⟨qbp_0, qbp_1⟩ := lc2_ bp; have XS := am2_ (SegV.new hS0 (below_size HB3.out)); obtain ⟨A4_0, d4_0, e4_0⟩ := Kd.V_slice hS0; subst e4_0; have XT := am2_ (SegK.new hS1 (below_size HB3.out)); obtain ⟨A4_1, d4_1, e4_1⟩ := Kd.N_slice hS1; subst e4_1; clear F3 hS0 hS1 hb  XA))
    obtain ⟨W5, hW_⟩ : ∃ W_, W_ = W4.alloc (.cells #[.int .i64 s1, .slice A4_0 s2.length d4_0] 28) := ⟨_, rfl⟩
    have hb : Below W4.heap.size W4 W5 := by rw [hW_]; exact below_alloc (Below.refl _ _) _
    have hnew_ : W5.heap[W4.heap.size]? = some (.cells #[.int .i64 s1, .slice A4_0 s2.length d4_0] 28 (0, 0)) := by rw [hW_]; exact heap_alloc_new W4 _
    have bsLT := am2_ (show W4.heap.size < W5.heap.size by rw [hW_]; simp)
    have HB5 := am2_ (below_then HB4.out (below_size HB4.out) hb)
    have HL5 := am2_ (below_size hb)
    replace XS := am2_ (XS.out.below hb)
    replace XT := am2_ (XT.out.below hb)
    replace bp := lw_ bp hb
    clear qbp_0 qbp_1
    obtain ⟨qbp_0, qbp_1⟩ := lc2_ bp
    have bs := am2_ hnew_
    obtain ⟨qbs_0, qbs_1⟩ := lc2_ bs
    change Code.wp Try.prog _ _ _ (W4.alloc (.cells #[.int .i64 s1, .slice A4_0 s2.length d4_0] 28))
    rw [← hW_]
    clear hW_ hb hnew_
    go_upto_region 7 with (first
      | (go_at_call 10; refine (F4.out  _ HB5.out ).mono ?_; rintro e W6 ⟨v6_0, rfl, hS0, hb⟩; have HB6 := am2_ (below_then HB5.out (below_size HB5.out) hb); have HL6 := am2_ (below_size hb); replace XS := am2_ (XS.out.below hb); replace XT := am2_ (XT.out.below hb); replace bp := lw_ bp hb; clear qbp_0 qbp_1; obtain ⟨qbp_0, qbp_1⟩ := lc2_ bp; replace bs := lw_ bs hb; clear qbs_0 qbs_1; obtain ⟨qbs_0, qbs_1⟩ := lc2_ bs; have XB := am2_ (Seg.new hS0 (below_size HB5.out)); obtain ⟨A6_0, d6_0, e6_0⟩ := Kd.S_slice hS0; subst e6_0; clear F4 hS0 hb  ))
    obtain ⟨W7, hW_⟩ : ∃ W_, W_ = W6.alloc (.cells #[.int .i64 p1, .slice A6_0 p2.length d6_0] 28) := ⟨_, rfl⟩
    have hb : Below W6.heap.size W6 W7 := by rw [hW_]; exact below_alloc (Below.refl _ _) _
    have hnew_ : W7.heap[W6.heap.size]? = some (.cells #[.int .i64 p1, .slice A6_0 p2.length d6_0] 28 (0, 0)) := by rw [hW_]; exact heap_alloc_new W6 _
    have bxLT := am2_ (show W6.heap.size < W7.heap.size by rw [hW_]; simp)
    have HB7 := am2_ (below_then HB6.out (below_size HB6.out) hb)
    have HL7 := am2_ (below_size hb)
    replace XS := am2_ (XS.out.below hb)
    replace XT := am2_ (XT.out.below hb)
    replace XB := am2_ (XB.out.below hb)
    replace bp := lw_ bp hb
    clear qbp_0 qbp_1
    obtain ⟨qbp_0, qbp_1⟩ := lc2_ bp
    replace bs := lw_ bs hb
    clear qbs_0 qbs_1
    obtain ⟨qbs_0, qbs_1⟩ := lc2_ bs
    have bx := am2_ hnew_
    obtain ⟨qbx_0, qbx_1⟩ := lc2_ bx
    change Code.wp Try.prog _ _ _ (W6.alloc (.cells #[.int .i64 p1, .slice A6_0 p2.length d6_0] 28))
    rw [← hW_]
    clear hW_ hb hnew_
    go_upto_region 8 with (first
      | (go_at_call 29; refine (F5.out _ _ _ HB7.out XB.out.reads.2.2 XB.out.reads.2.1).mono ?_; rintro e W8 ⟨v8_0, v8_1, rfl, hS0, hS1, hb⟩; have HB8 := am2_ (below_then HB7.out (below_size HB7.out) hb); have HL8 := am2_ (below_size hb); replace XS := am2_ (XS.out.below hb); replace XT := am2_ (XT.out.below hb); replace XB := am2_ (XB.out.below hb); replace bp := lw_ bp hb; clear qbp_0 qbp_1; obtain ⟨qbp_0, qbp_1⟩ := lc2_ bp; replace bs := lw_ bs hb; clear qbs_0 qbs_1; obtain ⟨qbs_0, qbs_1⟩ := lc2_ bs; replace bx := lw_ bx hb; clear qbx_0 qbx_1; obtain ⟨qbx_0, qbx_1⟩ := lc2_ bx; have XR := am2_ (Seg.new hS0 (below_size HB7.out)); obtain ⟨A8_0, d8_0, e8_0⟩ := Kd.S_slice hS0; subst e8_0; have XQ := am2_ (SegM.new hS1 (below_size HB7.out)); obtain ⟨A8_1, d8_1, e8_1⟩ := Kd.S_slice hS1; subst e8_1; clear F5 hS0 hS1 hb  ))
    obtain ⟨W9, hW_⟩ : ∃ W_, W_ = W8.alloc (.cells #[.int .i64 r1, .slice A8_0 r2.length d8_0] 28) := ⟨_, rfl⟩
    have hb : Below W8.heap.size W8 W9 := by rw [hW_]; exact below_alloc (Below.refl _ _) _
    have hnew_ : W9.heap[W8.heap.size]? = some (.cells #[.int .i64 r1, .slice A8_0 r2.length d8_0] 28 (0, 0)) := by rw [hW_]; exact heap_alloc_new W8 _
    have bgLT := am2_ (show W8.heap.size < W9.heap.size by rw [hW_]; simp)
    have HB9 := am2_ (below_then HB8.out (below_size HB8.out) hb)
    have HL9 := am2_ (below_size hb)
    replace XS := am2_ (XS.out.below hb)
    replace XT := am2_ (XT.out.below hb)
    replace XB := am2_ (XB.out.below hb)
    replace XR := am2_ (XR.out.below hb)
    replace XQ := am2_ (XQ.out.below hb)
    replace bp := lw_ bp hb
    clear qbp_0 qbp_1
    obtain ⟨qbp_0, qbp_1⟩ := lc2_ bp
    replace bs := lw_ bs hb
    clear qbs_0 qbs_1
    obtain ⟨qbs_0, qbs_1⟩ := lc2_ bs
    replace bx := lw_ bx hb
    clear qbx_0 qbx_1
    obtain ⟨qbx_0, qbx_1⟩ := lc2_ bx
    have bg := am2_ hnew_
    obtain ⟨qbg_0, qbg_1⟩ := lc2_ bg
    change Code.wp Try.prog _ _ _ (W8.alloc (.cells #[.int .i64 r1, .slice A8_0 r2.length d8_0] 28))
    rw [← hW_]
    clear hW_ hb hnew_
    go_upto_region 10 with (first
      | (go_at_call 13; refine (F6.out _ _ _ _ _ HB9.out XR.out.reads.2.2 XR.out.reads.2.1 XS.out.reads.2.2 XS.out.reads.2.1).mono ?_; rintro e W10 ⟨rfl, hb⟩; have HB10 := am2_ (below_then HB9.out (below_size HB9.out) hb); have HL10 := am2_ (below_size hb); replace XS := am2_ (XS.out.below hb); replace XT := am2_ (XT.out.below hb); replace XB := am2_ (XB.out.below hb); replace XR := am2_ (XR.out.below hb); replace XQ := am2_ (XQ.out.below hb); replace bp := lw_ bp hb; clear qbp_0 qbp_1; obtain ⟨qbp_0, qbp_1⟩ := lc2_ bp; replace bs := lw_ bs hb; clear qbs_0 qbs_1; obtain ⟨qbs_0, qbs_1⟩ := lc2_ bs; replace bx := lw_ bx hb; clear qbx_0 qbx_1; obtain ⟨qbx_0, qbx_1⟩ := lc2_ bx; replace bg := lw_ bg hb; clear qbg_0 qbg_1; obtain ⟨qbg_0, qbg_1⟩ := lc2_ bg; clear F6  hb  )
      | (go_at_call 30; refine (F7.out _ _ _ _ _ HB10.out XQ.out.reads.2.2 XQ.out.reads.2.1 XT.out.reads.2.2 XT.out.reads.2.1).mono ?_; rintro e W11 ⟨rfl, hb⟩; have HB11 := am2_ (below_then HB10.out (below_size HB10.out) hb); have HL11 := am2_ (below_size hb); replace XS := am2_ (XS.out.below hb); replace XT := am2_ (XT.out.below hb); replace XB := am2_ (XB.out.below hb); replace XR := am2_ (XR.out.below hb); replace XQ := am2_ (XQ.out.below hb); replace bp := lw_ bp hb; clear qbp_0 qbp_1; obtain ⟨qbp_0, qbp_1⟩ := lc2_ bp; replace bs := lw_ bs hb; clear qbs_0 qbs_1; obtain ⟨qbs_0, qbs_1⟩ := lc2_ bs; replace bx := lw_ bx hb; clear qbx_0 qbx_1; obtain ⟨qbx_0, qbx_1⟩ := lc2_ bx; replace bg := lw_ bg hb; clear qbg_0 qbg_1; obtain ⟨qbg_0, qbg_1⟩ := lc2_ bg; clear F7  hb  ))
    refine wp_region_held_drew (S := (fun w' => w'.cell? ⟨w.heap.size, 0, none⟩ = some (.int .i64 a0_0) ∧ w'.cell? ⟨w.heap.size, 1, none⟩ = some (.slice A1 l1.length c1) ∧ w'.cell? ⟨W4.heap.size, 0, none⟩ = some (.int .i64 s1) ∧ w'.cell? ⟨W4.heap.size, 1, none⟩ = some (.slice A4_0 s2.length d4_0) ∧ w'.cell? ⟨W6.heap.size, 0, none⟩ = some (.int .i64 p1) ∧ w'.cell? ⟨W6.heap.size, 1, none⟩ = some (.slice A6_0 p2.length d6_0) ∧ w'.cell? ⟨W8.heap.size, 0, none⟩ = some (.int .i64 r1) ∧ w'.cell? ⟨W8.heap.size, 1, none⟩ = some (.slice A8_0 r2.length d8_0))) (by kernel_rfl) ?r10__s (fun hHeld => ?r10__0)
    case r10__s => exact ⟨qbp_0, qbp_1, qbs_0, qbs_1, qbx_0, qbx_1, qbg_0, qbg_1⟩
    case r10__0 =>
    obtain ⟨W12, hW_⟩ : ∃ W_, W_ = W11.drew := ⟨_, rfl⟩
    have hb : Below W11.heap.size W11 W12 := by rw [hW_]; exact below_drew1 (Below.refl _ _)
    have HB12 := am2_ (below_then HB11.out (below_size HB11.out) hb)
    have HL12 := am2_ (below_size hb)
    replace XS := am2_ (XS.out.below hb)
    replace XT := am2_ (XT.out.below hb)
    replace XB := am2_ (XB.out.below hb)
    replace XR := am2_ (XR.out.below hb)
    replace XQ := am2_ (XQ.out.below hb)
    replace bp := lw_ bp hb
    clear qbp_0 qbp_1
    obtain ⟨qbp_0, qbp_1⟩ := lc2_ bp
    replace bs := lw_ bs hb
    clear qbs_0 qbs_1
    obtain ⟨qbs_0, qbs_1⟩ := lc2_ bs
    replace bx := lw_ bx hb
    clear qbx_0 qbx_1
    obtain ⟨qbx_0, qbx_1⟩ := lc2_ bx
    replace bg := lw_ bg hb
    clear qbg_0 qbg_1
    obtain ⟨qbg_0, qbg_1⟩ := lc2_ bg
    rw [← hW_] at hHeld ⊢
    clear hW_ hb
    refine takeL (i := 0) (some 52) (v := ?r10_1_v) rfl rfl (by kernel_rfl) (by kernel_rfl) (by kernel_rfl) (fun _ _ _ h => h) (Or.inl ⟨by rfl, ?r10_1_y⟩) hHeld ?r10_1_n
    case r10_1_y => intro w_ hS_; (try dsimp only at hS_); go_simp; try (with_reducible rfl)
    simp only [Act.put, List.setIfInBounds_toArray, List.set_cons_zero, List.set_cons_succ]
    refine takeL (i := 1) (some 53) (v := ?r10_2_v) rfl rfl (by kernel_rfl) (by kernel_rfl) (by kernel_rfl) (fun _ _ _ h => h) (Or.inl ⟨by rfl, ?r10_2_y⟩) hHeld ?r10_2_n
    case r10_2_y => intro w_ hS_; (try dsimp only at hS_); go_simp; try (with_reducible rfl)
    simp only [Act.put, List.setIfInBounds_toArray, List.set_cons_zero, List.set_cons_succ]
    refine wpAnyH_ready (rs := [2]) (by kernel_rfl) (by simp) ?_
    refine AllReadyH.cons rfl (fun K hK => ?_) AllReadyH.nil
    go_simp
    (go_at_call 10; refine (F8.out  _ HB12.out ).mono ?_; rintro e W13 ⟨v13_0, rfl, hS0, hb⟩; have HB13 := am2_ (below_then HB12.out (below_size HB12.out) hb); have HL13 := am2_ (below_size hb); replace XS := am2_ (XS.out.below hb); replace XT := am2_ (XT.out.below hb); replace XB := am2_ (XB.out.below hb); replace XR := am2_ (XR.out.below hb); replace XQ := am2_ (XQ.out.below hb); replace bp := lw_ bp hb; clear qbp_0 qbp_1; obtain ⟨qbp_0, qbp_1⟩ := lc2_ bp; replace bs := lw_ bs hb; clear qbs_0 qbs_1; obtain ⟨qbs_0, qbs_1⟩ := lc2_ bs; replace bx := lw_ bx hb; clear qbx_0 qbx_1; obtain ⟨qbx_0, qbx_1⟩ := lc2_ bx; replace bg := lw_ bg hb; clear qbg_0 qbg_1; obtain ⟨qbg_0, qbg_1⟩ := lc2_ bg; have XC := am2_ (Seg.new hS0 (below_size HB12.out)); obtain ⟨A13_0, d13_0, e13_0⟩ := Kd.S_slice hS0; subst e13_0; clear F8 hS0 hb  )
    refine hK.out _ _ ?r10_3_s (fun hHeld2 => ?r10_3_n)
    case r10_3_s => (try dsimp only); exact ⟨qbp_0, qbp_1, qbs_0, qbs_1, qbx_0, qbx_1, qbg_0, qbg_1⟩
    clear hK K hHeld; have hHeld := hHeld2; clear hHeld2
    refine wpAnyH_ready (rs := [3]) (by kernel_rfl) (by simp) ?_
    refine AllReadyH.cons rfl (fun K hK => ?_) AllReadyH.nil
    go_simp
    (go_at_call 13; refine (F9.out _ _ _ _ _ HB13.out XB.out.reads.2.2 XB.out.reads.2.1 XC.out.reads.2.2 XC.out.reads.2.1).mono ?_; rintro e W14 ⟨rfl, hb⟩; have HB14 := am2_ (below_then HB13.out (below_size HB13.out) hb); have HL14 := am2_ (below_size hb); replace XS := am2_ (XS.out.below hb); replace XT := am2_ (XT.out.below hb); replace XB := am2_ (XB.out.below hb); replace XR := am2_ (XR.out.below hb); replace XQ := am2_ (XQ.out.below hb); replace bp := lw_ bp hb; clear qbp_0 qbp_1; obtain ⟨qbp_0, qbp_1⟩ := lc2_ bp; replace bs := lw_ bs hb; clear qbs_0 qbs_1; obtain ⟨qbs_0, qbs_1⟩ := lc2_ bs; replace bx := lw_ bx hb; clear qbx_0 qbx_1; obtain ⟨qbx_0, qbx_1⟩ := lc2_ bx; replace bg := lw_ bg hb; clear qbg_0 qbg_1; obtain ⟨qbg_0, qbg_1⟩ := lc2_ bg; clear F9  hb  XC)
    refine hK.out _ _ ?r10_4_s (fun hHeld2 => ?r10_4_n)
    case r10_4_s => (try dsimp only); exact ⟨qbp_0, qbp_1, qbs_0, qbs_1, qbx_0, qbx_1, qbg_0, qbg_1⟩
    clear hK K hHeld; have hHeld := hHeld2; clear hHeld2
    refine takeL (i := 4) (some 56) (v := ?r10_5_v) rfl rfl (by kernel_rfl) (by kernel_rfl) (by kernel_rfl) (fun _ _ _ h => h) (Or.inl ⟨by rfl, ?r10_5_y⟩) hHeld ?r10_5_n
    case r10_5_y => intro w_ hS_; (try dsimp only at hS_); go_simp; try (with_reducible rfl)
    simp only [Act.put, List.setIfInBounds_toArray, List.set_cons_zero, List.set_cons_succ]
    refine wpAnyH_done (by kernel_rfl) ?_ _
    go_upto_region 29 with (first
      | (go_at_call 14; refine (F10.out (fun k_ => W5.heap.size ≤ k_ ∧ k_ < W6.heap.size) _ _ HB14.out XB.out).mono ?_; rintro e W15 ⟨rfl, hS, hB2, hK⟩; have HB15 := am2_ hB2; have HL15 := am2_ hK.1; replace XS := am2_ (XS.out.kept hK (.inl HL5.out)); replace XT := am2_ (XT.out.kept hK (.inl HL5.out)); replace XR := am2_ (XR.out.kept hK (.inr HL7.out)); replace XQ := am2_ (XQ.out.kept hK (.inr HL7.out)); replace bp := am2_ ((hK.2 _ (blk_lt bp.out) (fun h => absurd h.1 (Nat.not_le.2 (Nat.lt_of_lt_of_le bpLT.out (Nat.le_trans (Nat.le_trans (Nat.le_trans HL2.out HL3.out) HL4.out) HL5.out))))).trans bp.out); clear qbp_0 qbp_1; obtain ⟨qbp_0, qbp_1⟩ := lc2_ bp; replace bs := am2_ ((hK.2 _ (blk_lt bs.out) (fun h => absurd h.1 (Nat.not_le.2 (Nat.lt_of_lt_of_le bsLT.out (Nat.le_refl _))))).trans bs.out); clear qbs_0 qbs_1; obtain ⟨qbs_0, qbs_1⟩ := lc2_ bs; replace bx := am2_ ((hK.2 _ (blk_lt bx.out) (fun h => absurd h.2 (Nat.not_lt.2 (Nat.le_refl _)))).trans bx.out); clear qbx_0 qbx_1; obtain ⟨qbx_0, qbx_1⟩ := lc2_ bx; replace bg := am2_ ((hK.2 _ (blk_lt bg.out) (fun h => absurd h.2 (Nat.not_lt.2 (Nat.le_trans HL7.out HL8.out)))).trans bg.out); clear qbg_0 qbg_1; obtain ⟨qbg_0, qbg_1⟩ := lc2_ bg; clear F10 hS hB2 hK XB)
      | (go_at_call 13; refine (F11.out _ _ _ _ _ HB15.out XR.out.reads.2.2 XR.out.reads.2.1 XS.out.reads.2.2 XS.out.reads.2.1).mono ?_; rintro e W16 ⟨rfl, hb⟩; have HB16 := am2_ (below_then HB15.out (below_size HB15.out) hb); have HL16 := am2_ (below_size hb); replace XS := am2_ (XS.out.below hb); replace XT := am2_ (XT.out.below hb); replace XR := am2_ (XR.out.below hb); replace XQ := am2_ (XQ.out.below hb); replace bp := lw_ bp hb; clear qbp_0 qbp_1; obtain ⟨qbp_0, qbp_1⟩ := lc2_ bp; replace bs := lw_ bs hb; clear qbs_0 qbs_1; obtain ⟨qbs_0, qbs_1⟩ := lc2_ bs; replace bx := lw_ bx hb; clear qbx_0 qbx_1; obtain ⟨qbx_0, qbx_1⟩ := lc2_ bx; replace bg := lw_ bg hb; clear qbg_0 qbg_1; obtain ⟨qbg_0, qbg_1⟩ := lc2_ bg; clear F11  hb  )
      | (go_at_call 30; refine (F12.out _ _ _ _ _ HB16.out XQ.out.reads.2.2 XQ.out.reads.2.1 XT.out.reads.2.2 XT.out.reads.2.1).mono ?_; rintro e W17 ⟨rfl, hb⟩; have HB17 := am2_ (below_then HB16.out (below_size HB16.out) hb); have HL17 := am2_ (below_size hb); replace XS := am2_ (XS.out.below hb); replace XT := am2_ (XT.out.below hb); replace XR := am2_ (XR.out.below hb); replace XQ := am2_ (XQ.out.below hb); replace bp := lw_ bp hb; clear qbp_0 qbp_1; obtain ⟨qbp_0, qbp_1⟩ := lc2_ bp; replace bs := lw_ bs hb; clear qbs_0 qbs_1; obtain ⟨qbs_0, qbs_1⟩ := lc2_ bs; replace bx := lw_ bx hb; clear qbx_0 qbx_1; obtain ⟨qbx_0, qbx_1⟩ := lc2_ bx; replace bg := lw_ bg hb; clear qbg_0 qbg_1; obtain ⟨qbg_0, qbg_1⟩ := lc2_ bg; clear F12  hb  )
      | (go_at_call 14; have HOWN := am2_ (S_own_ XQ.out); refine (F13.out (fun k_ => (W7.heap.size ≤ k_ ∧ k_ < W8.heap.size) ∧ some k_ ≠ (Value.slice A8_1 r3.length d8_1).ownBlock) _ _ HB17.out (Kd.S_apart' XR.out (Kd.S_typed XQ.out) (by decide))).mono ?_; rintro e W18 ⟨rfl, hS, hB2, hK⟩; have HB18 := am2_ hB2; have HL18 := am2_ hK.1; have hK2 : Kept W17 W18 (fun k_ => W7.heap.size ≤ k_ ∧ k_ < W8.heap.size) := kept_wide_ hK (fun _ h => h.1); replace XS := am2_ (XS.out.kept hK2 (.inl (Nat.le_trans (Nat.le_trans HL5.out HL6.out) HL7.out))); replace XT := am2_ (XT.out.kept hK2 (.inl (Nat.le_trans (Nat.le_trans HL5.out HL6.out) HL7.out))); replace bp := am2_ ((hK2.2 _ (blk_lt bp.out) (fun h => absurd h.1 (Nat.not_le.2 (Nat.lt_of_lt_of_le bpLT.out (Nat.le_trans (Nat.le_trans (Nat.le_trans (Nat.le_trans (Nat.le_trans HL2.out HL3.out) HL4.out) HL5.out) HL6.out) HL7.out))))).trans bp.out); clear qbp_0 qbp_1; obtain ⟨qbp_0, qbp_1⟩ := lc2_ bp; replace bs := am2_ ((hK2.2 _ (blk_lt bs.out) (fun h => absurd h.1 (Nat.not_le.2 (Nat.lt_of_lt_of_le bsLT.out (Nat.le_trans HL6.out HL7.out))))).trans bs.out); clear qbs_0 qbs_1; obtain ⟨qbs_0, qbs_1⟩ := lc2_ bs; replace bx := am2_ ((hK2.2 _ (blk_lt bx.out) (fun h => absurd h.1 (Nat.not_le.2 (Nat.lt_of_lt_of_le bxLT.out (Nat.le_refl _))))).trans bx.out); clear qbx_0 qbx_1; obtain ⟨qbx_0, qbx_1⟩ := lc2_ bx; replace bg := am2_ ((hK2.2 _ (blk_lt bg.out) (fun h => absurd h.2 (Nat.not_lt.2 (Nat.le_refl _)))).trans bg.out); clear qbg_0 qbg_1; obtain ⟨qbg_0, qbg_1⟩ := lc2_ bg; replace XQ := am2_ (Kd.S_kept (S_tight_ rfl XQ.out) hK (fun _ h1 h2 => h2.2 h1)); have YXR := am2_ hS; clear F13 hS hB2 hK hK2 XR)
      | (go_at_call 31; refine (F14.out _ _ _ HB18.out XQ.out).mono ?_; rintro e W19 ⟨rfl, hS, hB2, hK⟩; have HB19 := am2_ hB2; have HL19 := am2_ hK.1; have hK2 : Kept W18 W19 (fun k_ => W7.heap.size ≤ k_ ∧ k_ < W8.heap.size) := kept_wide_ hK (fun k h => HOWN.out k h); replace XS := am2_ (XS.out.kept hK2 (.inl (Nat.le_trans (Nat.le_trans HL5.out HL6.out) HL7.out))); replace XT := am2_ (XT.out.kept hK2 (.inl (Nat.le_trans (Nat.le_trans HL5.out HL6.out) HL7.out))); replace bp := am2_ ((hK2.2 _ (blk_lt bp.out) (fun h => absurd h.1 (Nat.not_le.2 (Nat.lt_of_lt_of_le bpLT.out (Nat.le_trans (Nat.le_trans (Nat.le_trans (Nat.le_trans (Nat.le_trans HL2.out HL3.out) HL4.out) HL5.out) HL6.out) HL7.out))))).trans bp.out); clear qbp_0 qbp_1; obtain ⟨qbp_0, qbp_1⟩ := lc2_ bp; replace bs := am2_ ((hK2.2 _ (blk_lt bs.out) (fun h => absurd h.1 (Nat.not_le.2 (Nat.lt_of_lt_of_le bsLT.out (Nat.le_trans HL6.out HL7.out))))).trans bs.out); clear qbs_0 qbs_1; obtain ⟨qbs_0, qbs_1⟩ := lc2_ bs; replace bx := am2_ ((hK2.2 _ (blk_lt bx.out) (fun h => absurd h.1 (Nat.not_le.2 (Nat.lt_of_lt_of_le bxLT.out (Nat.le_refl _))))).trans bx.out); clear qbx_0 qbx_1; obtain ⟨qbx_0, qbx_1⟩ := lc2_ bx; replace bg := am2_ ((hK2.2 _ (blk_lt bg.out) (fun h => absurd h.2 (Nat.not_lt.2 (Nat.le_refl _)))).trans bg.out); clear qbg_0 qbg_1; obtain ⟨qbg_0, qbg_1⟩ := lc2_ bg; replace YXR := am2_ (Kd.S_kept YXR.out hK (fun k h1 h2 => by have o_ := HOWN.out k h2; have l_ := (Nat.le_trans (Nat.le_trans (Nat.le_trans (Nat.le_trans (Nat.le_trans (Nat.le_trans (Nat.le_trans (Nat.le_trans HL9.out HL10.out) HL11.out) HL12.out) HL13.out) HL14.out) HL15.out) HL16.out) HL17.out); rcases h1 with h1 | h1; exact h1.2 h2; omega)); have YXQ := am2_ hS; clear F14 hS hB2 hK hK2 XQ HOWN)
      | (go_at_call 21; refine (heldAtP YXR.out fun h2_ h3_ => F15.out _ _ _ HB19.out h2_ h3_).mono ?_; rintro e W20 ⟨rfl, hb⟩; have HB20 := am2_ (below_then HB19.out (below_size HB19.out) hb); have HL20 := am2_ (below_size hb); replace XS := am2_ (XS.out.below hb); replace XT := am2_ (XT.out.below hb); replace YXR := am2_ (Kd.S_below YXR.out hb); replace YXQ := am2_ (Kd.S_below YXQ.out hb); replace bp := lw_ bp hb; clear qbp_0 qbp_1; obtain ⟨qbp_0, qbp_1⟩ := lc2_ bp; replace bs := lw_ bs hb; clear qbs_0 qbs_1; obtain ⟨qbs_0, qbs_1⟩ := lc2_ bs; replace bx := lw_ bx hb; clear qbx_0 qbx_1; obtain ⟨qbx_0, qbx_1⟩ := lc2_ bx; replace bg := lw_ bg hb; clear qbg_0 qbg_1; obtain ⟨qbg_0, qbg_1⟩ := lc2_ bg; clear F15  hb  )
      | (go_at_call 32; refine (heldAtM YXQ.out fun h2_ h3_ => F16.out _ _ _ HB20.out h2_ h3_).mono ?_; rintro e W21 ⟨rfl, hd⟩; have hb := drawn_below hd; have HB21 := am2_ (below_then HB20.out (below_size HB20.out) hb); have HL21 := am2_ (below_size hb); replace XS := am2_ (XS.out.below hb); replace XT := am2_ (XT.out.below hb); replace YXR := am2_ (Kd.S_below YXR.out hb); replace YXQ := am2_ (Kd.S_below YXQ.out hb); replace bp := lw_ bp hb; clear qbp_0 qbp_1; obtain ⟨qbp_0, qbp_1⟩ := lc2_ bp; replace bs := lw_ bs hb; clear qbs_0 qbs_1; obtain ⟨qbs_0, qbs_1⟩ := lc2_ bs; replace bx := lw_ bx hb; clear qbx_0 qbx_1; obtain ⟨qbx_0, qbx_1⟩ := lc2_ bx; replace bg := lw_ bg hb; clear qbg_0 qbg_1; obtain ⟨qbg_0, qbg_1⟩ := lc2_ bg; clear F16  hb hd )
      | (go_at_call 10; refine (F17.out  _ HB21.out ).mono ?_; rintro e W22 ⟨v22_0, rfl, hS0, hb⟩; have HB22 := am2_ (below_then HB21.out (below_size HB21.out) hb); have HL22 := am2_ (below_size hb); replace XS := am2_ (XS.out.below hb); replace XT := am2_ (XT.out.below hb); replace YXR := am2_ (Kd.S_below YXR.out hb); replace YXQ := am2_ (Kd.S_below YXQ.out hb); replace bp := lw_ bp hb; clear qbp_0 qbp_1; obtain ⟨qbp_0, qbp_1⟩ := lc2_ bp; replace bs := lw_ bs hb; clear qbs_0 qbs_1; obtain ⟨qbs_0, qbs_1⟩ := lc2_ bs; replace bx := lw_ bx hb; clear qbx_0 qbx_1; obtain ⟨qbx_0, qbx_1⟩ := lc2_ bx; replace bg := lw_ bg hb; clear qbg_0 qbg_1; obtain ⟨qbg_0, qbg_1⟩ := lc2_ bg; have XE := am2_ (Seg.new hS0 (below_size HB21.out)); obtain ⟨A22_0, d22_0, e22_0⟩ := Kd.S_slice hS0; subst e22_0; clear F17 hS0 hb  )
      | (go_at_call 29; refine (F18.out _ _ _ HB22.out XE.out.reads.2.2 XE.out.reads.2.1).mono ?_; rintro e W23 ⟨v23_0, v23_1, rfl, hS0, hS1, hb⟩; have HB23 := am2_ (below_then HB22.out (below_size HB22.out) hb); have HL23 := am2_ (below_size hb); replace XS := am2_ (XS.out.below hb); replace XT := am2_ (XT.out.below hb); replace YXR := am2_ (Kd.S_below YXR.out hb); replace YXQ := am2_ (Kd.S_below YXQ.out hb); replace bp := lw_ bp hb; clear qbp_0 qbp_1; obtain ⟨qbp_0, qbp_1⟩ := lc2_ bp; replace bs := lw_ bs hb; clear qbs_0 qbs_1; obtain ⟨qbs_0, qbs_1⟩ := lc2_ bs; replace bx := lw_ bx hb; clear qbx_0 qbx_1; obtain ⟨qbx_0, qbx_1⟩ := lc2_ bx; replace bg := lw_ bg hb; clear qbg_0 qbg_1; obtain ⟨qbg_0, qbg_1⟩ := lc2_ bg; have XG := am2_ (Seg.new hS0 (below_size HB22.out)); obtain ⟨A23_0, d23_0, e23_0⟩ := Kd.S_slice hS0; subst e23_0; have XH := am2_ (SegM.new hS1 (below_size HB22.out)); obtain ⟨A23_1, d23_1, e23_1⟩ := Kd.S_slice hS1; subst e23_1; clear F18 hS0 hS1 hb  XE))
    obtain ⟨W24, hW_⟩ : ∃ W_, W_ = W23.alloc (.cells #[.int .i64 r1, .slice A23_0 r2.length d23_0] 28) := ⟨_, rfl⟩
    have hb : Below W23.heap.size W23 W24 := by rw [hW_]; exact below_alloc (Below.refl _ _) _
    have hnew_ : W24.heap[W23.heap.size]? = some (.cells #[.int .i64 r1, .slice A23_0 r2.length d23_0] 28 (0, 0)) := by rw [hW_]; exact heap_alloc_new W23 _
    have bhLT := am2_ (show W23.heap.size < W24.heap.size by rw [hW_]; simp)
    have HB24 := am2_ (below_then HB23.out (below_size HB23.out) hb)
    have HL24 := am2_ (below_size hb)
    replace XS := am2_ (XS.out.below hb)
    replace XT := am2_ (XT.out.below hb)
    replace YXR := am2_ (Kd.S_below YXR.out hb)
    replace YXQ := am2_ (Kd.S_below YXQ.out hb)
    replace XG := am2_ (XG.out.below hb)
    replace XH := am2_ (XH.out.below hb)
    replace bp := lw_ bp hb
    clear qbp_0 qbp_1
    obtain ⟨qbp_0, qbp_1⟩ := lc2_ bp
    replace bs := lw_ bs hb
    clear qbs_0 qbs_1
    obtain ⟨qbs_0, qbs_1⟩ := lc2_ bs
    replace bx := lw_ bx hb
    clear qbx_0 qbx_1
    obtain ⟨qbx_0, qbx_1⟩ := lc2_ bx
    replace bg := lw_ bg hb
    clear qbg_0 qbg_1
    obtain ⟨qbg_0, qbg_1⟩ := lc2_ bg
    have bh := am2_ hnew_
    obtain ⟨qbh_0, qbh_1⟩ := lc2_ bh
    change Code.wp Try.prog _ _ _ (W23.alloc (.cells #[.int .i64 r1, .slice A23_0 r2.length d23_0] 28))
    rw [← hW_]
    clear hW_ hb hnew_
    go_wp2_with (first
      | (go_at_call 13; refine (F19.out _ _ _ _ _ HB24.out XG.out.reads.2.2 XG.out.reads.2.1 XS.out.reads.2.2 XS.out.reads.2.1).mono ?_; rintro e W25 ⟨rfl, hb⟩; have HB25 := am2_ (below_then HB24.out (below_size HB24.out) hb); have HL25 := am2_ (below_size hb); replace XS := am2_ (XS.out.below hb); replace XT := am2_ (XT.out.below hb); replace YXR := am2_ (Kd.S_below YXR.out hb); replace YXQ := am2_ (Kd.S_below YXQ.out hb); replace XG := am2_ (XG.out.below hb); replace XH := am2_ (XH.out.below hb); replace bp := lw_ bp hb; clear qbp_0 qbp_1; obtain ⟨qbp_0, qbp_1⟩ := lc2_ bp; replace bs := lw_ bs hb; clear qbs_0 qbs_1; obtain ⟨qbs_0, qbs_1⟩ := lc2_ bs; replace bx := lw_ bx hb; clear qbx_0 qbx_1; obtain ⟨qbx_0, qbx_1⟩ := lc2_ bx; replace bg := lw_ bg hb; clear qbg_0 qbg_1; obtain ⟨qbg_0, qbg_1⟩ := lc2_ bg; replace bh := lw_ bh hb; clear qbh_0 qbh_1; obtain ⟨qbh_0, qbh_1⟩ := lc2_ bh; clear F19  hb  )
      | (go_at_call 30; refine (F20.out _ _ _ _ _ HB25.out XH.out.reads.2.2 XH.out.reads.2.1 XT.out.reads.2.2 XT.out.reads.2.1).mono ?_; rintro e W26 ⟨rfl, hb⟩; have HB26 := am2_ (below_then HB25.out (below_size HB25.out) hb); have HL26 := am2_ (below_size hb); replace XS := am2_ (XS.out.below hb); replace XT := am2_ (XT.out.below hb); replace YXR := am2_ (Kd.S_below YXR.out hb); replace YXQ := am2_ (Kd.S_below YXQ.out hb); replace XG := am2_ (XG.out.below hb); replace XH := am2_ (XH.out.below hb); replace bp := lw_ bp hb; clear qbp_0 qbp_1; obtain ⟨qbp_0, qbp_1⟩ := lc2_ bp; replace bs := lw_ bs hb; clear qbs_0 qbs_1; obtain ⟨qbs_0, qbs_1⟩ := lc2_ bs; replace bx := lw_ bx hb; clear qbx_0 qbx_1; obtain ⟨qbx_0, qbx_1⟩ := lc2_ bx; replace bg := lw_ bg hb; clear qbg_0 qbg_1; obtain ⟨qbg_0, qbg_1⟩ := lc2_ bg; replace bh := lw_ bh hb; clear qbh_0 qbh_1; obtain ⟨qbh_0, qbh_1⟩ := lc2_ bh; clear F20  hb  )
      | (go_at_call 21; refine (heldAtP YXR.out fun h2_ h3_ => F21.out _ _ _ HB26.out h2_ h3_).mono ?_; rintro e W27 ⟨rfl, hb⟩; have HB27 := am2_ (below_then HB26.out (below_size HB26.out) hb); have HL27 := am2_ (below_size hb); replace XS := am2_ (XS.out.below hb); replace XT := am2_ (XT.out.below hb); replace YXQ := am2_ (Kd.S_below YXQ.out hb); replace XG := am2_ (XG.out.below hb); replace XH := am2_ (XH.out.below hb); replace bp := lw_ bp hb; clear qbp_0 qbp_1; obtain ⟨qbp_0, qbp_1⟩ := lc2_ bp; replace bs := lw_ bs hb; clear qbs_0 qbs_1; obtain ⟨qbs_0, qbs_1⟩ := lc2_ bs; replace bx := lw_ bx hb; clear qbx_0 qbx_1; obtain ⟨qbx_0, qbx_1⟩ := lc2_ bx; replace bg := lw_ bg hb; clear qbg_0 qbg_1; obtain ⟨qbg_0, qbg_1⟩ := lc2_ bg; replace bh := lw_ bh hb; clear qbh_0 qbh_1; obtain ⟨qbh_0, qbh_1⟩ := lc2_ bh; clear F21  hb  YXR)
      | (go_at_call 32; refine (heldAtM YXQ.out fun h2_ h3_ => F22.out _ _ _ HB27.out h2_ h3_).mono ?_; rintro e W28 ⟨rfl, hd⟩; have hb := drawn_below hd; have HB28 := am2_ (below_then HB27.out (below_size HB27.out) hb); have HL28 := am2_ (below_size hb); replace XS := am2_ (XS.out.below hb); replace XT := am2_ (XT.out.below hb); replace XG := am2_ (XG.out.below hb); replace XH := am2_ (XH.out.below hb); replace bp := lw_ bp hb; clear qbp_0 qbp_1; obtain ⟨qbp_0, qbp_1⟩ := lc2_ bp; replace bs := lw_ bs hb; clear qbs_0 qbs_1; obtain ⟨qbs_0, qbs_1⟩ := lc2_ bs; replace bx := lw_ bx hb; clear qbx_0 qbx_1; obtain ⟨qbx_0, qbx_1⟩ := lc2_ bx; replace bg := lw_ bg hb; clear qbg_0 qbg_1; obtain ⟨qbg_0, qbg_1⟩ := lc2_ bg; replace bh := lw_ bh hb; clear qbh_0 qbh_1; obtain ⟨qbh_0, qbh_1⟩ := lc2_ bh; clear F22  hb hd YXQ))
    go_ret
    exact ⟨rfl, HB28.out⟩

end Go.Proofs.Ytbcdngjajjgmkaa.PFnExactSimplifyPresentation
