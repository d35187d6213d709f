/- Written by this session's program out of the kit's print and this session's contracts. -/
import Derived.Test.YtbcdngjajjgmkaaVFnExactStabilizerPresentationPx0
import Derived.Test.YtbcdngjajjgmkaaVFnExactStabilizerPresentationPx4
import Derived.Test.YtbcdngjajjgmkaaVFnExactStabilizerPresentationPx5
import Derived.Test.YtbcdngjajjgmkaaVFnExactStabilizerPresentationPx6
import Derived.Test.YtbcdngjajjgmkaaVFnExactStabilizerPresentationPx7
import Derived.Test.YtbcdngjajjgmkaaVFnExactStabilizerPresentationPx8
namespace Go.Proofs.Ytbcdngjajjgmkaa.PFnExactStabilizerPresentation
open Go.RowKit Go.Proofs.YtbcdngjajjgmkaaW.PrintWords Go.Proofs.YtbcdngjajjgmkaaW.PrintLast Go.Proofs.YtbcdngjajjgmkaaW.PrintMore
attribute [local go_sem] max2_int min2_int max_two min_two max_three min_three max_four min_four   -- for this text's walks alone
set_option linter.unusedVariables false
set_option linter.unusedSimpArgs false

/-! ### spec_StabilizerPresentation: function 18 -/
mutual
def spec_StabilizerPresentation.l0 : Nat → Int → List (List Int) → List (List Int) → Int → Int → List (List Int) → Int → List (List Int) → Option (Int × (List (List Int)) × Int)
 | 0, _, _, _, _, _, _, _, _ => none
 | k + 1, x1, x2, x8, x11, x258000, x258001, x268000, x268001 => if x11 < x1 then (spec_StabilizerPresentation.l1 k x1 x2 x8 x11 0 x258000 x258001 x268000 x268001) else ((spec_IsPresentation.f k x268000 x268001).bind fun t268 => (if t268 = true then (some (x268000, x268001, 0)) else (some (0, ([] : List (List Int)), 3))))
def spec_StabilizerPresentation.l1 : Nat → Int → List (List Int) → List (List Int) → Int → Int → Int → List (List Int) → Int → List (List Int) → Option (Int × (List (List Int)) × Int)
 | 0, _, _, _, _, _, _, _, _, _ => none
 | k + 1, x1, x2, x8, x11, x12, x258000, x258001, x268000, x268001 => if x12 < (x258001.length : Int) then (if 0 ≤ x12 then ((spec_l05Rewrite.f k x2 x8 (rd_L1 x258001 x12) x11).bind fun t270 => (if x268001.length < 5864062014805 then (spec_StabilizerPresentation.l1 k x1 x2 x8 x11 (wrap64 (x12 + 1)) x258000 x258001 x268000 (x268001 ++ [t270])) else (none))) else (none)) else (spec_StabilizerPresentation.l0 k x1 x2 x8 (wrap64 (x11 + 1)) x258000 x258001 x268000 x268001)
end
def spec_StabilizerPresentation.f (k : Nat) (a0_0 : Int) (l0_1 : List (List Int)) (a1 : Int) (l2 : List (List Int)) : Option (Int × (List (List Int)) × Int) := (spec_IsRepresentation.f k a0_0 l0_1 a1 l2).bind fun t259 => (if t259 = true then ((spec_l05Orbits.f k a1 l2).bind fun t260 => (if (t260.length : Int) = 1 then ((spec_l05Names.f k a1 l2).bind fun bt263 => (spec_StabilizerPresentation.l0 k a1 l2 bt263.1 0 a0_0 l0_1 bt263.2 ([] : List (List Int)))) else (some (0, ([] : List (List Int)), 5)))) else (some (0, ([] : List (List Int)), 1)))
theorem spec_StabilizerPresentation.mono_l : ∀ k, (∀ y0 y1 y2 y3 y4 y5 y6 y7, LeO (spec_StabilizerPresentation.l0 k y0 y1 y2 y3 y4 y5 y6 y7) (spec_StabilizerPresentation.l0 (k + 1) y0 y1 y2 y3 y4 y5 y6 y7)) ∧ (∀ y0 y1 y2 y3 y4 y5 y6 y7 y8, LeO (spec_StabilizerPresentation.l1 k y0 y1 y2 y3 y4 y5 y6 y7 y8) (spec_StabilizerPresentation.l1 (k + 1) y0 y1 y2 y3 y4 y5 y6 y7 y8))
 | 0 => ⟨fun _ _ _ _ _ _ _ _ r h => by simp [spec_StabilizerPresentation.l0] at h, fun _ _ _ _ _ _ _ _ _ r h => by simp [spec_StabilizerPresentation.l1] at h⟩
 | k + 1 => by
  obtain ⟨ih0, ih1⟩ := spec_StabilizerPresentation.mono_l k
  refine ⟨?_, ?_⟩
  ·intro y0 y1 y2 y3 y4 y5 y6 y7
   unfold spec_StabilizerPresentation.l0
   repeat' first
   | (with_reducible exact ih0 _ _ _ _ _ _ _ _)
   | (with_reducible exact ih1 _ _ _ _ _ _ _ _ _)
   | (with_reducible exact spec_IsPresentation.mono _ _ _)
   | (with_reducible exact spec_IsRepresentation.mono _ _ _ _ _)
   | (with_reducible exact spec_l05Names.mono _ _ _)
   | (with_reducible exact spec_l05Orbits.mono _ _ _)
   | (with_reducible exact spec_l05Rewrite.mono _ _ _ _ _)
   | (with_reducible exact LeO.refl _)
   | (with_reducible exact LeO.none _)
   | (with_reducible refine LeO.ite ?_ ?_)
   | (with_reducible refine LeO.bind ?_ (fun _ => ?_))
   | exact ih0 _ _ _ _ _ _ _ _
   | exact ih1 _ _ _ _ _ _ _ _ _
   | exact spec_IsPresentation.mono _ _ _
   | exact spec_IsRepresentation.mono _ _ _ _ _
   | exact spec_l05Names.mono _ _ _
   | exact spec_l05Orbits.mono _ _ _
   | exact spec_l05Rewrite.mono _ _ _ _ _
   | exact LeO.none _
   | refine LeO.ite ?_ ?_
   | refine LeO.bind ?_ (fun _ => ?_)
  ·intro y0 y1 y2 y3 y4 y5 y6 y7 y8
   unfold spec_StabilizerPresentation.l1
   repeat' first
   | (with_reducible exact ih0 _ _ _ _ _ _ _ _)
   | (with_reducible exact ih1 _ _ _ _ _ _ _ _ _)
   | (with_reducible exact spec_IsPresentation.mono _ _ _)
   | (with_reducible exact spec_IsRepresentation.mono _ _ _ _ _)
   | (with_reducible exact spec_l05Names.mono _ _ _)
   | (with_reducible exact spec_l05Orbits.mono _ _ _)
   | (with_reducible exact spec_l05Rewrite.mono _ _ _ _ _)
   | (with_reducible exact LeO.refl _)
   | (with_reducible exact LeO.none _)
   | (with_reducible refine LeO.ite ?_ ?_)
   | (with_reducible refine LeO.bind ?_ (fun _ => ?_))
   | exact ih0 _ _ _ _ _ _ _ _
   | exact ih1 _ _ _ _ _ _ _ _ _
   | exact spec_IsPresentation.mono _ _ _
   | exact spec_IsRepresentation.mono _ _ _ _ _
   | exact spec_l05Names.mono _ _ _
   | exact spec_l05Orbits.mono _ _ _
   | exact spec_l05Rewrite.mono _ _ _ _ _
   | exact LeO.none _
   | refine LeO.ite ?_ ?_
   | refine LeO.bind ?_ (fun _ => ?_)
theorem spec_StabilizerPresentation.mono : ∀ a0 a1 a2 a3 k, LeO (spec_StabilizerPresentation.f k a0 a1 a2 a3) (spec_StabilizerPresentation.f (k + 1) a0 a1 a2 a3) := by
 intro a0 a1 a2 a3 k
 obtain ⟨ih0, ih1⟩ := spec_StabilizerPresentation.mono_l k
 unfold spec_StabilizerPresentation.f
 repeat' first
   | (with_reducible exact ih0 _ _ _ _ _ _ _ _)
   | (with_reducible exact ih1 _ _ _ _ _ _ _ _ _)
   | (with_reducible exact spec_IsPresentation.mono _ _ _)
   | (with_reducible exact spec_IsRepresentation.mono _ _ _ _ _)
   | (with_reducible exact spec_l05Names.mono _ _ _)
   | (with_reducible exact spec_l05Orbits.mono _ _ _)
   | (with_reducible exact spec_l05Rewrite.mono _ _ _ _ _)
   | (with_reducible exact LeO.refl _)
   | (with_reducible exact LeO.none _)
   | (with_reducible refine LeO.ite ?_ ?_)
   | (with_reducible refine LeO.bind ?_ (fun _ => ?_))
   | exact ih0 _ _ _ _ _ _ _ _
   | exact ih1 _ _ _ _ _ _ _ _ _
   | exact spec_IsPresentation.mono _ _ _
   | exact spec_IsRepresentation.mono _ _ _ _ _
   | exact spec_l05Names.mono _ _ _
   | exact spec_l05Orbits.mono _ _ _
   | exact spec_l05Rewrite.mono _ _ _ _ _
   | exact LeO.none _
   | refine LeO.ite ?_ ?_
   | refine LeO.bind ?_ (fun _ => ?_)
def spec_StabilizerPresentation.T13 : Bool × List (List Nat × List Nat) := (true, [([], []), ([0], [0]), ([], []), ([], []), ([], []), ([4], [4]), ([], []), ([5, 6], [5, 6]), ([7], [7]), ([], []), ([2, 3, 8, 9], [2, 3, 8, 9]), ([10], [10]), ([1, 11, 10], [1, 11]), ([0, 1, 2, 3, 4, 5, 6, 7, 8, 9, 10, 11, 12], []), ([13, 12, 12, 0, 1, 2, 3, 4, 5, 6, 7, 8, 9, 10, 11, 12], [12, 13])])
def spec_StabilizerPresentation.B13 : List Nat := [0, 1, 0, 0, 0, 16, 0, 112, 240, 0, 1020, 2044, 4095, 8191, 16383]
theorem spec_StabilizerPresentation.tab13 : rtab .any (opsOf Try.f18 13) = spec_StabilizerPresentation.T13 := by kernel_rfl
theorem spec_StabilizerPresentation.bits13 : waitsOk spec_StabilizerPresentation.T13.2 spec_StabilizerPresentation.B13 = true := by kernel_rfl
set_option maxHeartbeats 8000000 in
set_option maxRecDepth 100000 in
theorem spec_StabilizerPresentation.calls (k : Nat) (a0_0 : Int) (A0_1 : Option Addr) (c0_1 : Nat) (l0_1 : List (List Int)) (a1 : Int) (A2 : Option Addr) (c2 : Nat) (l2 : List (List Int)) (r1 : Int) (r2 : List (List Int)) (r3 : Int) (w : World) (hr0_1 : Kd.C (Kd.slice 2 (Kd.int .i64)) w A0_1 l0_1.length l0_1) (hc0_1 : l0_1.length ≤ c0_1) (hr2 : Kd.C (Kd.slice 2 (Kd.int .i64)) w A2 l2.length l2) (hc2 : l2.length ≤ c2) (h : spec_StabilizerPresentation.f k a0_0 l0_1 a1 l2 = some (r1, r2, r3)) :
  Calls Try.prog 18 #[.agg #[.int .i64 a0_0, .slice A0_1 l0_1.length c0_1], .int .i64 a1, .slice A2 l2.length c2] w fun e w' => ∃ v1_ : Value, e = .returned (.tuple #[.agg #[.int .i64 r1, v1_], .int .i64 r3]) ∧ Kd.S (Kd.slice 2 (Kd.int .i64)) 39 w' w.heap.size (fun _ => True) v1_ r2 ∧ Below w.heap.size w w' := by
 have hu28 := Try.underlying28
 have HR0_1 := am_ hr0_1
 have HC0_1 := am_ hc0_1
 clear hr0_1 hc0_1
 have HR2 := am_ hr2
 have HC2 := am_ hc2
 clear hr2 hc2
 have HB := am_ (Below.refl w.heap.size w)
 have H : ((spec_IsRepresentation.f k a0_0 l0_1 a1 l2).bind fun t259 => (if t259 = true then ((spec_l05Orbits.f k a1 l2).bind fun t260 => (if (t260.length : Int) = 1 then ((spec_l05Names.f k a1 l2).bind fun bt263 => (spec_StabilizerPresentation.l0 k a1 l2 bt263.1 0 a0_0 l0_1 bt263.2 ([] : List (List Int)))) else (some (0, ([] : List (List Int)), 5)))) else (some (0, ([] : List (List Int)), 1)))) = some (r1, r2, r3) := h
 clear h
 replace H := Option.bind_eq_some_iff.mp H
 obtain ⟨t259, A40, H⟩ := H
 replace H : (if t259 = true then ((spec_l05Orbits.f k a1 l2).bind fun t260 => (if (t260.length : Int) = 1 then ((spec_l05Names.f k a1 l2).bind fun bt263 => (spec_StabilizerPresentation.l0 k a1 l2 bt263.1 0 a0_0 l0_1 bt263.2 ([] : List (List Int)))) else (some (0, ([] : List (List Int)), 5)))) else (some (0, ([] : List (List Int)), 1))) = some (r1, r2, r3) := H
 have A4 := am_ A40
 clear A40
 by_cases c5 : t259 = true
 ·subst c5
  have H1 : ((spec_l05Orbits.f k a1 l2).bind fun t260 => (if (t260.length : Int) = 1 then ((spec_l05Names.f k a1 l2).bind fun bt263 => (spec_StabilizerPresentation.l0 k a1 l2 bt263.1 0 a0_0 l0_1 bt263.2 ([] : List (List Int)))) else (some (0, ([] : List (List Int)), 5)))) = some (r1, r2, r3) := by rw [if_pos rfl] at H; exact H
  clear H
  have H := H1
  clear H1
  replace H := Option.bind_eq_some_iff.mp H
  obtain ⟨t260, A60, H⟩ := H
  replace H : (if (t260.length : Int) = 1 then ((spec_l05Names.f k a1 l2).bind fun bt263 => (spec_StabilizerPresentation.l0 k a1 l2 bt263.1 0 a0_0 l0_1 bt263.2 ([] : List (List Int)))) else (some (0, ([] : List (List Int)), 5))) = some (r1, r2, r3) := H
  have A6 := am_ A60
  clear A60
  by_cases c7 : (t260.length : Int) = 1
  ·rw [if_pos c7] at H
   have c7b0 : ((t260.length : Int) == 1) = true := beq_iff_eq.mpr c7
   have c7b1 : ((t260.length : Int) != 1) = false := bne_eq_false_iff_eq.mpr c7
   clear c7
   replace H := Option.bind_eq_some_iff.mp H
   obtain ⟨⟨t263, t264⟩, A80, H⟩ := H
   replace H : (spec_StabilizerPresentation.l0 k a1 l2 t263 0 a0_0 l0_1 t264 ([] : List (List Int))) = some (r1, r2, r3) := H
   have A8 := am_ A80
   clear A80
   have H' := am_ H
   clear H
   go_enter Try.func18, Try.ntmps18
   go_wp2_with (first | ((with_reducible refine gate_dst (N := 3) rfl ?_); refine box_event ?hg (N := 3) ?hd (cs := #[.int .i64 a0_0, .slice A0_1 l0_1.length c0_1]) (t := 28) ?hr ?_; (case hd => rfl); (case hg => rfl); (case hr => first | (go_simp; done) | (go_simp; rfl)); intro gb257 hg w9 hbox hb; have n0_ := am_ (below_step (bb_ HB.out) hb); have n1_ := am_ (hbox); have n2_ := am_ ((by rw [hg]; exact (below_size (bb_ HB.out)) : w.heap.size ≤ gb257)); have n3_ := am_ ((by rw [hg]; exact (below_size (bb_ HB.out)) : w.heap.size ≤ gb257)); clear HB; revert n0_ n1_ n2_ n3_; intro HB BK257 GW257 GE257; clear hb hbox hg) | ((with_reducible refine gate_dst (N := 6) rfl ?_); refine box_event ?hg (N := 6) ?hd (cs := #[.int .i64 0, .slice none 0 0]) (t := 28) ?hr ?_; (case hd => rfl); (case hg => rfl); (case hr => first | (go_simp; done) | (go_simp; rfl)); intro gb258 hg w10 hbox hb; have n0_ := am_ (bw_ BK257 hb); have n1_ := am_ (below_step (bb_ HB.out) hb); have n2_ := am_ (hbox); have n3_ := am_ ((by rw [hg]; exact (below_size (bb_ HB.out)) : w.heap.size ≤ gb258)); have n4_ := am_ ((by rw [hg]; exact (below_size (bb_ HB.out)) : w.heap.size ≤ gb258)); have n5_ := am_ (nl_ BK257 hg); have n6_ := am_ (ng_ BK257 hg); clear BK257 HB; revert n0_ n1_ n2_ n3_ n4_ n5_ n6_; intro BK257 HB BK258 GW258 GE258 NB257_258 NB258_257; clear hb hbox hg; have hnb11 := NB257_258.out; have hnc11 := NB258_257.out; obtain ⟨hcz12_0, hcz12_1, hfz12_0, hfz12_1⟩ := bx2_ BK257) | ((with_reducible refine gate_callee (f := 49) rfl ?_); refine goesL_ (some 16) rfl rfl Try.func49 (by kernel_rfl) rfl #[.agg #[.int .i64 a0_0, .slice A0_1 l0_1.length c0_1], .int .i64 a1, .slice A2 l2.length c2] rfl lm_ ?_; (with_reducible refine (spec_IsRepresentation.calls k a0_0 _ _ l0_1 a1 _ _ l2 true _ ?side1 ?side2 ?side3 ?side4 A4.out).mono ?_); (case side1 => repeat (first | exact (Kd.C_below HR0_1.out HB.out) | (with_reducible refine Kd.C_alloc ?_ _) | (with_reducible refine Kd.C_drewN ?_ _) | (with_reducible refine Kd.C_drew ?_))); (case side2 => exact HC0_1.out); (case side3 => repeat (first | exact (Kd.C_below HR2.out HB.out) | (with_reducible refine Kd.C_alloc ?_ _) | (with_reducible refine Kd.C_drewN ?_ _) | (with_reducible refine Kd.C_drew ?_))); (case side4 => exact HC2.out); rintro e w13 ⟨rfl, hb⟩; refine ⟨_, rfl, ?_⟩; have n0_ := am_ (bw_ BK257 hb); have n1_ := am_ (bw_ BK258 hb); have n2_ := am_ (below_step (bb_ HB.out) hb); clear BK257 BK258 HB; revert n0_ n1_ n2_; intro BK257 BK258 HB; (try clear hb); (try clear hb2); (try clear hk); (try clear hi)) | ((with_reducible refine gate_callee (f := 50) rfl ?_); refine goesL_ (some 21) rfl rfl Try.func50 (by kernel_rfl) rfl #[.int .i64 a1, .slice A2 l2.length c2] rfl lm_ ?_; (with_reducible refine (spec_l05Orbits.calls k a1 _ _ l2 t260 _ ?side1 ?side2 A6.out).mono ?_); (case side1 => repeat (first | exact (Kd.C_below HR2.out HB.out) | (with_reducible refine Kd.C_alloc ?_ _) | (with_reducible refine Kd.C_drewN ?_ _) | (with_reducible refine Kd.C_drew ?_))); (case side2 => exact HC2.out); rintro e w14 ⟨v261, rfl, ho0, hb⟩; refine ⟨_, rfl, ?_⟩; have n0_ := am_ (Kd.S_lower ho0 (below_size (bb_ HB.out))); have n1_ := am_ (bw_ BK257 hb); have n2_ := am_ (bw_ BK258 hb); have n3_ := am_ (below_step (bb_ HB.out) hb); clear BK257 BK258 HB; revert n0_ n1_ n2_ n3_; intro HO262 BK257 BK258 HB; (try clear hb); (try clear hb2); (try clear hk); (try clear hi); (try clear ho0); obtain ⟨Ao15, co15, eo15⟩ := Kd.S_slice HO262.out; subst eo15) | ((with_reducible refine gate_callee (f := 51) rfl ?_); refine goesL_ (some 28) rfl rfl Try.func51 (by kernel_rfl) rfl #[.int .i64 a1, .slice A2 l2.length c2] rfl lm_ ?_; (with_reducible refine (spec_l05Names.calls k a1 _ _ l2 t263 t264 _ ?side1 ?side2 A8.out).mono ?_); (case side1 => repeat (first | exact (Kd.C_below HR2.out HB.out) | (with_reducible refine Kd.C_alloc ?_ _) | (with_reducible refine Kd.C_drewN ?_ _) | (with_reducible refine Kd.C_drew ?_))); (case side2 => exact HC2.out); rintro e w16 ⟨v265, rfl, ho0, hb⟩; refine ⟨_, rfl, ?_⟩; have n0_ := am_ (Kd.S_elder' (by (with_reducible repeat (first | apply Kd.S_alloc | apply Kd.S_drewN | apply Kd.S_drew)); exact HO262.out) (Kd.S_base ho0) hb); have n1_ := am_ (Kd.S_lower (Kd.S_new' ho0 (Kd.S_lt (by (with_reducible repeat (first | apply Kd.S_alloc | apply Kd.S_drewN | apply Kd.S_drew)); exact HO262.out))) (below_size (bb_ HB.out))); have n2_ := am_ (bw_ BK257 hb); have n3_ := am_ (bw_ BK258 hb); have n4_ := am_ (below_step (bb_ HB.out) hb); clear HO262 BK257 BK258 HB; revert n0_ n1_ n2_ n3_ n4_; intro HO262 HO266 BK257 BK258 HB; (try clear hb); (try clear hb2); (try clear hk); (try clear hi); (try clear ho0)) | ((with_reducible refine gate_dst (N := 10) rfl ?_); refine box_event ?hg (N := 10) ?hd (cs := #[.int .i64 0, .slice none 0 0]) (t := 28) ?hr ?_; (case hd => rfl); (case hg => rfl); (case hr => first | (go_simp; done) | (go_simp; rfl)); intro gb267 hg w17 hbox hb; have n0_ := am_ (Kd.S_below (by (with_reducible repeat (first | apply Kd.S_alloc | apply Kd.S_drewN | apply Kd.S_drew)); exact HO262.out) hb); have n1_ := am_ (Kd.S_below (by (with_reducible repeat (first | apply Kd.S_alloc | apply Kd.S_drewN | apply Kd.S_drew)); exact HO266.out) hb); have n2_ := am_ (bw_ BK257 hb); have n3_ := am_ (bw_ BK258 hb); have n4_ := am_ (below_step (bb_ HB.out) hb); have n5_ := am_ (hbox); have n6_ := am_ ((by rw [hg]; exact (below_size (bb_ HB.out)) : w.heap.size ≤ gb267)); have n7_ := am_ ((by rw [hg]; exact (below_size (bb_ HB.out)) : w.heap.size ≤ gb267)); have n8_ := am_ (nl_ BK257 hg); have n9_ := am_ (ng_ BK257 hg); have n10_ := am_ (nl_ BK258 hg); have n11_ := am_ (ng_ BK258 hg); clear HO262 HO266 BK257 BK258 HB; revert n0_ n1_ n2_ n3_ n4_ n5_ n6_ n7_ n8_ n9_ n10_ n11_; intro HO262 HO266 BK257 BK258 HB BK267 GW267 GE267 NB257_267 NB267_257 NB258_267 NB267_258; clear hb hbox hg; have hnb18 := NB267_257.out; have hnc18 := NB257_267.out; have hnb19 := NB267_258.out; have hnc19 := NB258_267.out; obtain ⟨hcz20_0, hcz20_1, hfz20_0, hfz20_1⟩ := bx2_ BK267))
   go_loopg [11] k (fun kq v11 w' => ∃ (x11_1 : Int) (x268001_1 : List (List Int)) (u268001 : Value), v11 = .int .i64 x11_1 ∧ Aside0 (spec_StabilizerPresentation.l0 kq a1 l2 t263 x11_1 a0_0 l0_1 t264 x268001_1 = some (r1, r2, r3)) ∧ Aside0 (kq ≤ k) ∧ Aside0 (Kd.S (Kd.slice 2 (Kd.int .i64)) 39 w' w.heap.size (fun k_ => some k_ ≠ (u268001 : Value).ownBlock) v265 t263) ∧ Aside0 (Kd.S (Kd.slice 2 (Kd.int .i64)) 39 w' w.heap.size (fun k_ => some k_ ≠ (v265 : Value).ownBlock) u268001 x268001_1) ∧ Aside0 (w'.heap[gb257]? = some (.cells #[.int .i64 a0_0, (.slice A0_1 l0_1.length c0_1)] 28 (0, 0))) ∧ Aside0 (w'.heap[gb258]? = some (.cells #[.int .i64 0, (.slice none 0 0)] 28 (0, 0))) ∧ Aside0 (w'.heap[gb267]? = some (.cells #[.int .i64 t264, u268001] 28 (0, 0))) ∧ Aside0 (Below w.heap.size w w'))
   case atStart => exact ⟨(0), (([] : List (List Int))), (.slice none 0 0), (by first | rfl | (simp; done) | (simp [*]; done)), H', ⟨Nat.le_refl _⟩, ⟨by (with_reducible repeat (first | apply Kd.S_alloc | apply Kd.S_drewN | apply Kd.S_drew)); exact Kd.S_mono (Kd.S_far (p := ⟨gb267, 1, none⟩) (Kd.S_far (p := ⟨gb267, 0, none⟩) (Kd.S_types HO266.out BK267.out (by decide)) (fun _ hk => hk.2) (.int .i64 t264)) (fun _ hk => hk.2) (.slice none 0 0)) (fun _ hk => (by simp [Value.ownBlock]))⟩, ⟨by first | exact Kd.S_nil _ _ _ _ _ | exact Kd.N_nil _ _ _ _ _ | exact Kd.V_nil _ _ _ _ _ | exact Kd.Q_nil _ _ _ _ _ | exact Kd.R_nil _ _ _ _ _⟩, ⟨bk_ BK257.out⟩, ⟨bk_ BK258.out⟩, ⟨by (with_reducible repeat (first | refine blk_drewN ?_ _ | refine blk_drew ?_ | refine blk_alloc ?_ _)); refine blk_put (cs := #[.int .i64 t264, .slice none 0 0]) ?_ 1 _ rfl; (with_reducible repeat (first | refine blk_drewN ?_ _ | refine blk_drew ?_ | refine blk_alloc ?_ _)); refine blk_put (cs := #[.int .i64 0, .slice none 0 0]) ?_ 0 _ rfl; (with_reducible repeat (first | refine blk_drewN ?_ _ | refine blk_drew ?_ | refine blk_alloc ?_ _)); exact BK267.out⟩, ⟨bb_ HB.out⟩⟩
   case round =>
    clear H'
    try clear c1
    try clear c2
    try clear p2
    try clear c4
    try clear c5
    try clear c7
    try clear c7b0
    try clear c7b1
    try clear c11
    try clear c18
    try clear c19
    try clear hcz12_0
    try clear hcz12_1
    try clear hcz20_0
    try clear hcz20_1
    try clear hfz12_0
    try clear hfz12_1
    try clear hfz20_0
    try clear hfz20_1
    obtain ⟨x11_1, x268001_1, u268001, rfl, HA, HK1, HO_8, HO_268001, BK257, BK258, BK267, HB⟩ := hrel
    cases gk with
    | zero => exact absurd HA.out (by simp [spec_StabilizerPresentation.l0])
    | succ k1 =>
     have H := HA.out
     clear HA
     simp only [spec_StabilizerPresentation.l0] at H
     by_cases c21 : x11_1 < a1
     ·rw [if_pos c21] at H
      have c21b0 : decide (x11_1 < a1) = true := decide_eq_true c21
      clear c21
      have H' := am_ H
      clear H
      go_wp2
      go_loopg [12] k1 (fun kq v12 w' => ∃ (x12_2 : Int) (x268001_2 : List (List Int)) (u268001 : Value), v12 = .int .i64 x12_2 ∧ Aside0 (spec_StabilizerPresentation.l1 kq a1 l2 t263 x11_1 x12_2 a0_0 l0_1 t264 x268001_2 = some (r1, r2, r3)) ∧ Aside0 (kq ≤ k1) ∧ Aside0 (Kd.S (Kd.slice 2 (Kd.int .i64)) 39 w' w.heap.size (fun k_ => some k_ ≠ (u268001 : Value).ownBlock) v265 t263) ∧ Aside0 (Kd.S (Kd.slice 2 (Kd.int .i64)) 39 w' w.heap.size (fun k_ => some k_ ≠ (v265 : Value).ownBlock) u268001 x268001_2) ∧ Aside0 (w'.heap[gb257]? = some (.cells #[.int .i64 a0_0, (.slice A0_1 l0_1.length c0_1)] 28 (0, 0))) ∧ Aside0 (w'.heap[gb258]? = some (.cells #[.int .i64 0, (.slice none 0 0)] 28 (0, 0))) ∧ Aside0 (w'.heap[gb267]? = some (.cells #[.int .i64 t264, u268001] 28 (0, 0))) ∧ Aside0 (Below w.heap.size w w'))
      case atStart => exact ⟨(0), (x268001_1), (u268001), (by first | rfl | (simp; done) | (simp [*]; done)), H', ⟨Nat.le_refl _⟩, ⟨by (with_reducible repeat (first | apply Kd.S_alloc | apply Kd.S_drewN | apply Kd.S_drew)); exact HO_8.out⟩, ⟨by (with_reducible repeat (first | apply Kd.S_alloc | apply Kd.S_drewN | apply Kd.S_drew)); exact HO_268001.out⟩, ⟨bk_ BK257.out⟩, ⟨bk_ BK258.out⟩, ⟨bk_ BK267.out⟩, ⟨bb_ HB.out⟩⟩
      case round =>
       clear H'
       try clear c1
       try clear c2
       try clear p2
       try clear c4
       try clear c5
       try clear c7
       try clear c7b0
       try clear c7b1
       try clear c11
       try clear c18
       try clear c19
       try clear c21
       try clear c21b0
       try clear hcz12_0
       try clear hcz12_1
       try clear hcz20_0
       try clear hcz20_1
       try clear hfz12_0
       try clear hfz12_1
       try clear hfz20_0
       try clear hfz20_1
       try clear p2
       obtain ⟨x12_2, x268001_2, u268001, rfl, HA, HK2, HO_8, HO_268001, BK257, BK258, BK267, HB⟩ := hrel
       cases gk with
       | zero => exact absurd HA.out (by simp [spec_StabilizerPresentation.l1])
       | succ k2 =>
        have H := HA.out
        clear HA
        simp only [spec_StabilizerPresentation.l1] at H
        by_cases c22 : x12_2 < (l0_1.length : Int)
        ·rw [if_pos c22] at H
         have c22b0 : decide (x12_2 < (l0_1.length : Int)) = true := decide_eq_true c22
         clear c22
         by_cases c23 : 0 ≤ x12_2
         ·rw [if_pos c23] at H
          have c23b0 : decide (0 ≤ x12_2) = true := decide_eq_true c23
          clear c23
          replace H := Option.bind_eq_some_iff.mp H
          obtain ⟨t270, A240, H⟩ := H
          replace H : (if x268001_2.length < 5864062014805 then (spec_StabilizerPresentation.l1 k2 a1 l2 t263 x11_1 (wrap64 (x12_2 + 1)) a0_0 l0_1 t264 (x268001_2 ++ [t270])) else (none)) = some (r1, r2, r3) := H
          have A24 := am_ A240
          clear A240
          by_cases c25 : x268001_2.length < 5864062014805
          ·rw [if_pos c25] at H
           have LMc25 := am_ c25
           clear c25
           obtain ⟨y273, hy273⟩ : ∃ y_ : List (List Int), y_ = (x268001_2 ++ [t270]) := ⟨_, rfl⟩
           replace H : (spec_StabilizerPresentation.l1 k2 a1 l2 t263 x11_1 (wrap64 (x12_2 + 1)) a0_0 l0_1 t264 y273) = some (r1, r2, r3) := by first | (rw [hy273]; with_reducible exact H) | (have H2_ := (Option.bind_some _ _).symm.trans H; rw [hy273]; with_reducible exact H2_) | (have H2_ := (Option.bind_some _ _).symm.trans H; with_reducible exact H2_) | with_reducible exact H | (rw [hy273]; exact H) | exact H
           have Ny273 := am_ hy273
           clear hy273
           have H' := am_ H
           clear H
           have hnb26 := NB257_258.out
           have hnc26 := NB258_257.out
           have hnb27 := NB257_267.out
           have hnc27 := NB267_257.out
           obtain ⟨hcz28_0, hcz28_1, hfz28_0, hfz28_1⟩ := bx2_ BK257
           try go_wp2
           have n0_ := am_ (Kd.S_drew HO_8.out)
           have n1_ := am_ (Kd.S_drew HO_268001.out)
           have n2_ := am_ (blk_drew BK257.out)
           have n3_ := am_ (blk_drew BK258.out)
           have n4_ := am_ (blk_drew BK267.out)
           have n5_ := am_ (below_drew1 HB.out)
           clear HO_8 HO_268001 BK257 BK258 BK267 HB; revert n0_ n1_ n2_ n3_ n4_ n5_; intro HO_8 HO_268001 BK257 BK258 BK267 HB
           have p269 : 0 ≤ (x12_2 : Int) := of_decide_eq_true (by first | (with_reducible assumption) | assumption)
           have q269 : x12_2 < (l0_1.length : Int) := of_decide_eq_true (by first | (with_reducible assumption) | assumption)
           obtain ⟨ad269, A269_0, c269_0, e269, hx269_0, hl269_0, hi269_0⟩ := at_L1 HR0_1.out x12_2 p269 q269
           have hw269_0 := hx269_0
           cases e269
           replace hx269_0 := (HB.out.cell (World.block_lt_of_cell? w _ hx269_0)).trans hx269_0
           have HR269_0 := am_ hi269_0
           have HC269_0 := am_ hl269_0
           clear hi269_0 hl269_0
           replace p269 := eq_true p269
           replace q269 := eq_true q269
           obtain ⟨Ao30, co30, eo30⟩ := Kd.S_slice HO_8.out
           (first | subst eo30 | (injection eo30 with f1_ f2_ f3_; have f4_ := f1_.symm; have f5_ := f3_.symm; clear f1_ f2_ f3_; subst f4_; subst f5_))
           refine start_ (n := 15) (S := fun w' => w'.cell? ⟨gb267, 0, none⟩ = some (.int .i64 t264) ∧ w'.cell? ⟨gb267, 1, none⟩ = some (u268001) ∧ w'.cell? ⟨gb257, 0, none⟩ = some (.int .i64 a0_0) ∧ w'.cell? ⟨gb257, 1, none⟩ = some (.slice (some ad269) l0_1.length c0_1) ∧ w'.cell? (ad269.add (x12_2).toNat) = some (.slice A269_0 (rd_L1 l0_1 x12_2).length c269_0)) (ds := [14]) (bA_ 15 0) (by kernel_rfl) rfl (by kernel_rfl) ⟨bc_ BK267 0, bc_ BK267 1, bc_ BK257 0, bc_ BK257 1, ((HB.out.cell (World.block_lt_of_cell? w _ hw269_0)).trans hw269_0)⟩ (fun hHeld => ?_); refine with_tabW spec_StabilizerPresentation.tab13 spec_StabilizerPresentation.bits13 (fun HT_ HW_ => ?_)
           generalize wr.drew = w29 at HO_8 HO_268001 BK257 BK258 BK267 HB HR269_0 hx269_0 hHeld ⊢
           refine pz_ 0 45 (bA_ 15 1) HT_ ?_
           refine pz_ 2 47 (bA_ 15 5) HT_ ?_
           refine pz_ 3 48 (bA_ 15 13) HT_ ?_
           refine pz_ 4 49 (bA_ 15 29) HT_ ?_
           refine pz_ 6 51 (bA_ 15 93) HT_ ?_
           refine pz_ 9 54 (bA_ 15 605) HT_ ?_
           refine tz_ 1 46 (bA_ 15 607) HT_ HW_ hHeld ?_
           refine tz_ 5 50 (bA_ 15 639) HT_ HW_ hHeld ?_
           refine pz_ 7 52 (bA_ 15 767) HT_ ?_
           refine tz_ 8 53 (bA_ 15 1023) HT_ HW_ hHeld ?_
           refine one_ (i := 10) (N := some 55) (bA_ 15 2047) rfl rfl (one_of HT_.out (by kernel_rfl)) (by decide) (fun K hK => ?_)
           refine goes_ Try.func52 (by kernel_rfl) rfl #[.slice A2 l2.length c2, .slice Ao30 t263.length co30, .slice A269_0 (rd_L1 l0_1 x12_2).length c269_0, .int .i64 x11_1] (by rfl) rfl rfl lm_ ?_
           with_reducible refine (spec_l05Rewrite.calls k2 _ _ l2 _ _ t263 _ _ (rd_L1 l0_1 x12_2) x11_1 t270 _ ?side1 ?side2 ?side3 ?side4 ?side5 ?side6 A24.out).mono ?_
           (case side1 => repeat (first | exact (Kd.C_below HR2.out HB.out) | (with_reducible refine Kd.C_alloc ?_ _) | (with_reducible refine Kd.C_drewN ?_ _) | (with_reducible refine Kd.C_drew ?_)))
           (case side2 => exact HC2.out)
           (case side3 => repeat (first | exact (Kd.S_reads' HO_8.out).2.2 | (with_reducible refine Kd.C_alloc ?_ _) | (with_reducible refine Kd.C_drewN ?_ _) | (with_reducible refine Kd.C_drew ?_)))
           (case side4 => exact (Kd.S_reads' HO_8.out).2.1)
           (case side5 => repeat (first | exact (Kd.C_below HR269_0.out HB.out) | (with_reducible refine Kd.C_alloc ?_ _) | (with_reducible refine Kd.C_drewN ?_ _) | (with_reducible refine Kd.C_drew ?_)))
           (case side6 => exact HC269_0.out)
           rintro e w31 ⟨v271, rfl, ho0, hb⟩
           refine ⟨_, rfl, ?_⟩
           have n0_ := am_ (Kd.S_elder' (by (with_reducible repeat (first | apply Kd.S_alloc | apply Kd.S_drewN | apply Kd.S_drew)); exact HO_8.out) (Kd.R_base ho0) hb)
           have n1_ := am_ (Kd.S_elder' (by (with_reducible repeat (first | apply Kd.S_alloc | apply Kd.S_drewN | apply Kd.S_drew)); exact HO_268001.out) (Kd.R_base ho0) hb)
           have n2_ := am_ (Kd.R_lower ho0 (below_size (bb_ HB.out)))
           have n3_ := am_ (bw_ BK257 hb)
           have n4_ := am_ (bw_ BK258 hb)
           have n5_ := am_ (bw_ BK267 hb)
           have n6_ := am_ (below_step (bb_ HB.out) hb)
           clear HO_8 HO_268001 BK257 BK258 BK267 HB; revert n0_ n1_ n2_ n3_ n4_ n5_ n6_; intro HO_8 HO_268001 HO272 BK257 BK258 BK267 HB
           (try clear hb)
           (try clear hb2)
           (try clear hk)
           (try clear hi)
           (try clear ho0)
           obtain ⟨Ao33, co33, eo33⟩ := Kd.R_slice HO272.out
           (first | subst eo33 | (injection eo33 with f1_ f2_ f3_; have f4_ := f1_.symm; have f5_ := f3_.symm; clear f1_ f2_ f3_; subst f4_; subst f5_))
           refine hK.out _ _ ⟨bc_ BK267 0, bc_ BK267 1, bc_ BK257 0, bc_ BK257 1, ((HB.out.cell (World.block_lt_of_cell? w _ hw269_0)).trans hw269_0)⟩ (fun hHeld => ?_)
           clear hK K
           refine norm_ (a' := ?_) ?_ ?_
           rotate_left
           ·show Act.put _ (some 55) _ = _
            simp only [Act.put, List.setIfInBounds_toArray, List.set_cons_zero, List.set_cons_succ, i64_w, i32_w]
            rfl
           refine one_ (i := 11) (N := some 56) (bA_ 15 4095) rfl rfl (one_of HT_.out (by kernel_rfl)) (by decide) (fun K hK => ?_)
           refine value_ (w1 := ?_) (v := ?_) (by rfl) rfl ?_ ?_
           rotate_left 2
           ·go_simp
            constructor
            ·rfl
            ·rfl
           refine hK.out _ _ ⟨(blk_cell (blk_alloc BK267.out _) 0).trans rfl, (blk_cell (blk_alloc BK267.out _) 1).trans rfl, (blk_cell (blk_alloc BK257.out _) 0).trans rfl, (blk_cell (blk_alloc BK257.out _) 1).trans rfl, (World.cell?_alloc_lt _ _ _ (World.block_lt_of_cell? _ _ (((HB.out.cell (World.block_lt_of_cell? w _ hw269_0)).trans hw269_0)))).trans (((HB.out.cell (World.block_lt_of_cell? w _ hw269_0)).trans hw269_0))⟩ (fun hHeld => ?_)
           clear hK K
           refine norm_ (a' := ?_) ?_ ?_
           rotate_left
           ·show Act.put _ (some 56) _ = _
            simp only [Act.put, List.setIfInBounds_toArray, List.set_cons_zero, List.set_cons_succ, i64_w, i32_w]
            rfl
           refine one_ (i := 12) (N := some 57) (bA_ 15 8191) rfl rfl (one_of HT_.out (by kernel_rfl)) (by decide) (fun K hK => ?_)
           refine Kd.S_append_step (Kd.slice 2 (Kd.int .i64)) (w0 := w) w.heap.size (by rfl) (.tmp 46) (.tmp 56) 22 39 (.slice none 0 0) 24 rfl Try.underlying22 info39 rfl (by decide) (by omega) u268001 x268001_2 t270 [.slice Ao33 t270.length co33] (fun k_ => some k_ ≠ (.slice Ao30 t263.length co30 : Value).ownBlock) (fun k_ => some k_ = (.slice Ao33 t270.length co33 : Value).ownBlock) rfl rfl ?aP (fun k_ hk_ => ((Kd.R_mono (ok' := fun k_ => ((fun k_ => some k_ ≠ (.slice Ao30 t263.length co30 : Value).ownBlock)) k_ ∧ some k_ ≠ (u268001 : Value).ownBlock) (Kd.R_apart' (Kd.R_apart' (HO272.out) (Kd.S_typed HO_8.out) (by decide)) (Kd.S_typed HO_268001.out) (by decide)) (fun k_ hk => ⟨hk.1.2, hk.2⟩))).1 k_ hk_.symm) ?aF ?aO ?aB ?aS ?aL ?_
           (case aP => exact Kd.M_row (Kd.R_mono (Kd.R_tight rfl (Kd.R_mono (ok' := fun k_ => ((fun k_ => some k_ ≠ (.slice Ao30 t263.length co30 : Value).ownBlock)) k_ ∧ some k_ ≠ (u268001 : Value).ownBlock) (Kd.R_apart' (Kd.R_apart' (HO272.out) (Kd.S_typed HO_8.out) (by decide)) (Kd.S_typed HO_268001.out) (by decide)) (fun k_ hk => ⟨hk.1.2, hk.2⟩))) (fun _ h_ => h_)))
           (case aB => exact (bb_ HB.out))
           (case aF => exact (fun k_ hk => Kd.fresh' (Kd.S_lt (by (with_reducible repeat (first | apply Kd.S_alloc | apply Kd.S_drewN | apply Kd.S_drew)); exact HO_8.out)) k_ hk))
           (case aO => exact (by (with_reducible repeat (first | apply Kd.S_alloc | apply Kd.S_drewN | apply Kd.S_drew)); exact Kd.S_mono HO_268001.out (fun k_ hk => ⟨hk.1, fun e_ => hk.2 e_⟩)))
           (case aS => exact (below_size (bb_ HB.out)))
           (case aL => have := LMc25.out; omega)
           intro v274 w32 ho hb hg hat
           rw [← Ny273.out] at ho
           have n0_ := am_ (Kd.S_after (ok := (fun k_ => some k_ ≠ (.slice Ao33 t270.length co33 : Value).ownBlock)) (by (with_reducible repeat (first | apply Kd.S_alloc | apply Kd.S_drewN | apply Kd.S_drew)); exact Kd.S_mono HO_8.out (fun _ hk => ⟨hk.2, hk.1⟩)) hg hat)
           have n1_ := am_ (blk_grown (g := gb257) (o := .cells #[.int .i64 a0_0, .slice (some ad269) l0_1.length c0_1] 28 (0, 0)) (bk_ BK257.out) hg (Kd.S_ne HO_268001.out BK257.out (by decide)))
           have n2_ := am_ (blk_grown (g := gb258) (o := .cells #[.int .i64 0, .slice none 0 0] 28 (0, 0)) (bk_ BK258.out) hg (Kd.S_ne HO_268001.out BK258.out (by decide)))
           have n3_ := am_ (blk_grown (g := gb267) (o := .cells #[.int .i64 t264, u268001] 28 (0, 0)) (bk_ BK267.out) hg (Kd.S_ne HO_268001.out BK267.out (by decide)))
           have n4_ := am_ (hb)
           have n5_ := am_ (ho)
           clear HO_8 BK257 BK258 BK267 HB HO_268001 HO272; revert n0_ n1_ n2_ n3_ n4_ n5_; intro HO_8 BK257 BK258 BK267 HB HO275
           clear ho hb hg hat
           obtain ⟨Ao34, co34, eo34⟩ := Kd.S_slice HO275.out
           (first | subst eo34 | (injection eo34 with f1_ f2_ f3_; have f4_ := f1_.symm; have f5_ := f3_.symm; clear f1_ f2_ f3_; subst f4_; subst f5_))
           refine hK.out _ _ ⟨bc_ BK267 0, bc_ BK267 1, bc_ BK257 0, bc_ BK257 1, ((HB.out.cell (World.block_lt_of_cell? w _ hw269_0)).trans hw269_0)⟩ (fun hHeld => ?_)
           clear hK K
           refine norm_ (a' := ?_) ?_ ?_
           rotate_left
           ·show Act.put _ (some 57) _ = _
            simp only [Act.put, List.setIfInBounds_toArray, List.set_cons_zero, List.set_cons_succ, i64_w, i32_w]
            rfl
           refine pz_ 13 58 (bA_ 15 16383) HT_ ?_
           refine last_ (i := 14) (N := none) (bA_ 15 32767) rfl rfl (one_of HT_.out (by kernel_rfl)) (by decide) (fun K hK => ?_)
           have hs35 : w32.cell? ⟨gb267, 1, none⟩ = some (u268001) := bc_ BK267 1
           have hfs35 := blk_frozen BK267.out 1
           have hns35_0 := NB257_267.out
           have hns35_1 := NB258_267.out
           have hms35_0 := NB267_257.out
           have hms35_1 := NB267_258.out
           refine skip_ (w1 := ?_) (by rfl) rfl ?_ ?_
           rotate_left
           ·go_simp
            rfl
           refine hK.out _ _ ?_
           clear hK K
           refine done_ (done_of HT_.out (by kernel_rfl)) ?_
           try go_wp2
           go_roundg k2
           case measure => have := HK1.out; have := HK2.out; omega
           case rel => exact ⟨(wrap64 (x12_2 + 1)), (y273), (.slice Ao34 y273.length co34), (by first | rfl | (simp; done) | (simp [*]; done)), H', ⟨by have := HK1.out; have := HK2.out; omega⟩, ⟨by (with_reducible repeat (first | apply Kd.S_alloc | apply Kd.S_drewN | apply Kd.S_drew)); exact Kd.S_mono (Kd.S_far (p := ⟨gb267, 1, none⟩) (Kd.S_types HO_8.out BK267.out (by decide)) (fun _ hk => hk.2) (.slice Ao34 y273.length co34)) (fun _ hk => hk.1.2)⟩, ⟨by (with_reducible repeat (first | apply Kd.S_alloc | apply Kd.S_drewN | apply Kd.S_drew)); exact Kd.S_mono (Kd.S_far (p := ⟨gb267, 1, none⟩) (Kd.S_types HO275.out BK267.out (by decide)) (fun _ hk => hk.2) (.slice Ao34 y273.length co34)) (fun _ hk => hk.1)⟩, ⟨bk_ BK257.out⟩, ⟨bk_ BK258.out⟩, ⟨by (with_reducible repeat (first | refine blk_drewN ?_ _ | refine blk_drew ?_ | refine blk_alloc ?_ _)); refine blk_put (cs := #[.int .i64 t264, u268001]) ?_ 1 _ rfl; (with_reducible repeat (first | refine blk_drewN ?_ _ | refine blk_drew ?_ | refine blk_alloc ?_ _)); exact BK267.out⟩, ⟨bb_ HB.out⟩⟩
          ·rw [if_neg c25] at H
           exact absurd H (by simp)
         ·rw [if_neg c23] at H
          exact absurd H (by simp)
        ·rw [if_neg c22] at H
         have c22b0 : decide (x12_2 < (l0_1.length : Int)) = false := decide_eq_false c22
         clear c22
         have H' := am_ H
         clear H
         have hnb36 := NB257_258.out
         have hnc36 := NB258_257.out
         have hnb37 := NB257_267.out
         have hnc37 := NB267_257.out
         obtain ⟨hcz38_0, hcz38_1, hfz38_0, hfz38_1⟩ := bx2_ BK257
         go_wp2
         go_roundg k2
         case measure => have := HK1.out; have := HK2.out; omega
         case rel => exact ⟨(wrap64 (x11_1 + 1)), (x268001_2), (u268001), (by first | rfl | (simp; done) | (simp [*]; done)), H', ⟨by have := HK1.out; have := HK2.out; omega⟩, ⟨by (with_reducible repeat (first | apply Kd.S_alloc | apply Kd.S_drewN | apply Kd.S_drew)); exact HO_8.out⟩, ⟨by (with_reducible repeat (first | apply Kd.S_alloc | apply Kd.S_drewN | apply Kd.S_drew)); exact HO_268001.out⟩, ⟨bk_ BK257.out⟩, ⟨bk_ BK258.out⟩, ⟨bk_ BK267.out⟩, ⟨bb_ HB.out⟩⟩
     ·rw [if_neg c21] at H
      have c21b0 : decide (x11_1 < a1) = false := decide_eq_false c21
      clear c21
      replace H := Option.bind_eq_some_iff.mp H
      obtain ⟨t268, A390, H⟩ := H
      replace H : (if t268 = true then (some (t264, x268001_1, 0)) else (some (0, ([] : List (List Int)), 3))) = some (r1, r2, r3) := H
      have A39 := am_ A390
      clear A390
      by_cases c40 : t268 = true
      ·subst c40
       have H1 : (some (t264, x268001_1, 0)) = some (r1, r2, r3) := by rw [if_pos rfl] at H; exact H
       clear H
       have H := H1
       clear H1
       simp only [Option.some.injEq, Prod.mk.injEq] at H
       obtain ⟨rfl, rfl, rfl⟩ := H
       have hnb41 := NB267_257.out
       have hnc41 := NB257_267.out
       have hnb42 := NB267_258.out
       have hnc42 := NB258_267.out
       obtain ⟨hcz43_0, hcz43_1, hfz43_0, hfz43_1⟩ := bx2_ BK267
       obtain ⟨Ao44, co44, eo44⟩ := Kd.S_slice HO_268001.out
       subst eo44
       go_wp2_with (first | ((with_reducible refine gate_callee (f := 35) rfl ?_); refine goesL_ (some 60) rfl rfl Try.func35 (by kernel_rfl) rfl #[.agg #[.int .i64 t264, .slice Ao44 x268001_1.length co44]] rfl lm_ ?_; (with_reducible refine (spec_IsPresentation.calls k1 t264 _ _ x268001_1 true _ ?side1 ?side2 A39.out).mono ?_); (case side1 => repeat (first | exact (Kd.S_reads' HO_268001.out).2.2 | (with_reducible refine Kd.C_alloc ?_ _) | (with_reducible refine Kd.C_drewN ?_ _) | (with_reducible refine Kd.C_drew ?_))); (case side2 => exact (Kd.S_reads' HO_268001.out).2.1); rintro e w45 ⟨rfl, hb⟩; refine ⟨_, rfl, ?_⟩; have n0_ := am_ (Kd.S_below (by (with_reducible repeat (first | apply Kd.S_alloc | apply Kd.S_drewN | apply Kd.S_drew)); exact HO_8.out) hb); have n1_ := am_ (Kd.S_below (by (with_reducible repeat (first | apply Kd.S_alloc | apply Kd.S_drewN | apply Kd.S_drew)); exact HO_268001.out) hb); have n2_ := am_ (bw_ BK257 hb); have n3_ := am_ (bw_ BK258 hb); have n4_ := am_ (bw_ BK267 hb); have n5_ := am_ (below_step (bb_ HB.out) hb); clear HO_8 HO_268001 BK257 BK258 BK267 HB; revert n0_ n1_ n2_ n3_ n4_ n5_; intro HO_8 HO_268001 BK257 BK258 BK267 HB; (try clear hb); (try clear hb2); (try clear hk); (try clear hi); obtain ⟨hcz46_0, hcz46_1, hfz46_0, hfz46_1⟩ := bx2_ BK267; have hnb47 := NB258_257.out; have hnc47 := NB257_258.out; obtain ⟨hcz48_0, hcz48_1, hfz48_0, hfz48_1⟩ := bx2_ BK258))
       refine bodyPost_ret (results_ct rfl _ _ gb258 28 #[.int .i64 t264, .slice Ao44 x268001_1.length co44] (0, 0) _ rfl (by (with_reducible repeat (first | refine blk_drewN ?_ _ | refine blk_drew ?_ | refine blk_alloc ?_ _)); refine blk_put (cs := #[.int .i64 t264, .slice none 0 0]) ?_ 1 _ rfl; (with_reducible repeat (first | refine blk_drewN ?_ _ | refine blk_drew ?_ | refine blk_alloc ?_ _)); refine blk_put (cs := #[.int .i64 0, .slice none 0 0]) ?_ 0 _ rfl; (with_reducible repeat (first | refine blk_drewN ?_ _ | refine blk_drew ?_ | refine blk_alloc ?_ _)); exact BK258.out) Try.underlying28 rfl (by kernel_rfl)) rfl ?_
       exact ⟨_, by first | rfl | (simp [errW_none, errW_some] <;> rfl) | (simp [*, errW_none, errW_some] <;> rfl), by (with_reducible repeat (first | apply Kd.S_alloc | apply Kd.S_drewN | apply Kd.S_drew)); exact Kd.S_mono (Kd.S_far (p := ⟨gb258, 1, none⟩) (Kd.S_far (p := ⟨gb258, 0, none⟩) (Kd.S_types HO_268001.out BK258.out (by decide)) (fun _ hk => hk.2) (.int .i64 t264)) (fun _ hk => hk.2) (.slice Ao44 x268001_1.length co44)) (fun _ hk => trivial), bb_ HB.out⟩
      ·replace c40 := Bool.eq_false_iff.mpr c40
       subst c40
       have H1 : (some (0, ([] : List (List Int)), 3)) = some (r1, r2, r3) := by rw [if_neg (show ¬ (false = true) by decide)] at H; exact H
       clear H
       have H := H1
       clear H1
       simp only [Option.some.injEq, Prod.mk.injEq] at H
       obtain ⟨rfl, rfl, rfl⟩ := H
       have hnb49 := NB267_257.out
       have hnc49 := NB257_267.out
       have hnb50 := NB267_258.out
       have hnc50 := NB258_267.out
       obtain ⟨hcz51_0, hcz51_1, hfz51_0, hfz51_1⟩ := bx2_ BK267
       obtain ⟨Ao52, co52, eo52⟩ := Kd.S_slice HO_268001.out
       subst eo52
       go_wp2_with (first | ((with_reducible refine gate_callee (f := 35) rfl ?_); refine goesL_ (some 60) rfl rfl Try.func35 (by kernel_rfl) rfl #[.agg #[.int .i64 t264, .slice Ao52 x268001_1.length co52]] rfl lm_ ?_; (with_reducible refine (spec_IsPresentation.calls k1 t264 _ _ x268001_1 false _ ?side1 ?side2 A39.out).mono ?_); (case side1 => repeat (first | exact (Kd.S_reads' HO_268001.out).2.2 | (with_reducible refine Kd.C_alloc ?_ _) | (with_reducible refine Kd.C_drewN ?_ _) | (with_reducible refine Kd.C_drew ?_))); (case side2 => exact (Kd.S_reads' HO_268001.out).2.1); rintro e w53 ⟨rfl, hb⟩; refine ⟨_, rfl, ?_⟩; have n0_ := am_ (Kd.S_below (by (with_reducible repeat (first | apply Kd.S_alloc | apply Kd.S_drewN | apply Kd.S_drew)); exact HO_8.out) hb); have n1_ := am_ (Kd.S_below (by (with_reducible repeat (first | apply Kd.S_alloc | apply Kd.S_drewN | apply Kd.S_drew)); exact HO_268001.out) hb); have n2_ := am_ (bw_ BK257 hb); have n3_ := am_ (bw_ BK258 hb); have n4_ := am_ (bw_ BK267 hb); have n5_ := am_ (below_step (bb_ HB.out) hb); clear HO_8 HO_268001 BK257 BK258 BK267 HB; revert n0_ n1_ n2_ n3_ n4_ n5_; intro HO_8 HO_268001 BK257 BK258 BK267 HB; (try clear hb); (try clear hb2); (try clear hk); (try clear hi); have hnb54 := NB258_257.out; have hnc54 := NB257_258.out; obtain ⟨hcz55_0, hcz55_1, hfz55_0, hfz55_1⟩ := bx2_ BK258))
       refine bodyPost_ret (results_ct rfl _ _ gb258 28 #[.int .i64 0, .slice none 0 0] (0, 0) _ rfl (by (with_reducible repeat (first | refine blk_drewN ?_ _ | refine blk_drew ?_ | refine blk_alloc ?_ _)); refine blk_put (cs := #[.int .i64 0, .slice none 0 0]) ?_ 1 _ rfl; (with_reducible repeat (first | refine blk_drewN ?_ _ | refine blk_drew ?_ | refine blk_alloc ?_ _)); refine blk_put (cs := #[.int .i64 0, .slice none 0 0]) ?_ 0 _ rfl; (with_reducible repeat (first | refine blk_drewN ?_ _ | refine blk_drew ?_ | refine blk_alloc ?_ _)); exact BK258.out) Try.underlying28 rfl (by kernel_rfl)) rfl ?_
       exact ⟨_, by first | rfl | (simp [errW_none, errW_some] <;> rfl) | (simp [*, errW_none, errW_some] <;> rfl), by first | exact Kd.S_nil _ _ _ _ _ | exact Kd.N_nil _ _ _ _ _ | exact Kd.V_nil _ _ _ _ _ | exact Kd.Q_nil _ _ _ _ _ | exact Kd.R_nil _ _ _ _ _, bb_ HB.out⟩
  ·rw [if_neg c7] at H
   have c7b0 : ((t260.length : Int) == 1) = false := beq_eq_false_iff_ne.mpr c7
   have c7b1 : ((t260.length : Int) != 1) = true := bne_iff_ne.mpr c7
   simp only [Option.some.injEq, Prod.mk.injEq] at H
   obtain ⟨rfl, rfl, rfl⟩ := H
   go_enter Try.func18, Try.ntmps18
   go_wp2_with (first | ((with_reducible refine gate_dst (N := 3) rfl ?_); refine box_event ?hg (N := 3) ?hd (cs := #[.int .i64 a0_0, .slice A0_1 l0_1.length c0_1]) (t := 28) ?hr ?_; (case hd => rfl); (case hg => rfl); (case hr => first | (go_simp; done) | (go_simp; rfl)); intro gb257 hg w56 hbox hb; have n0_ := am_ (below_step (bb_ HB.out) hb); have n1_ := am_ (hbox); have n2_ := am_ ((by rw [hg]; exact (below_size (bb_ HB.out)) : w.heap.size ≤ gb257)); have n3_ := am_ ((by rw [hg]; exact (below_size (bb_ HB.out)) : w.heap.size ≤ gb257)); clear HB; revert n0_ n1_ n2_ n3_; intro HB BK257 GW257 GE257; clear hb hbox hg) | ((with_reducible refine gate_dst (N := 6) rfl ?_); refine box_event ?hg (N := 6) ?hd (cs := #[.int .i64 0, .slice none 0 0]) (t := 28) ?hr ?_; (case hd => rfl); (case hg => rfl); (case hr => first | (go_simp; done) | (go_simp; rfl)); intro gb258 hg w57 hbox hb; have n0_ := am_ (bw_ BK257 hb); have n1_ := am_ (below_step (bb_ HB.out) hb); have n2_ := am_ (hbox); have n3_ := am_ ((by rw [hg]; exact (below_size (bb_ HB.out)) : w.heap.size ≤ gb258)); have n4_ := am_ ((by rw [hg]; exact (below_size (bb_ HB.out)) : w.heap.size ≤ gb258)); have n5_ := am_ (nl_ BK257 hg); have n6_ := am_ (ng_ BK257 hg); clear BK257 HB; revert n0_ n1_ n2_ n3_ n4_ n5_ n6_; intro BK257 HB BK258 GW258 GE258 NB257_258 NB258_257; clear hb hbox hg; have hnb58 := NB257_258.out; have hnc58 := NB258_257.out; obtain ⟨hcz59_0, hcz59_1, hfz59_0, hfz59_1⟩ := bx2_ BK257) | ((with_reducible refine gate_callee (f := 49) rfl ?_); refine goesL_ (some 16) rfl rfl Try.func49 (by kernel_rfl) rfl #[.agg #[.int .i64 a0_0, .slice A0_1 l0_1.length c0_1], .int .i64 a1, .slice A2 l2.length c2] rfl lm_ ?_; (with_reducible refine (spec_IsRepresentation.calls k a0_0 _ _ l0_1 a1 _ _ l2 true _ ?side1 ?side2 ?side3 ?side4 A4.out).mono ?_); (case side1 => repeat (first | exact (Kd.C_below HR0_1.out HB.out) | (with_reducible refine Kd.C_alloc ?_ _) | (with_reducible refine Kd.C_drewN ?_ _) | (with_reducible refine Kd.C_drew ?_))); (case side2 => exact HC0_1.out); (case side3 => repeat (first | exact (Kd.C_below HR2.out HB.out) | (with_reducible refine Kd.C_alloc ?_ _) | (with_reducible refine Kd.C_drewN ?_ _) | (with_reducible refine Kd.C_drew ?_))); (case side4 => exact HC2.out); rintro e w60 ⟨rfl, hb⟩; refine ⟨_, rfl, ?_⟩; have n0_ := am_ (bw_ BK257 hb); have n1_ := am_ (bw_ BK258 hb); have n2_ := am_ (below_step (bb_ HB.out) hb); clear BK257 BK258 HB; revert n0_ n1_ n2_; intro BK257 BK258 HB; (try clear hb); (try clear hb2); (try clear hk); (try clear hi)) | ((with_reducible refine gate_callee (f := 50) rfl ?_); refine goesL_ (some 21) rfl rfl Try.func50 (by kernel_rfl) rfl #[.int .i64 a1, .slice A2 l2.length c2] rfl lm_ ?_; (with_reducible refine (spec_l05Orbits.calls k a1 _ _ l2 t260 _ ?side1 ?side2 A6.out).mono ?_); (case side1 => repeat (first | exact (Kd.C_below HR2.out HB.out) | (with_reducible refine Kd.C_alloc ?_ _) | (with_reducible refine Kd.C_drewN ?_ _) | (with_reducible refine Kd.C_drew ?_))); (case side2 => exact HC2.out); rintro e w61 ⟨v261, rfl, ho0, hb⟩; refine ⟨_, rfl, ?_⟩; have n0_ := am_ (Kd.S_lower ho0 (below_size (bb_ HB.out))); have n1_ := am_ (bw_ BK257 hb); have n2_ := am_ (bw_ BK258 hb); have n3_ := am_ (below_step (bb_ HB.out) hb); clear BK257 BK258 HB; revert n0_ n1_ n2_ n3_; intro HO262 BK257 BK258 HB; (try clear hb); (try clear hb2); (try clear hk); (try clear hi); (try clear ho0); obtain ⟨Ao62, co62, eo62⟩ := Kd.S_slice HO262.out; subst eo62; obtain ⟨hcz63_0, hcz63_1, hfz63_0, hfz63_1⟩ := bx2_ BK258))
   refine bodyPost_ret (results_ct rfl _ _ gb258 28 #[.int .i64 0, .slice none 0 0] (0, 0) _ rfl (by (with_reducible repeat (first | refine blk_drewN ?_ _ | refine blk_drew ?_ | refine blk_alloc ?_ _)); refine blk_put (cs := #[.int .i64 0, .slice none 0 0]) ?_ 1 _ rfl; (with_reducible repeat (first | refine blk_drewN ?_ _ | refine blk_drew ?_ | refine blk_alloc ?_ _)); refine blk_put (cs := #[.int .i64 0, .slice none 0 0]) ?_ 0 _ rfl; (with_reducible repeat (first | refine blk_drewN ?_ _ | refine blk_drew ?_ | refine blk_alloc ?_ _)); exact BK258.out) Try.underlying28 rfl (by kernel_rfl)) rfl ?_
   exact ⟨_, by first | rfl | (simp [errW_none, errW_some] <;> rfl) | (simp [*, errW_none, errW_some] <;> rfl), by first | exact Kd.S_nil _ _ _ _ _ | exact Kd.N_nil _ _ _ _ _ | exact Kd.V_nil _ _ _ _ _ | exact Kd.Q_nil _ _ _ _ _ | exact Kd.R_nil _ _ _ _ _, bb_ HB.out⟩
 ·replace c5 := Bool.eq_false_iff.mpr c5
  subst c5
  have H1 : (some (0, ([] : List (List Int)), 1)) = some (r1, r2, r3) := by rw [if_neg (show ¬ (false = true) by decide)] at H; exact H
  clear H
  have H := H1
  clear H1
  simp only [Option.some.injEq, Prod.mk.injEq] at H
  obtain ⟨rfl, rfl, rfl⟩ := H
  go_enter Try.func18, Try.ntmps18
  go_wp2_with (first | ((with_reducible refine gate_dst (N := 3) rfl ?_); refine box_event ?hg (N := 3) ?hd (cs := #[.int .i64 a0_0, .slice A0_1 l0_1.length c0_1]) (t := 28) ?hr ?_; (case hd => rfl); (case hg => rfl); (case hr => first | (go_simp; done) | (go_simp; rfl)); intro gb257 hg w64 hbox hb; have n0_ := am_ (below_step (bb_ HB.out) hb); have n1_ := am_ (hbox); have n2_ := am_ ((by rw [hg]; exact (below_size (bb_ HB.out)) : w.heap.size ≤ gb257)); have n3_ := am_ ((by rw [hg]; exact (below_size (bb_ HB.out)) : w.heap.size ≤ gb257)); clear HB; revert n0_ n1_ n2_ n3_; intro HB BK257 GW257 GE257; clear hb hbox hg) | ((with_reducible refine gate_dst (N := 6) rfl ?_); refine box_event ?hg (N := 6) ?hd (cs := #[.int .i64 0, .slice none 0 0]) (t := 28) ?hr ?_; (case hd => rfl); (case hg => rfl); (case hr => first | (go_simp; done) | (go_simp; rfl)); intro gb258 hg w65 hbox hb; have n0_ := am_ (bw_ BK257 hb); have n1_ := am_ (below_step (bb_ HB.out) hb); have n2_ := am_ (hbox); have n3_ := am_ ((by rw [hg]; exact (below_size (bb_ HB.out)) : w.heap.size ≤ gb258)); have n4_ := am_ ((by rw [hg]; exact (below_size (bb_ HB.out)) : w.heap.size ≤ gb258)); have n5_ := am_ (nl_ BK257 hg); have n6_ := am_ (ng_ BK257 hg); clear BK257 HB; revert n0_ n1_ n2_ n3_ n4_ n5_ n6_; intro BK257 HB BK258 GW258 GE258 NB257_258 NB258_257; clear hb hbox hg; have hnb66 := NB257_258.out; have hnc66 := NB258_257.out; obtain ⟨hcz67_0, hcz67_1, hfz67_0, hfz67_1⟩ := bx2_ BK257) | ((with_reducible refine gate_callee (f := 49) rfl ?_); refine goesL_ (some 16) rfl rfl Try.func49 (by kernel_rfl) rfl #[.agg #[.int .i64 a0_0, .slice A0_1 l0_1.length c0_1], .int .i64 a1, .slice A2 l2.length c2] rfl lm_ ?_; (with_reducible refine (spec_IsRepresentation.calls k a0_0 _ _ l0_1 a1 _ _ l2 false _ ?side1 ?side2 ?side3 ?side4 A4.out).mono ?_); (case side1 => repeat (first | exact (Kd.C_below HR0_1.out HB.out) | (with_reducible refine Kd.C_alloc ?_ _) | (with_reducible refine Kd.C_drewN ?_ _) | (with_reducible refine Kd.C_drew ?_))); (case side2 => exact HC0_1.out); (case side3 => repeat (first | exact (Kd.C_below HR2.out HB.out) | (with_reducible refine Kd.C_alloc ?_ _) | (with_reducible refine Kd.C_drewN ?_ _) | (with_reducible refine Kd.C_drew ?_))); (case side4 => exact HC2.out); rintro e w68 ⟨rfl, hb⟩; refine ⟨_, rfl, ?_⟩; have n0_ := am_ (bw_ BK257 hb); have n1_ := am_ (bw_ BK258 hb); have n2_ := am_ (below_step (bb_ HB.out) hb); clear BK257 BK258 HB; revert n0_ n1_ n2_; intro BK257 BK258 HB; (try clear hb); (try clear hb2); (try clear hk); (try clear hi); obtain ⟨hcz69_0, hcz69_1, hfz69_0, hfz69_1⟩ := bx2_ BK258))
  refine bodyPost_ret (results_ct rfl _ _ gb258 28 #[.int .i64 0, .slice none 0 0] (0, 0) _ rfl (by (with_reducible repeat (first | refine blk_drewN ?_ _ | refine blk_drew ?_ | refine blk_alloc ?_ _)); refine blk_put (cs := #[.int .i64 0, .slice none 0 0]) ?_ 1 _ rfl; (with_reducible repeat (first | refine blk_drewN ?_ _ | refine blk_drew ?_ | refine blk_alloc ?_ _)); refine blk_put (cs := #[.int .i64 0, .slice none 0 0]) ?_ 0 _ rfl; (with_reducible repeat (first | refine blk_drewN ?_ _ | refine blk_drew ?_ | refine blk_alloc ?_ _)); exact BK258.out) Try.underlying28 rfl (by kernel_rfl)) rfl ?_
  exact ⟨_, by first | rfl | (simp [errW_none, errW_some] <;> rfl) | (simp [*, errW_none, errW_some] <;> rfl), by first | exact Kd.S_nil _ _ _ _ _ | exact Kd.N_nil _ _ _ _ _ | exact Kd.V_nil _ _ _ _ _ | exact Kd.Q_nil _ _ _ _ _ | exact Kd.R_nil _ _ _ _ _, bb_ HB.out⟩

/-! ### impl_inRange: function 64 -/
def impl_inRange.f (a0 : Int) (a1 : Int) (a2 : Int) : Option (Bool) := if a1 ≤ a0 then (some (decide (a0 ≤ a2))) else (some false)
set_option maxHeartbeats 8000000 in
set_option maxRecDepth 100000 in
theorem impl_inRange.calls (a0 : Int) (a1 : Int) (a2 : Int) (r : Bool) (w : World) (h : impl_inRange.f a0 a1 a2 = some r) :
    Calls Try.prog 64 #[.int .i64 a0, .int .i64 a1, .int .i64 a2] w fun e w' => e = .returned (.bool r) ∧ Drawn0 w w' := by
  have H : (if a1 ≤ a0 then (some (decide (a0 ≤ a2))) else (some false)) = some r := h
  clear h
  by_cases c4 : a1 ≤ a0
  · rw [if_pos c4] at H
    have c4b0 : decide (a1 ≤ a0) = true := decide_eq_true c4
    clear c4
    obtain rfl := Option.some.inj H
    go_enter Try.func64, Try.ntmps64
    go_wp2
    go_ret
    exact ⟨by first | rfl | (simp; done) | (simp [*]; done), by repeat (first | exact Drawn0.refl _ | apply Drawn0.step)⟩
  · rw [if_neg c4] at H
    have c4b0 : decide (a1 ≤ a0) = false := decide_eq_false c4
    clear c4
    obtain rfl := Option.some.inj H
    go_enter Try.func64, Try.ntmps64
    go_wp2
    go_ret
    exact ⟨by first | rfl | (simp; done) | (simp [*]; done), by repeat (first | exact Drawn0.refl _ | apply Drawn0.step)⟩

/-! ### impl_reduced: function 58 -/
def impl_reduced.l0 : Nat → List Int → List Int → Int → Int → Option (List Int)
 | 0, _, _, _, _ => none
 | k + 1, x3, x7, x8, x9 => if x9 < x8 then (if 0 ≤ x9 then (if x9 < (x7.length : Int) then (if (x3.length : Int) > 0 then (if 0 ≤ (wrap64 ((x3.length : Int) - 1)) then (if (wrap64 ((x3.length : Int) - 1)) < (x3.length : Int) then (if (rd x3 (wrap64 ((x3.length : Int) - 1))) = (wrap64 (-(rd x7 x9))) then (if (wrap64 ((x3.length : Int) - 1)) ≤ (x3.length : Int) then (impl_reduced.l0 k (x3.take ((wrap64 ((x3.length : Int) - 1)) : Int).toNat) x7 x8 (wrap64 (x9 + 1))) else (none)) else (if x3.length < 17592186044416 then (impl_reduced.l0 k (x3 ++ [rd x7 x9]) x7 x8 (wrap64 (x9 + 1))) else (none))) else (none)) else (none)) else (if x3.length < 17592186044416 then (impl_reduced.l0 k (x3 ++ [rd x7 x9]) x7 x8 (wrap64 (x9 + 1))) else (none))) else (none)) else (none)) else (some x3)
def impl_reduced.f (k : Nat) (l0 : List Int) : Option (List Int) := impl_reduced.l0 k ([] : List Int) l0 (l0.length : Int) 0
theorem impl_reduced.mono_l : ∀ k, (∀ y0 y1 y2 y3, LeO (impl_reduced.l0 k y0 y1 y2 y3) (impl_reduced.l0 (k + 1) y0 y1 y2 y3))
 | 0 => fun _ _ _ _ r h => by simp [impl_reduced.l0] at h
 | k + 1 => by
  have ih0 := impl_reduced.mono_l k
  ·intro y0 y1 y2 y3
   unfold impl_reduced.l0
   repeat' first
   | (with_reducible exact ih0 _ _ _ _)
   | (with_reducible exact LeO.refl _)
   | (with_reducible exact LeO.none _)
   | (with_reducible refine LeO.ite ?_ ?_)
   | (with_reducible refine LeO.bind ?_ (fun _ => ?_))
   | exact ih0 _ _ _ _
   | exact LeO.none _
   | refine LeO.ite ?_ ?_
   | refine LeO.bind ?_ (fun _ => ?_)
theorem impl_reduced.mono : ∀ a0 k, LeO (impl_reduced.f k a0) (impl_reduced.f (k + 1) a0) := by
 intro a0 k
 have ih0 := impl_reduced.mono_l k
 unfold impl_reduced.f
 repeat' first
   | (with_reducible exact ih0 _ _ _ _)
   | (with_reducible exact LeO.refl _)
   | (with_reducible exact LeO.none _)
   | (with_reducible refine LeO.ite ?_ ?_)
   | (with_reducible refine LeO.bind ?_ (fun _ => ?_))
   | exact ih0 _ _ _ _
   | exact LeO.none _
   | refine LeO.ite ?_ ?_
   | refine LeO.bind ?_ (fun _ => ?_)
set_option maxHeartbeats 8000000 in
set_option maxRecDepth 100000 in
theorem impl_reduced.calls (k : Nat) (A0 : Option Addr) (c0 : Nat) (l0 : List Int) (r : List Int) (w : World) (hr0 : Kd.C (Kd.int .i64) w A0 l0.length l0) (hc0 : l0.length ≤ c0) (h : impl_reduced.f k l0 = some r) :
  Calls Try.prog 58 #[.slice A0 l0.length c0] w fun e w' => ∃ v0_ : Value, e = .returned (v0_) ∧ Kd.R (Kd.int .i64) 2 w' w.heap.size (fun _ => True) v0_ r ∧ Below w.heap.size w w' := by
 have HR0 := am_ hr0
 have HC0 := am_ hc0
 clear hr0 hc0
 have HB := am_ (Below.refl w.heap.size w)
 have H : (impl_reduced.l0 k ([] : List Int) l0 (l0.length : Int) 0) = some r := h
 clear h
 have H' := am_ H
 clear H
 go_enter Try.func58, Try.ntmps58
 go_wp2
 go_loopg [3, 9] k (fun kq v3 v9 w' => ∃ (x3_1 : List Int) (x9_1 : Int), v9 = .int .i64 x9_1 ∧ Aside0 (impl_reduced.l0 kq x3_1 l0 (l0.length : Int) x9_1 = some r) ∧ Aside0 (kq ≤ k) ∧ Aside0 (Kd.R (Kd.int .i64) 2 w' w.heap.size (fun _ => True) v3 x3_1) ∧ Aside0 (Below w.heap.size w w'))
 case atStart => exact ⟨(([] : List Int)), (0), (by first | rfl | (simp; done) | (simp [*]; done)), H', ⟨Nat.le_refl _⟩, ⟨by first | exact Kd.R_nil _ _ _ _ _ | exact Kd.N_nil _ _ _ _ _ | exact Kd.V_nil _ _ _ _ _ | exact Kd.Q_nil _ _ _ _ _ | exact Kd.S_nil _ _ _ _ _⟩, ⟨bb_ HB.out⟩⟩
 case round =>
  clear H'
  obtain ⟨x3_1, x9_1, rfl, HA, HK1, HO_3, HB⟩ := hrel
  cases gk with
  | zero => exact absurd HA.out (by simp [impl_reduced.l0])
  | succ k1 =>
   have H := HA.out
   clear HA
   simp only [impl_reduced.l0] at H
   by_cases c2 : x9_1 < (l0.length : Int)
   ·rw [if_pos c2] at H
    have c2b0 : decide (x9_1 < (l0.length : Int)) = true := decide_eq_true c2
    clear c2
    by_cases c3 : 0 ≤ x9_1
    ·rw [if_pos c3] at H
     have c3b0 : decide (0 ≤ x9_1) = true := decide_eq_true c3
     clear c3
     by_cases c4 : x9_1 < (l0.length : Int)
     ·rw [if_pos c4] at H
      have c4b0 : decide (x9_1 < (l0.length : Int)) = true := decide_eq_true c4
      clear c4
      by_cases c5 : (x3_1.length : Int) > 0
      ·rw [if_pos c5] at H
       have c5b0 : decide (0 < (x3_1.length : Int)) = true := decide_eq_true c5
       have c5b1 : decide (0 < x3_1.length) = true := decide_eq_true (by omega)
       clear c5
       obtain ⟨ji6, hji6⟩ : ∃ j_ : Int, (wrap64 ((x3_1.length : Int) - 1)) = j_ := ⟨_, rfl⟩
       replace H : (if 0 ≤ (ji6) then (if (ji6) < (x3_1.length : Int) then (if (rd x3_1 (ji6)) = (wrap64 (-(rd l0 x9_1))) then (if (ji6) ≤ (x3_1.length : Int) then (impl_reduced.l0 k1 (x3_1.take ((ji6) : Int).toNat) l0 (l0.length : Int) (wrap64 (x9_1 + 1))) else (none)) else (if x3_1.length < 17592186044416 then (impl_reduced.l0 k1 (x3_1 ++ [rd l0 x9_1]) l0 (l0.length : Int) (wrap64 (x9_1 + 1))) else (none))) else (none)) else (none)) = some r := by first | (rw [hji6] at H; exact H) | (simp only [hji6] at H ⊢; exact H)
       have hji6w : (IntKind.i64.wrap ((x3_1.length : Int) - 1)) = ji6 := (i64_w _).trans hji6
       by_cases c7 : 0 ≤ (ji6)
       ·rw [if_pos c7] at H
        have c7b0 : decide (0 ≤ (ji6)) = true := decide_eq_true c7
        clear c7
        by_cases c8 : (ji6) < (x3_1.length : Int)
        ·rw [if_pos c8] at H
         have c8b0 : decide ((ji6) < (x3_1.length : Int)) = true := decide_eq_true c8
         clear c8
         by_cases c9 : (rd x3_1 (ji6)) = (wrap64 (-(rd l0 x9_1)))
         ·rw [if_pos c9] at H
          have c9b0 : ((rd x3_1 (ji6)) == (wrap64 (-(rd l0 x9_1)))) = true := beq_iff_eq.mpr c9
          have c9b1 : ((rd x3_1 (ji6)) != (wrap64 (-(rd l0 x9_1)))) = false := bne_eq_false_iff_eq.mpr c9
          clear c9
          by_cases c10 : (ji6) ≤ (x3_1.length : Int)
          ·rw [if_pos c10] at H
           have c10b0 := eq_true c10
           have c10b1 : decide ((ji6) ≤ (x3_1.length : Int)) = true := decide_eq_true c10
           clear c10
           obtain ⟨y278, hy278⟩ : ∃ y_ : List Int, y_ = (x3_1.take ((ji6) : Int).toNat) := ⟨_, rfl⟩
           replace H : (impl_reduced.l0 k1 y278 l0 (l0.length : Int) (wrap64 (x9_1 + 1))) = some r := by first | (rw [hy278]; with_reducible exact H) | (have H2_ := (Option.bind_some _ _).symm.trans H; rw [hy278]; with_reducible exact H2_) | (have H2_ := (Option.bind_some _ _).symm.trans H; with_reducible exact H2_) | with_reducible exact H | (rw [hy278]; exact H) | exact H
           have Ny278 := am_ hy278
           clear hy278
           have H' := am_ H
           clear H
           have p276 : 0 ≤ (x9_1 : Int) := of_decide_eq_true (by first | (with_reducible assumption) | assumption)
           have q276 : x9_1 < (l0.length : Int) := of_decide_eq_true (by first | (with_reducible assumption) | assumption)
           obtain ⟨ad276, e276, hx276_0⟩ := Kd.at_int HR0.out x9_1 p276 q276
           cases e276
           replace hx276_0 := (HB.out.cell (World.block_lt_of_cell? w _ hx276_0)).trans hx276_0
           replace p276 := eq_true p276
           replace q276 := eq_true q276
           obtain ⟨Ao11, co11, eo11⟩ := Kd.R_slice HO_3.out
           subst eo11
           have p277 : 0 ≤ ((ji6) : Int) := of_decide_eq_true (by first | (with_reducible assumption) | assumption)
           have q277 : (ji6) < (x3_1.length : Int) := of_decide_eq_true (by first | (with_reducible assumption) | assumption)
           obtain ⟨ad277, e277, hx277_0⟩ := Kd.at_int (Kd.R_reads' HO_3.out).2.2 (ji6) p277 q277
           cases e277
           replace p277 := eq_true p277
           replace q277 := eq_true q277
           have q12 : ((ji6) : Int) ≤ ((x3_1.length : Int) : Int) := of_decide_eq_true (by first | (with_reducible assumption) | assumption)
           obtain ⟨i012, hi012, _, hsz12, _⟩ := info_parts info2
           have hcut12 := cut_to (P := Try.prog) 39 2 .i64 Try.underlying39 hi012 (some ad277) x3_1.length co11 (ji6) (of_decide_eq_true (by first | (with_reducible assumption) | assumption)) q12 (Kd.R_reads' HO_3.out).2.1
           have hr12 := Kd.R_take (m := ((ji6) : Int).toNat) HO_3.out (by omega)
           have hy12 : y278.length = ((ji6) : Int).toNat := (by rw [Ny278.out, List.length_take]; omega)
           rw [← Ny278.out] at hr12
           rw [← hy12] at hr12 hcut12
           clear hy12 hi012 hsz12 HO_3
           have HO280 := am_ hr12
           clear hr12
           replace q12 := eq_true q12
           go_wp2
           go_roundg k1
           case measure => have := HK1.out; omega
           case rel => exact ⟨(y278), (wrap64 (x9_1 + 1)), (by first | rfl | (simp; done) | (simp [*]; done)), H', ⟨by have := HK1.out; omega⟩, ⟨rk_ HO280.out⟩, ⟨bb_ HB.out⟩⟩
          ·rw [if_neg c10] at H
           exact absurd H (by simp)
         ·rw [if_neg c9] at H
          have c9b0 : ((rd x3_1 (ji6)) == (wrap64 (-(rd l0 x9_1)))) = false := beq_eq_false_iff_ne.mpr c9
          have c9b1 : ((rd x3_1 (ji6)) != (wrap64 (-(rd l0 x9_1)))) = true := bne_iff_ne.mpr c9
          by_cases c13 : x3_1.length < 17592186044416
          ·rw [if_pos c13] at H
           have LMc13 := am_ c13
           clear c13
           obtain ⟨y281, hy281⟩ : ∃ y_ : List Int, y_ = (x3_1 ++ [rd l0 x9_1]) := ⟨_, rfl⟩
           replace H : (impl_reduced.l0 k1 y281 l0 (l0.length : Int) (wrap64 (x9_1 + 1))) = some r := by first | (rw [hy281]; with_reducible exact H) | (have H2_ := (Option.bind_some _ _).symm.trans H; rw [hy281]; with_reducible exact H2_) | (have H2_ := (Option.bind_some _ _).symm.trans H; with_reducible exact H2_) | with_reducible exact H | (rw [hy281]; exact H) | exact H
           have Ny281 := am_ hy281
           clear hy281
           have H' := am_ H
           clear H
           have p276 : 0 ≤ (x9_1 : Int) := of_decide_eq_true (by first | (with_reducible assumption) | assumption)
           have q276 : x9_1 < (l0.length : Int) := of_decide_eq_true (by first | (with_reducible assumption) | assumption)
           obtain ⟨ad276, e276, hx276_0⟩ := Kd.at_int HR0.out x9_1 p276 q276
           cases e276
           replace hx276_0 := (HB.out.cell (World.block_lt_of_cell? w _ hx276_0)).trans hx276_0
           replace p276 := eq_true p276
           replace q276 := eq_true q276
           obtain ⟨Ao14, co14, eo14⟩ := Kd.R_slice HO_3.out
           subst eo14
           have p277 : 0 ≤ ((ji6) : Int) := of_decide_eq_true (by first | (with_reducible assumption) | assumption)
           have q277 : (ji6) < (x3_1.length : Int) := of_decide_eq_true (by first | (with_reducible assumption) | assumption)
           obtain ⟨ad277, e277, hx277_0⟩ := Kd.at_int (Kd.R_reads' HO_3.out).2.2 (ji6) p277 q277
           cases e277
           replace p277 := eq_true p277
           replace q277 := eq_true q277
           go_wp2_with (first | ((with_reducible refine gate_builtin (b := .append) (xs := #[.tmp 31, .tmp 33]) rfl ?_); at_builtin; refine Kd.R_append (Kd.int .i64) (w0 := w) w.heap.size rfl (.tmp 31) (.tmp 33) 39 2 (.int .i64 0) 8 rfl Try.underlying39 info2 rfl (by decide) (by omega) (.slice (some ad277) x3_1.length co14) x3_1 (rd l0 x9_1) [.int .i64 (rd l0 x9_1)] (fun _ => True) (fun _ => False) rfl rfl ?aP (fun _ hk => hk.elim) ?aF ?aO ?aB ?aS ?aL ?_; (case aP => exact rfl); (case aB => exact (bb_ HB.out)); (case aF => exact (fun _ _ => trivial)); (case aO => exact (rk_ HO_3.out)); (case aS => exact (below_size (bb_ HB.out))); (case aL => have := LMc13.out; omega); intro v282 w15 ho hb hg hat; rw [← Ny281.out] at ho; have n0_ := am_ (hb); have n1_ := am_ (ho); clear HB HO_3; revert n0_ n1_; intro HB HO283; clear ho hb hg hat))
           go_roundg k1
           case measure => have := HK1.out; omega
           case rel => exact ⟨(y281), (wrap64 (x9_1 + 1)), (by first | rfl | (simp; done) | (simp [*]; done)), H', ⟨by have := HK1.out; omega⟩, ⟨rk_ HO283.out⟩, ⟨bb_ HB.out⟩⟩
          ·rw [if_neg c13] at H
           exact absurd H (by simp)
        ·rw [if_neg c8] at H
         exact absurd H (by simp)
       ·rw [if_neg c7] at H
        exact absurd H (by simp)
      ·rw [if_neg c5] at H
       have c5b0 : decide (0 < (x3_1.length : Int)) = false := decide_eq_false c5
       have c5b1 : decide (0 < x3_1.length) = false := decide_eq_false (by omega)
       clear c5
       by_cases c16 : x3_1.length < 17592186044416
       ·rw [if_pos c16] at H
        have LMc16 := am_ c16
        clear c16
        obtain ⟨y284, hy284⟩ : ∃ y_ : List Int, y_ = (x3_1 ++ [rd l0 x9_1]) := ⟨_, rfl⟩
        replace H : (impl_reduced.l0 k1 y284 l0 (l0.length : Int) (wrap64 (x9_1 + 1))) = some r := by first | (rw [hy284]; with_reducible exact H) | (have H2_ := (Option.bind_some _ _).symm.trans H; rw [hy284]; with_reducible exact H2_) | (have H2_ := (Option.bind_some _ _).symm.trans H; with_reducible exact H2_) | with_reducible exact H | (rw [hy284]; exact H) | exact H
        have Ny284 := am_ hy284
        clear hy284
        have H' := am_ H
        clear H
        have p276 : 0 ≤ (x9_1 : Int) := of_decide_eq_true (by first | (with_reducible assumption) | assumption)
        have q276 : x9_1 < (l0.length : Int) := of_decide_eq_true (by first | (with_reducible assumption) | assumption)
        obtain ⟨ad276, e276, hx276_0⟩ := Kd.at_int HR0.out x9_1 p276 q276
        cases e276
        replace hx276_0 := (HB.out.cell (World.block_lt_of_cell? w _ hx276_0)).trans hx276_0
        replace p276 := eq_true p276
        replace q276 := eq_true q276
        obtain ⟨Ao17, co17, eo17⟩ := Kd.R_slice HO_3.out
        subst eo17
        go_wp2_with (first | ((with_reducible refine gate_builtin (b := .append) (xs := #[.tmp 31, .tmp 33]) rfl ?_); at_builtin; refine Kd.R_append (Kd.int .i64) (w0 := w) w.heap.size rfl (.tmp 31) (.tmp 33) 39 2 (.int .i64 0) 8 rfl Try.underlying39 info2 rfl (by decide) (by omega) (.slice Ao17 x3_1.length co17) x3_1 (rd l0 x9_1) [.int .i64 (rd l0 x9_1)] (fun _ => True) (fun _ => False) rfl rfl ?aP (fun _ hk => hk.elim) ?aF ?aO ?aB ?aS ?aL ?_; (case aP => exact rfl); (case aB => exact (bb_ HB.out)); (case aF => exact (fun _ _ => trivial)); (case aO => exact (rk_ HO_3.out)); (case aS => exact (below_size (bb_ HB.out))); (case aL => have := LMc16.out; omega); intro v285 w18 ho hb hg hat; rw [← Ny284.out] at ho; have n0_ := am_ (hb); have n1_ := am_ (ho); clear HB HO_3; revert n0_ n1_; intro HB HO286; clear ho hb hg hat))
        go_roundg k1
        case measure => have := HK1.out; omega
        case rel => exact ⟨(y284), (wrap64 (x9_1 + 1)), (by first | rfl | (simp; done) | (simp [*]; done)), H', ⟨by have := HK1.out; omega⟩, ⟨rk_ HO286.out⟩, ⟨bb_ HB.out⟩⟩
       ·rw [if_neg c16] at H
        exact absurd H (by simp)
     ·rw [if_neg c4] at H
      exact absurd H (by simp)
    ·rw [if_neg c3] at H
     exact absurd H (by simp)
   ·rw [if_neg c2] at H
    have c2b0 : decide (x9_1 < (l0.length : Int)) = false := decide_eq_false c2
    clear c2
    obtain rfl := Option.some.inj H
    go_wp2
    go_ret
    exact ⟨_, by first | rfl | (simp [errW_none, errW_some] <;> rfl) | (simp [*, errW_none, errW_some] <;> rfl), by (with_reducible repeat (first | apply Kd.R_alloc | apply Kd.R_drewN | apply Kd.R_drew)); exact HO_3.out, bb_ HB.out⟩

end Go.Proofs.Ytbcdngjajjgmkaa.PFnExactStabilizerPresentation
