/- Written by this session's program out of the kit's print and this session's contracts. -/
import Derived.Test.YtpkocglndlmhkaaPFnExactAddLaurentx0
import Derived.Test.YtpkocglndlmhkaaPFnExactAddLaurentx1
import Derived.Test.YtpkocglndlmhkaaPFnExactAddLaurentx4
import Derived.Test.YtpkocglndlmhkaaPFnExactAddLaurentx6
import Derived.Test.YtpkocglndlmhkaaPFnExactAddLaurentx7
namespace Go.Proofs.Ytpkocglndlmhkaa.PFnExactAddLaurent
open Go.RowKit Go.Proofs.YtpkocglndlmhkaaW.PrintWords Go.Proofs.YtpkocglndlmhkaaW.PrintLast Go.Proofs.YtpkocglndlmhkaaW.PrintMore
attribute [local go_sem] max2_int min2_int max_two min_two max_three min_three max_four min_four   -- for this text's walks alone
set_option linter.unusedVariables false
set_option linter.unusedSimpArgs false

/-! ### laws_FnExactAddLaurent: function 3 -/
mutual
def laws_FnExactAddLaurent.j0 : Nat → Int → Int → Bool → Int → List Int → Int → List Int → Int → List Int → Int → List Int → Int → List Int → Int → List Int → Option (Bool)
 | 0, _, _, _, _, _, _, _, _, _, _, _, _, _, _, _ => none
 | k + 1, x7, x11, x53, x252000, x252001, x253000, x253001, x269000, x269001, x274000, x274001, x279000, x279001, x285000, x285001 => if x53 = true then (some false) else ((laws_toLaurent.f k x252000 x252001).bind fun bt286 => ((laws_eqLaurent.f k x274000 x274001 bt286.1 bt286.2).bind fun t290 => (if t290 = true then ((laws_toLaurent.f k x253000 x253001).bind fun bt291 => ((laws_eqLaurent.f k x279000 x279001 bt291.1 bt291.2).bind fun t295 => (if t295 = true then ((laws_markLaurent.f k x274000 x274001 1).bind fun bt296 => ((laws_markLaurent.f k x279000 x279001 bt296.1).bind fun bt298 => (if bt298.1 < 0 then (laws_FnExactAddLaurent.j1 k x7 true x252000 x252001 x253000 x253001 x269000 x269001 x285000 x285001) else ((laws_eqLaurent.f k x285000 x285001 x269000 x269001).bind fun t300 => (if t300 = true then (laws_FnExactAddLaurent.j1 k x7 (x11 != x7) x252000 x252001 x253000 x253001 x269000 x269001 x285000 x285001) else (laws_FnExactAddLaurent.j1 k x7 true x252000 x252001 x253000 x253001 x269000 x269001 x285000 x285001)))))) else (some false)))) else (some false))))
def laws_FnExactAddLaurent.j1 : Nat → Int → Bool → Int → List Int → Int → List Int → Int → List Int → Int → List Int → Option (Bool)
 | 0, _, _, _, _, _, _, _, _, _, _ => none
 | k + 1, x7, x82, x252000, x252001, x253000, x253001, x269000, x269001, x285000, x285001 => if x82 = true then (some false) else ((laws_markLaurent.f k x285000 x285001 1).bind fun bt301 => ((laws_heldLaurent.f k x285000 bt301.2 1).bind fun t303 => (if t303 < 0 then (some false) else (if t303 = bt301.1 then ((laws_toLaurent.f k x252000 x252001).bind fun bt304 => ((laws_toLaurent.f k x253000 x253001).bind fun bt308 => ((impl_AddLaurent.f k bt304.1 bt304.2 bt308.1 bt308.2).bind fun bt312 => ((laws_eqLaurent.f k bt312.1 bt312.2.1 x269000 x269001).bind fun t318 => (if t318 = true then (laws_FnExactAddLaurent.j2 k bt301.1 (bt312.2.2 != x7) x285000 bt301.2) else (laws_FnExactAddLaurent.j2 k bt301.1 true x285000 bt301.2)))))) else (some false)))))
def laws_FnExactAddLaurent.j2 : Nat → Int → Bool → Int → List Int → Option (Bool)
 | 0, _, _, _, _ => none
 | k + 1, x13, x110, x285000, x285001 => if x110 = true then (some false) else ((laws_heldLaurent.f k x285000 x285001 1).bind fun t319 => (if t319 < 0 then (some false) else (if t319 = x13 then (some true) else (some false))))
end
def laws_FnExactAddLaurent.f (k : Nat) (a0_0 : Int) (l0_1 : List Int) (a1_0 : Int) (l1_1 : List Int) : Option (Bool) := (laws_szLaurent.f a0_0 l0_1 1048576).bind fun t253 => (if t253 < 0 then (some true) else ((laws_szLaurent.f a1_0 l1_1 t253).bind fun t254 => (if t254 < 0 then (some true) else ((laws_toLaurent.f k a0_0 l0_1).bind fun bt255 => ((laws_toLaurent.f k a1_0 l1_1).bind fun bt259 => ((spec_AddLaurent.f k bt255.1 bt255.2 bt259.1 bt259.2).bind fun bt263 => ((laws_toLaurent.f k a0_0 l0_1).bind fun bt269 => ((laws_toLaurent.f k a1_0 l1_1).bind fun bt274 => ((impl_AddLaurent.f k bt269.1 bt269.2 bt274.1 bt274.2).bind fun bt279 => ((laws_eqLaurent.f k bt279.1 bt279.2.1 bt263.1 bt263.2.1).bind fun t285 => (if t285 = true then (laws_FnExactAddLaurent.j0 k bt263.2.2 bt279.2.2 (bt279.2.2 != bt263.2.2) a0_0 l0_1 a1_0 l1_1 bt263.1 bt263.2.1 bt269.1 bt269.2 bt274.1 bt274.2 bt279.1 bt279.2.1) else (laws_FnExactAddLaurent.j0 k bt263.2.2 bt279.2.2 true a0_0 l0_1 a1_0 l1_1 bt263.1 bt263.2.1 bt269.1 bt269.2 bt274.1 bt274.2 bt279.1 bt279.2.1))))))))))))
theorem laws_FnExactAddLaurent.mono_l : ∀ k, (∀ y0 y1 y2 y3 y4 y5 y6 y7 y8 y9 y10 y11 y12 y13 y14, LeO (laws_FnExactAddLaurent.j0 k y0 y1 y2 y3 y4 y5 y6 y7 y8 y9 y10 y11 y12 y13 y14) (laws_FnExactAddLaurent.j0 (k + 1) y0 y1 y2 y3 y4 y5 y6 y7 y8 y9 y10 y11 y12 y13 y14)) ∧ (∀ y0 y1 y2 y3 y4 y5 y6 y7 y8 y9, LeO (laws_FnExactAddLaurent.j1 k y0 y1 y2 y3 y4 y5 y6 y7 y8 y9) (laws_FnExactAddLaurent.j1 (k + 1) y0 y1 y2 y3 y4 y5 y6 y7 y8 y9)) ∧ (∀ y0 y1 y2 y3, LeO (laws_FnExactAddLaurent.j2 k y0 y1 y2 y3) (laws_FnExactAddLaurent.j2 (k + 1) y0 y1 y2 y3))
 | 0 => ⟨fun _ _ _ _ _ _ _ _ _ _ _ _ _ _ _ r h => by simp [laws_FnExactAddLaurent.j0] at h, fun _ _ _ _ _ _ _ _ _ _ r h => by simp [laws_FnExactAddLaurent.j1] at h, fun _ _ _ _ r h => by simp [laws_FnExactAddLaurent.j2] at h⟩
 | k + 1 => by
  obtain ⟨ih0, ih1, ih2⟩ := laws_FnExactAddLaurent.mono_l k
  refine ⟨?_, ?_, ?_⟩
  ·intro y0 y1 y2 y3 y4 y5 y6 y7 y8 y9 y10 y11 y12 y13 y14
   unfold laws_FnExactAddLaurent.j0
   repeat' first
   | (with_reducible exact ih0 _ _ _ _ _ _ _ _ _ _ _ _ _ _ _)
   | (with_reducible exact ih1 _ _ _ _ _ _ _ _ _ _)
   | (with_reducible exact ih2 _ _ _ _)
   | (with_reducible exact impl_AddLaurent.mono _ _ _ _ _)
   | (with_reducible exact laws_eqLaurent.mono _ _ _ _ _)
   | (with_reducible exact laws_heldLaurent.mono _ _ _ _)
   | (with_reducible exact laws_markLaurent.mono _ _ _ _)
   | (with_reducible exact laws_toLaurent.mono _ _ _)
   | (with_reducible exact spec_AddLaurent.mono _ _ _ _ _)
   | (with_reducible exact LeO.refl _)
   | (with_reducible exact LeO.none _)
   | (with_reducible refine LeO.ite ?_ ?_)
   | (with_reducible refine LeO.bind ?_ (fun _ => ?_))
   | exact ih0 _ _ _ _ _ _ _ _ _ _ _ _ _ _ _
   | exact ih1 _ _ _ _ _ _ _ _ _ _
   | exact ih2 _ _ _ _
   | exact impl_AddLaurent.mono _ _ _ _ _
   | exact laws_eqLaurent.mono _ _ _ _ _
   | exact laws_heldLaurent.mono _ _ _ _
   | exact laws_markLaurent.mono _ _ _ _
   | exact laws_toLaurent.mono _ _ _
   | exact spec_AddLaurent.mono _ _ _ _ _
   | exact LeO.none _
   | refine LeO.ite ?_ ?_
   | refine LeO.bind ?_ (fun _ => ?_)
  ·intro y0 y1 y2 y3 y4 y5 y6 y7 y8 y9
   unfold laws_FnExactAddLaurent.j1
   repeat' first
   | (with_reducible exact ih0 _ _ _ _ _ _ _ _ _ _ _ _ _ _ _)
   | (with_reducible exact ih1 _ _ _ _ _ _ _ _ _ _)
   | (with_reducible exact ih2 _ _ _ _)
   | (with_reducible exact impl_AddLaurent.mono _ _ _ _ _)
   | (with_reducible exact laws_eqLaurent.mono _ _ _ _ _)
   | (with_reducible exact laws_heldLaurent.mono _ _ _ _)
   | (with_reducible exact laws_markLaurent.mono _ _ _ _)
   | (with_reducible exact laws_toLaurent.mono _ _ _)
   | (with_reducible exact spec_AddLaurent.mono _ _ _ _ _)
   | (with_reducible exact LeO.refl _)
   | (with_reducible exact LeO.none _)
   | (with_reducible refine LeO.ite ?_ ?_)
   | (with_reducible refine LeO.bind ?_ (fun _ => ?_))
   | exact ih0 _ _ _ _ _ _ _ _ _ _ _ _ _ _ _
   | exact ih1 _ _ _ _ _ _ _ _ _ _
   | exact ih2 _ _ _ _
   | exact impl_AddLaurent.mono _ _ _ _ _
   | exact laws_eqLaurent.mono _ _ _ _ _
   | exact laws_heldLaurent.mono _ _ _ _
   | exact laws_markLaurent.mono _ _ _ _
   | exact laws_toLaurent.mono _ _ _
   | exact spec_AddLaurent.mono _ _ _ _ _
   | exact LeO.none _
   | refine LeO.ite ?_ ?_
   | refine LeO.bind ?_ (fun _ => ?_)
  ·intro y0 y1 y2 y3
   unfold laws_FnExactAddLaurent.j2
   repeat' first
   | (with_reducible exact ih0 _ _ _ _ _ _ _ _ _ _ _ _ _ _ _)
   | (with_reducible exact ih1 _ _ _ _ _ _ _ _ _ _)
   | (with_reducible exact ih2 _ _ _ _)
   | (with_reducible exact impl_AddLaurent.mono _ _ _ _ _)
   | (with_reducible exact laws_eqLaurent.mono _ _ _ _ _)
   | (with_reducible exact laws_heldLaurent.mono _ _ _ _)
   | (with_reducible exact laws_markLaurent.mono _ _ _ _)
   | (with_reducible exact laws_toLaurent.mono _ _ _)
   | (with_reducible exact spec_AddLaurent.mono _ _ _ _ _)
   | (with_reducible exact LeO.refl _)
   | (with_reducible exact LeO.none _)
   | (with_reducible refine LeO.ite ?_ ?_)
   | (with_reducible refine LeO.bind ?_ (fun _ => ?_))
   | exact ih0 _ _ _ _ _ _ _ _ _ _ _ _ _ _ _
   | exact ih1 _ _ _ _ _ _ _ _ _ _
   | exact ih2 _ _ _ _
   | exact impl_AddLaurent.mono _ _ _ _ _
   | exact laws_eqLaurent.mono _ _ _ _ _
   | exact laws_heldLaurent.mono _ _ _ _
   | exact laws_markLaurent.mono _ _ _ _
   | exact laws_toLaurent.mono _ _ _
   | exact spec_AddLaurent.mono _ _ _ _ _
   | exact LeO.none _
   | refine LeO.ite ?_ ?_
   | refine LeO.bind ?_ (fun _ => ?_)
theorem laws_FnExactAddLaurent.mono : ∀ a0 a1 a2 a3 k, LeO (laws_FnExactAddLaurent.f k a0 a1 a2 a3) (laws_FnExactAddLaurent.f (k + 1) a0 a1 a2 a3) := by
 intro a0 a1 a2 a3 k
 obtain ⟨ih0, ih1, ih2⟩ := laws_FnExactAddLaurent.mono_l k
 unfold laws_FnExactAddLaurent.f
 repeat' first
   | (with_reducible exact ih0 _ _ _ _ _ _ _ _ _ _ _ _ _ _ _)
   | (with_reducible exact ih1 _ _ _ _ _ _ _ _ _ _)
   | (with_reducible exact ih2 _ _ _ _)
   | (with_reducible exact impl_AddLaurent.mono _ _ _ _ _)
   | (with_reducible exact laws_eqLaurent.mono _ _ _ _ _)
   | (with_reducible exact laws_heldLaurent.mono _ _ _ _)
   | (with_reducible exact laws_markLaurent.mono _ _ _ _)
   | (with_reducible exact laws_toLaurent.mono _ _ _)
   | (with_reducible exact spec_AddLaurent.mono _ _ _ _ _)
   | (with_reducible exact LeO.refl _)
   | (with_reducible exact LeO.none _)
   | (with_reducible refine LeO.ite ?_ ?_)
   | (with_reducible refine LeO.bind ?_ (fun _ => ?_))
   | exact ih0 _ _ _ _ _ _ _ _ _ _ _ _ _ _ _
   | exact ih1 _ _ _ _ _ _ _ _ _ _
   | exact ih2 _ _ _ _
   | exact impl_AddLaurent.mono _ _ _ _ _
   | exact laws_eqLaurent.mono _ _ _ _ _
   | exact laws_heldLaurent.mono _ _ _ _
   | exact laws_markLaurent.mono _ _ _ _
   | exact laws_toLaurent.mono _ _ _
   | exact spec_AddLaurent.mono _ _ _ _ _
   | exact LeO.none _
   | refine LeO.ite ?_ ?_
   | refine LeO.bind ?_ (fun _ => ?_)
def laws_FnExactAddLaurent.T8 : Bool × List (List Nat × List Nat) := (true, [([], []), ([0], [0]), ([], []), ([2, 1], [2]), ([1, 3, 3], [1, 3]), ([4], [4]), ([5], [5]), ([5], [5]), ([], []), ([8, 6, 4, 0, 1, 2, 3, 4, 5, 6, 8], [6, 8]), ([7, 9, 0, 1, 2, 3, 4, 5, 6, 7, 8, 9], [7])])
def laws_FnExactAddLaurent.B8 : List Nat := [0, 1, 0, 7, 15, 31, 63, 63, 0, 383, 1023]
theorem laws_FnExactAddLaurent.tab8 : rtab .any (opsOf Try.f3 8) = laws_FnExactAddLaurent.T8 := by kernel_rfl
theorem laws_FnExactAddLaurent.bits8 : waitsOk laws_FnExactAddLaurent.T8.2 laws_FnExactAddLaurent.B8 = true := by kernel_rfl
def laws_FnExactAddLaurent.T31 : Bool × List (List Nat × List Nat) := (true, [([], []), ([0], [0]), ([], []), ([2, 1], [2]), ([1, 3, 3], [1, 3]), ([4], [4]), ([5], [5]), ([5], [5]), ([], []), ([8, 6, 4, 0, 1, 2, 3, 4, 5, 6, 8], [6, 8]), ([7, 9, 0, 1, 2, 3, 4, 5, 6, 7, 8, 9], [7])])
def laws_FnExactAddLaurent.B31 : List Nat := [0, 1, 0, 7, 15, 31, 63, 63, 0, 383, 1023]
theorem laws_FnExactAddLaurent.tab31 : rtab .any (opsOf Try.f3 31) = laws_FnExactAddLaurent.T31 := by kernel_rfl
theorem laws_FnExactAddLaurent.bits31 : waitsOk laws_FnExactAddLaurent.T31.2 laws_FnExactAddLaurent.B31 = true := by kernel_rfl
set_option maxHeartbeats 8000000 in
set_option maxRecDepth 100000 in
theorem laws_FnExactAddLaurent.calls (k : Nat) (a0_0 : Int) (A0_1 : Option Addr) (c0_1 : Nat) (l0_1 : List Int) (a1_0 : Int) (A1_1 : Option Addr) (c1_1 : Nat) (l1_1 : List Int) (r : Bool) (w : World) (hr0_1 : Kd.C (Kd.int .i64) w A0_1 l0_1.length l0_1) (hc0_1 : l0_1.length ≤ c0_1) (hr1_1 : Kd.C (Kd.int .i64) w A1_1 l1_1.length l1_1) (hc1_1 : l1_1.length ≤ c1_1) (h : laws_FnExactAddLaurent.f k a0_0 l0_1 a1_0 l1_1 = some r) (HTRUE_ : Aside0 (r = true)) :
  Calls Try.prog 3 #[.agg #[.int .i64 a0_0, .slice A0_1 l0_1.length c0_1], .agg #[.int .i64 a1_0, .slice A1_1 l1_1.length c1_1]] w fun e w' => e = .returned (.bool r) ∧ Below w.heap.size w w' := by
 have hu24 := Try.underlying24
 have hu26 := Try.underlying26
 have HR0_1 := am_ hr0_1
 have HC0_1 := am_ hc0_1
 clear hr0_1 hc0_1
 have HR1_1 := am_ hr1_1
 have HC1_1 := am_ hc1_1
 clear hr1_1 hc1_1
 have HB := am_ (Below.refl w.heap.size w)
 have H : ((laws_szLaurent.f a0_0 l0_1 1048576).bind fun t253 => (if t253 < 0 then (some true) else ((laws_szLaurent.f a1_0 l1_1 t253).bind fun t254 => (if t254 < 0 then (some true) else ((laws_toLaurent.f k a0_0 l0_1).bind fun bt255 => ((laws_toLaurent.f k a1_0 l1_1).bind fun bt259 => ((spec_AddLaurent.f k bt255.1 bt255.2 bt259.1 bt259.2).bind fun bt263 => ((laws_toLaurent.f k a0_0 l0_1).bind fun bt269 => ((laws_toLaurent.f k a1_0 l1_1).bind fun bt274 => ((impl_AddLaurent.f k bt269.1 bt269.2 bt274.1 bt274.2).bind fun bt279 => ((laws_eqLaurent.f k bt279.1 bt279.2.1 bt263.1 bt263.2.1).bind fun t285 => (if t285 = true then (laws_FnExactAddLaurent.j0 k bt263.2.2 bt279.2.2 (bt279.2.2 != bt263.2.2) a0_0 l0_1 a1_0 l1_1 bt263.1 bt263.2.1 bt269.1 bt269.2 bt274.1 bt274.2 bt279.1 bt279.2.1) else (laws_FnExactAddLaurent.j0 k bt263.2.2 bt279.2.2 true a0_0 l0_1 a1_0 l1_1 bt263.1 bt263.2.1 bt269.1 bt269.2 bt274.1 bt274.2 bt279.1 bt279.2.1))))))))))))) = some r := h
 clear h
 replace H := Option.bind_eq_some_iff.mp H
 obtain ⟨t253, A30, H⟩ := H
 replace H : (if t253 < 0 then (some true) else ((laws_szLaurent.f a1_0 l1_1 t253).bind fun t254 => (if t254 < 0 then (some true) else ((laws_toLaurent.f k a0_0 l0_1).bind fun bt255 => ((laws_toLaurent.f k a1_0 l1_1).bind fun bt259 => ((spec_AddLaurent.f k bt255.1 bt255.2 bt259.1 bt259.2).bind fun bt263 => ((laws_toLaurent.f k a0_0 l0_1).bind fun bt269 => ((laws_toLaurent.f k a1_0 l1_1).bind fun bt274 => ((impl_AddLaurent.f k bt269.1 bt269.2 bt274.1 bt274.2).bind fun bt279 => ((laws_eqLaurent.f k bt279.1 bt279.2.1 bt263.1 bt263.2.1).bind fun t285 => (if t285 = true then (laws_FnExactAddLaurent.j0 k bt263.2.2 bt279.2.2 (bt279.2.2 != bt263.2.2) a0_0 l0_1 a1_0 l1_1 bt263.1 bt263.2.1 bt269.1 bt269.2 bt274.1 bt274.2 bt279.1 bt279.2.1) else (laws_FnExactAddLaurent.j0 k bt263.2.2 bt279.2.2 true a0_0 l0_1 a1_0 l1_1 bt263.1 bt263.2.1 bt269.1 bt269.2 bt274.1 bt274.2 bt279.1 bt279.2.1)))))))))))) = some r := H
 have A3 := am_ A30
 clear A30
 by_cases c4 : t253 < 0
 ·rw [if_pos c4] at H
  have c4b0 : decide (t253 < 0) = true := decide_eq_true c4
  clear c4
  obtain rfl := Option.some.inj H
  go_enter Try.func3, Try.ntmps3
  go_wp2_with (first | ((with_reducible refine gate_dst (N := 2) rfl ?_); refine box_event ?hg (N := 2) ?hd (cs := #[.int .i64 a0_0, .slice A0_1 l0_1.length c0_1]) (t := 24) ?hr ?_; (case hd => rfl); (case hg => rfl); (case hr => first | (go_simp; done) | (go_simp; rfl)); intro gb251 hg w5 hbox hb; have n0_ := am_ (below_step (bb_ HB.out) hb); have n1_ := am_ (hbox); have n2_ := am_ ((by rw [hg]; exact (below_size (bb_ HB.out)) : w.heap.size ≤ gb251)); have n3_ := am_ ((by rw [hg]; exact (below_size (bb_ HB.out)) : w.heap.size ≤ gb251)); clear HB; revert n0_ n1_ n2_ n3_; intro HB BK251 GW251 GE251; clear hb hbox hg) | ((with_reducible refine gate_dst (N := 3) rfl ?_); refine box_event ?hg (N := 3) ?hd (cs := #[.int .i64 a1_0, .slice A1_1 l1_1.length c1_1]) (t := 24) ?hr ?_; (case hd => rfl); (case hg => rfl); (case hr => first | (go_simp; done) | (go_simp; rfl)); intro gb252 hg w6 hbox hb; have n0_ := am_ (bw_ BK251 hb); have n1_ := am_ (below_step (bb_ HB.out) hb); have n2_ := am_ (hbox); have n3_ := am_ ((by rw [hg]; exact (below_size (bb_ HB.out)) : w.heap.size ≤ gb252)); have n4_ := am_ ((by rw [hg]; exact (below_size (bb_ HB.out)) : w.heap.size ≤ gb252)); have n5_ := am_ (nl_ BK251 hg); have n6_ := am_ (ng_ BK251 hg); clear BK251 HB; revert n0_ n1_ n2_ n3_ n4_ n5_ n6_; intro BK251 HB BK252 GW252 GE252 NB251_252 NB252_251; clear hb hbox hg; have hnb7 := NB251_252.out; have hnc7 := NB252_251.out; obtain ⟨hcz8_0, hcz8_1, hfz8_0, hfz8_1⟩ := bx2_ BK251) | ((with_reducible refine gate_callee (f := 5) rfl ?_); refine goesL_ (some 19) rfl rfl Try.func5 (by kernel_rfl) rfl #[.agg #[.int .i64 a0_0, .slice A0_1 l0_1.length c0_1], .int .i64 1048576] rfl lm_ ?_; (with_reducible refine (laws_szLaurent.calls a0_0 _ _ l0_1 1048576 t253 _ ?side1 ?side2 A3.out).mono ?_); (case side1 => repeat (first | exact (Kd.C_below HR0_1.out HB.out) | (with_reducible refine Kd.C_alloc ?_ _) | (with_reducible refine Kd.C_drewN ?_ _) | (with_reducible refine Kd.C_drew ?_))); (case side2 => exact HC0_1.out); rintro e w9 ⟨rfl, hb⟩; refine ⟨_, rfl, ?_⟩; have n0_ := am_ (bw_ BK251 hb); have n1_ := am_ (bw_ BK252 hb); have n2_ := am_ (below_step (bb_ HB.out) hb); clear BK251 BK252 HB; revert n0_ n1_ n2_; intro BK251 BK252 HB; (try clear hb); (try clear hb2); (try clear hk); (try clear hi)))
  go_ret
  exact ⟨by first | rfl | (simp [errW_none, errW_some] <;> rfl) | (simp [*, errW_none, errW_some] <;> rfl), bb_ HB.out⟩
 ·rw [if_neg c4] at H
  have c4b0 : decide (t253 < 0) = false := decide_eq_false c4
  clear c4
  replace H := Option.bind_eq_some_iff.mp H
  obtain ⟨t254, A100, H⟩ := H
  replace H : (if t254 < 0 then (some true) else ((laws_toLaurent.f k a0_0 l0_1).bind fun bt255 => ((laws_toLaurent.f k a1_0 l1_1).bind fun bt259 => ((spec_AddLaurent.f k bt255.1 bt255.2 bt259.1 bt259.2).bind fun bt263 => ((laws_toLaurent.f k a0_0 l0_1).bind fun bt269 => ((laws_toLaurent.f k a1_0 l1_1).bind fun bt274 => ((impl_AddLaurent.f k bt269.1 bt269.2 bt274.1 bt274.2).bind fun bt279 => ((laws_eqLaurent.f k bt279.1 bt279.2.1 bt263.1 bt263.2.1).bind fun t285 => (if t285 = true then (laws_FnExactAddLaurent.j0 k bt263.2.2 bt279.2.2 (bt279.2.2 != bt263.2.2) a0_0 l0_1 a1_0 l1_1 bt263.1 bt263.2.1 bt269.1 bt269.2 bt274.1 bt274.2 bt279.1 bt279.2.1) else (laws_FnExactAddLaurent.j0 k bt263.2.2 bt279.2.2 true a0_0 l0_1 a1_0 l1_1 bt263.1 bt263.2.1 bt269.1 bt269.2 bt274.1 bt274.2 bt279.1 bt279.2.1)))))))))) = some r := H
  have A10 := am_ A100
  clear A100
  by_cases c11 : t254 < 0
  ·rw [if_pos c11] at H
   have c11b0 : decide (t254 < 0) = true := decide_eq_true c11
   clear c11
   obtain rfl := Option.some.inj H
   go_enter Try.func3, Try.ntmps3
   go_wp2_with (first | ((with_reducible refine gate_dst (N := 2) rfl ?_); refine box_event ?hg (N := 2) ?hd (cs := #[.int .i64 a0_0, .slice A0_1 l0_1.length c0_1]) (t := 24) ?hr ?_; (case hd => rfl); (case hg => rfl); (case hr => first | (go_simp; done) | (go_simp; rfl)); intro gb251 hg w12 hbox hb; have n0_ := am_ (below_step (bb_ HB.out) hb); have n1_ := am_ (hbox); have n2_ := am_ ((by rw [hg]; exact (below_size (bb_ HB.out)) : w.heap.size ≤ gb251)); have n3_ := am_ ((by rw [hg]; exact (below_size (bb_ HB.out)) : w.heap.size ≤ gb251)); clear HB; revert n0_ n1_ n2_ n3_; intro HB BK251 GW251 GE251; clear hb hbox hg) | ((with_reducible refine gate_dst (N := 3) rfl ?_); refine box_event ?hg (N := 3) ?hd (cs := #[.int .i64 a1_0, .slice A1_1 l1_1.length c1_1]) (t := 24) ?hr ?_; (case hd => rfl); (case hg => rfl); (case hr => first | (go_simp; done) | (go_simp; rfl)); intro gb252 hg w13 hbox hb; have n0_ := am_ (bw_ BK251 hb); have n1_ := am_ (below_step (bb_ HB.out) hb); have n2_ := am_ (hbox); have n3_ := am_ ((by rw [hg]; exact (below_size (bb_ HB.out)) : w.heap.size ≤ gb252)); have n4_ := am_ ((by rw [hg]; exact (below_size (bb_ HB.out)) : w.heap.size ≤ gb252)); have n5_ := am_ (nl_ BK251 hg); have n6_ := am_ (ng_ BK251 hg); clear BK251 HB; revert n0_ n1_ n2_ n3_ n4_ n5_ n6_; intro BK251 HB BK252 GW252 GE252 NB251_252 NB252_251; clear hb hbox hg; have hnb14 := NB251_252.out; have hnc14 := NB252_251.out; obtain ⟨hcz15_0, hcz15_1, hfz15_0, hfz15_1⟩ := bx2_ BK251) | ((with_reducible refine gate_callee (f := 5) rfl ?_); refine goesL_ (some 19) rfl rfl Try.func5 (by kernel_rfl) rfl #[.agg #[.int .i64 a0_0, .slice A0_1 l0_1.length c0_1], .int .i64 1048576] rfl lm_ ?_; (with_reducible refine (laws_szLaurent.calls a0_0 _ _ l0_1 1048576 t253 _ ?side1 ?side2 A3.out).mono ?_); (case side1 => repeat (first | exact (Kd.C_below HR0_1.out HB.out) | (with_reducible refine Kd.C_alloc ?_ _) | (with_reducible refine Kd.C_drewN ?_ _) | (with_reducible refine Kd.C_drew ?_))); (case side2 => exact HC0_1.out); rintro e w16 ⟨rfl, hb⟩; refine ⟨_, rfl, ?_⟩; have n0_ := am_ (bw_ BK251 hb); have n1_ := am_ (bw_ BK252 hb); have n2_ := am_ (below_step (bb_ HB.out) hb); clear BK251 BK252 HB; revert n0_ n1_ n2_; intro BK251 BK252 HB; (try clear hb); (try clear hb2); (try clear hk); (try clear hi); obtain ⟨hcz17_0, hcz17_1, hfz17_0, hfz17_1⟩ := bx2_ BK252) | ((with_reducible refine gate_callee (f := 5) rfl ?_); refine goesL_ (some 24) rfl rfl Try.func5 (by kernel_rfl) rfl #[.agg #[.int .i64 a1_0, .slice A1_1 l1_1.length c1_1], .int .i64 t253] rfl lm_ ?_; (with_reducible refine (laws_szLaurent.calls a1_0 _ _ l1_1 t253 t254 _ ?side1 ?side2 A10.out).mono ?_); (case side1 => repeat (first | exact (Kd.C_below HR1_1.out HB.out) | (with_reducible refine Kd.C_alloc ?_ _) | (with_reducible refine Kd.C_drewN ?_ _) | (with_reducible refine Kd.C_drew ?_))); (case side2 => exact HC1_1.out); rintro e w18 ⟨rfl, hb⟩; refine ⟨_, rfl, ?_⟩; have n0_ := am_ (bw_ BK251 hb); have n1_ := am_ (bw_ BK252 hb); have n2_ := am_ (below_step (bb_ HB.out) hb); clear BK251 BK252 HB; revert n0_ n1_ n2_; intro BK251 BK252 HB; (try clear hb); (try clear hb2); (try clear hk); (try clear hi)))
   go_ret
   exact ⟨by first | rfl | (simp [errW_none, errW_some] <;> rfl) | (simp [*, errW_none, errW_some] <;> rfl), bb_ HB.out⟩
  ·rw [if_neg c11] at H
   have c11b0 : decide (t254 < 0) = false := decide_eq_false c11
   clear c11
   replace H := Option.bind_eq_some_iff.mp H
   obtain ⟨⟨t255, t256⟩, A190, H⟩ := H
   replace H : ((laws_toLaurent.f k a1_0 l1_1).bind fun bt259 => ((spec_AddLaurent.f k t255 t256 bt259.1 bt259.2).bind fun bt263 => ((laws_toLaurent.f k a0_0 l0_1).bind fun bt269 => ((laws_toLaurent.f k a1_0 l1_1).bind fun bt274 => ((impl_AddLaurent.f k bt269.1 bt269.2 bt274.1 bt274.2).bind fun bt279 => ((laws_eqLaurent.f k bt279.1 bt279.2.1 bt263.1 bt263.2.1).bind fun t285 => (if t285 = true then (laws_FnExactAddLaurent.j0 k bt263.2.2 bt279.2.2 (bt279.2.2 != bt263.2.2) a0_0 l0_1 a1_0 l1_1 bt263.1 bt263.2.1 bt269.1 bt269.2 bt274.1 bt274.2 bt279.1 bt279.2.1) else (laws_FnExactAddLaurent.j0 k bt263.2.2 bt279.2.2 true a0_0 l0_1 a1_0 l1_1 bt263.1 bt263.2.1 bt269.1 bt269.2 bt274.1 bt274.2 bt279.1 bt279.2.1)))))))) = some r := H
   have A19 := am_ A190
   clear A190
   replace H := Option.bind_eq_some_iff.mp H
   obtain ⟨⟨t259, t260⟩, A200, H⟩ := H
   replace H : ((spec_AddLaurent.f k t255 t256 t259 t260).bind fun bt263 => ((laws_toLaurent.f k a0_0 l0_1).bind fun bt269 => ((laws_toLaurent.f k a1_0 l1_1).bind fun bt274 => ((impl_AddLaurent.f k bt269.1 bt269.2 bt274.1 bt274.2).bind fun bt279 => ((laws_eqLaurent.f k bt279.1 bt279.2.1 bt263.1 bt263.2.1).bind fun t285 => (if t285 = true then (laws_FnExactAddLaurent.j0 k bt263.2.2 bt279.2.2 (bt279.2.2 != bt263.2.2) a0_0 l0_1 a1_0 l1_1 bt263.1 bt263.2.1 bt269.1 bt269.2 bt274.1 bt274.2 bt279.1 bt279.2.1) else (laws_FnExactAddLaurent.j0 k bt263.2.2 bt279.2.2 true a0_0 l0_1 a1_0 l1_1 bt263.1 bt263.2.1 bt269.1 bt269.2 bt274.1 bt274.2 bt279.1 bt279.2.1))))))) = some r := H
   have A20 := am_ A200
   clear A200
   replace H := Option.bind_eq_some_iff.mp H
   obtain ⟨⟨t263, t264, t267⟩, A210, H⟩ := H
   replace H : ((laws_toLaurent.f k a0_0 l0_1).bind fun bt269 => ((laws_toLaurent.f k a1_0 l1_1).bind fun bt274 => ((impl_AddLaurent.f k bt269.1 bt269.2 bt274.1 bt274.2).bind fun bt279 => ((laws_eqLaurent.f k bt279.1 bt279.2.1 t263 t264).bind fun t285 => (if t285 = true then (laws_FnExactAddLaurent.j0 k t267 bt279.2.2 (bt279.2.2 != t267) a0_0 l0_1 a1_0 l1_1 t263 t264 bt269.1 bt269.2 bt274.1 bt274.2 bt279.1 bt279.2.1) else (laws_FnExactAddLaurent.j0 k t267 bt279.2.2 true a0_0 l0_1 a1_0 l1_1 t263 t264 bt269.1 bt269.2 bt274.1 bt274.2 bt279.1 bt279.2.1)))))) = some r := H
   have A21 := am_ A210
   clear A210
   replace H := Option.bind_eq_some_iff.mp H
   obtain ⟨⟨t269, t270⟩, A220, H⟩ := H
   replace H : ((laws_toLaurent.f k a1_0 l1_1).bind fun bt274 => ((impl_AddLaurent.f k t269 t270 bt274.1 bt274.2).bind fun bt279 => ((laws_eqLaurent.f k bt279.1 bt279.2.1 t263 t264).bind fun t285 => (if t285 = true then (laws_FnExactAddLaurent.j0 k t267 bt279.2.2 (bt279.2.2 != t267) a0_0 l0_1 a1_0 l1_1 t263 t264 t269 t270 bt274.1 bt274.2 bt279.1 bt279.2.1) else (laws_FnExactAddLaurent.j0 k t267 bt279.2.2 true a0_0 l0_1 a1_0 l1_1 t263 t264 t269 t270 bt274.1 bt274.2 bt279.1 bt279.2.1))))) = some r := H
   have A22 := am_ A220
   clear A220
   replace H := Option.bind_eq_some_iff.mp H
   obtain ⟨⟨t274, t275⟩, A230, H⟩ := H
   replace H : ((impl_AddLaurent.f k t269 t270 t274 t275).bind fun bt279 => ((laws_eqLaurent.f k bt279.1 bt279.2.1 t263 t264).bind fun t285 => (if t285 = true then (laws_FnExactAddLaurent.j0 k t267 bt279.2.2 (bt279.2.2 != t267) a0_0 l0_1 a1_0 l1_1 t263 t264 t269 t270 t274 t275 bt279.1 bt279.2.1) else (laws_FnExactAddLaurent.j0 k t267 bt279.2.2 true a0_0 l0_1 a1_0 l1_1 t263 t264 t269 t270 t274 t275 bt279.1 bt279.2.1)))) = some r := H
   have A23 := am_ A230
   clear A230
   replace H := Option.bind_eq_some_iff.mp H
   obtain ⟨⟨t279, t280, t283⟩, A240, H⟩ := H
   replace H : ((laws_eqLaurent.f k t279 t280 t263 t264).bind fun t285 => (if t285 = true then (laws_FnExactAddLaurent.j0 k t267 t283 (t283 != t267) a0_0 l0_1 a1_0 l1_1 t263 t264 t269 t270 t274 t275 t279 t280) else (laws_FnExactAddLaurent.j0 k t267 t283 true a0_0 l0_1 a1_0 l1_1 t263 t264 t269 t270 t274 t275 t279 t280))) = some r := H
   have A24 := am_ A240
   clear A240
   have HC25 := am_ H
   clear H
   go_enter Try.func3, Try.ntmps3
   try go_wp2_with (first | ((with_reducible refine gate_dst (N := 2) rfl ?_); refine box_event ?hg (N := 2) ?hd (cs := #[.int .i64 a0_0, .slice A0_1 l0_1.length c0_1]) (t := 24) ?hr ?_; (case hd => rfl); (case hg => rfl); (case hr => first | (go_simp; done) | (go_simp; rfl)); intro gb251 hg w26 hbox hb; have n0_ := am_ (below_step (bb_ HB.out) hb); have n1_ := am_ (hbox); have n2_ := am_ ((by rw [hg]; exact (below_size (bb_ HB.out)) : w.heap.size ≤ gb251)); have n3_ := am_ ((by rw [hg]; exact (below_size (bb_ HB.out)) : w.heap.size ≤ gb251)); clear HB; revert n0_ n1_ n2_ n3_; intro HB BK251 GW251 GE251; clear hb hbox hg) | ((with_reducible refine gate_dst (N := 3) rfl ?_); refine box_event ?hg (N := 3) ?hd (cs := #[.int .i64 a1_0, .slice A1_1 l1_1.length c1_1]) (t := 24) ?hr ?_; (case hd => rfl); (case hg => rfl); (case hr => first | (go_simp; done) | (go_simp; rfl)); intro gb252 hg w27 hbox hb; have n0_ := am_ (bw_ BK251 hb); have n1_ := am_ (below_step (bb_ HB.out) hb); have n2_ := am_ (hbox); have n3_ := am_ ((by rw [hg]; exact (below_size (bb_ HB.out)) : w.heap.size ≤ gb252)); have n4_ := am_ ((by rw [hg]; exact (below_size (bb_ HB.out)) : w.heap.size ≤ gb252)); have n5_ := am_ (nl_ BK251 hg); have n6_ := am_ (ng_ BK251 hg); clear BK251 HB; revert n0_ n1_ n2_ n3_ n4_ n5_ n6_; intro BK251 HB BK252 GW252 GE252 NB251_252 NB252_251; clear hb hbox hg; have hnb28 := NB251_252.out; have hnc28 := NB252_251.out; obtain ⟨hcz29_0, hcz29_1, hfz29_0, hfz29_1⟩ := bx2_ BK251) | ((with_reducible refine gate_callee (f := 5) rfl ?_); refine goesL_ (some 19) rfl rfl Try.func5 (by kernel_rfl) rfl #[.agg #[.int .i64 a0_0, .slice A0_1 l0_1.length c0_1], .int .i64 1048576] rfl lm_ ?_; (with_reducible refine (laws_szLaurent.calls a0_0 _ _ l0_1 1048576 t253 _ ?side1 ?side2 A3.out).mono ?_); (case side1 => repeat (first | exact (Kd.C_below HR0_1.out HB.out) | (with_reducible refine Kd.C_alloc ?_ _) | (with_reducible refine Kd.C_drewN ?_ _) | (with_reducible refine Kd.C_drew ?_))); (case side2 => exact HC0_1.out); rintro e w30 ⟨rfl, hb⟩; refine ⟨_, rfl, ?_⟩; have n0_ := am_ (bw_ BK251 hb); have n1_ := am_ (bw_ BK252 hb); have n2_ := am_ (below_step (bb_ HB.out) hb); clear BK251 BK252 HB; revert n0_ n1_ n2_; intro BK251 BK252 HB; (try clear hb); (try clear hb2); (try clear hk); (try clear hi); obtain ⟨hcz31_0, hcz31_1, hfz31_0, hfz31_1⟩ := bx2_ BK252) | ((with_reducible refine gate_callee (f := 5) rfl ?_); refine goesL_ (some 24) rfl rfl Try.func5 (by kernel_rfl) rfl #[.agg #[.int .i64 a1_0, .slice A1_1 l1_1.length c1_1], .int .i64 t253] rfl lm_ ?_; (with_reducible refine (laws_szLaurent.calls a1_0 _ _ l1_1 t253 t254 _ ?side1 ?side2 A10.out).mono ?_); (case side1 => repeat (first | exact (Kd.C_below HR1_1.out HB.out) | (with_reducible refine Kd.C_alloc ?_ _) | (with_reducible refine Kd.C_drewN ?_ _) | (with_reducible refine Kd.C_drew ?_))); (case side2 => exact HC1_1.out); rintro e w32 ⟨rfl, hb⟩; refine ⟨_, rfl, ?_⟩; have n0_ := am_ (bw_ BK251 hb); have n1_ := am_ (bw_ BK252 hb); have n2_ := am_ (below_step (bb_ HB.out) hb); clear BK251 BK252 HB; revert n0_ n1_ n2_; intro BK251 BK252 HB; (try clear hb); (try clear hb2); (try clear hk); (try clear hi)))
   have n0_ := am_ (blk_drew BK251.out)
   have n1_ := am_ (blk_drew BK252.out)
   have n2_ := am_ (below_drew1 HB.out)
   clear BK251 BK252 HB; revert n0_ n1_ n2_; intro BK251 BK252 HB
   refine start_ (n := 11) (S := fun w' => w'.cell? ⟨gb251, 0, none⟩ = some (.int .i64 a0_0) ∧ w'.cell? ⟨gb251, 1, none⟩ = some (.slice A0_1 l0_1.length c0_1) ∧ w'.cell? ⟨gb252, 0, none⟩ = some (.int .i64 a1_0) ∧ w'.cell? ⟨gb252, 1, none⟩ = some (.slice A1_1 l1_1.length c1_1)) (ds := []) #[false, false, false, false, false, false, false, false, false, false, false] (by kernel_rfl) rfl rfl ⟨bc_ BK251 0, bc_ BK251 1, bc_ BK252 0, bc_ BK252 1⟩ (fun hHeld => ?_); refine with_tabW laws_FnExactAddLaurent.tab8 laws_FnExactAddLaurent.bits8 (fun HT_ HW_ => ?_)
   generalize w32.drew = w33 at BK251 BK252 HB hHeld ⊢
   refine take_ (i := 0) (N := some 28) (v := ?_) (a' := ?_) #[true, false, false, false, false, false, false, false, false, false, false] rfl rfl (take_ofW HT_.out HW_.out (by kernel_rfl)) (fun _ _ _ h => h) (Or.inl ⟨by rfl, ?_⟩) hHeld ?_ ?_
   rotate_left
   ·rintro w' ⟨s0, s1, s2, s3⟩
    go_simp
    with_reducible rfl
   rotate_left
   ·simp only [Act.put, List.setIfInBounds_toArray, List.set_cons_zero, List.set_cons_succ, i64_w, i32_w]
    rfl
   refine take_ (i := 2) (N := some 30) (v := ?_) (a' := ?_) #[true, false, true, false, false, false, false, false, false, false, false] rfl rfl (take_ofW HT_.out HW_.out (by kernel_rfl)) (fun _ _ _ h => h) (Or.inl ⟨by rfl, ?_⟩) hHeld ?_ ?_
   rotate_left
   ·rintro w' ⟨s0, s1, s2, s3⟩
    go_simp
    with_reducible rfl
   rotate_left
   ·simp only [Act.put, List.setIfInBounds_toArray, List.set_cons_zero, List.set_cons_succ, i64_w, i32_w]
    rfl
   refine join_ (σ := Value × Value × Value × Nat) 2 #[true, true, true, true, true, true, true, true, true, false, false] (fun s_ => [(29, .agg #[.int .i64 t255, s_.1]), (31, .agg #[.int .i64 t259, s_.2.1]), (32, .tuple #[.agg #[.int .i64 t263, s_.2.2.1], .int .i64 t267]), (6, .pointer (some ⟨s_.2.2.2, 0, none⟩)), (27, .tuple #[.agg #[.int .i64 t263, s_.2.2.1], .int .i64 t267]), (33, .agg #[.int .i64 t263, s_.2.2.1]), (34, .int .i64 t267)]) (fun s_ w' => (w'.cell? ⟨gb251, 0, none⟩ = some (.int .i64 a0_0) ∧ w'.cell? ⟨gb251, 1, none⟩ = some (.slice A0_1 l0_1.length c0_1) ∧ w'.cell? ⟨gb252, 0, none⟩ = some (.int .i64 a1_0) ∧ w'.cell? ⟨gb252, 1, none⟩ = some (.slice A1_1 l1_1.length c1_1)) ∧ (Kd.R (Kd.int .i64) 2 w' w.heap.size (fun k_ => some k_ ≠ (s_.2.1 : Value).ownBlock ∧ some k_ ≠ (s_.2.2.1 : Value).ownBlock) s_.1 t256) ∧ (Kd.R (Kd.int .i64) 2 w' w.heap.size (fun k_ => some k_ ≠ (s_.1 : Value).ownBlock ∧ some k_ ≠ (s_.2.2.1 : Value).ownBlock) s_.2.1 t260) ∧ (Kd.R (Kd.int .i64) 2 w' w.heap.size (fun k_ => some k_ ≠ (s_.1 : Value).ownBlock ∧ some k_ ≠ (s_.2.1 : Value).ownBlock) s_.2.2.1 t264) ∧ (w'.heap[gb251]? = some (.cells #[.int .i64 a0_0, .slice A0_1 l0_1.length c0_1] 24 (0, 0))) ∧ (w'.heap[gb252]? = some (.cells #[.int .i64 a1_0, .slice A1_1 l1_1.length c1_1] 24 (0, 0))) ∧ (w'.heap[s_.2.2.2]? = some (.cells #[.int .i64 0, .slice none 0 0] 26 (0, 0))) ∧ (w.heap.size ≤ s_.2.2.2) ∧ (w.heap.size ≤ s_.2.2.2) ∧ (gb251 ≠ s_.2.2.2) ∧ (s_.2.2.2 ≠ gb251) ∧ (gb252 ≠ s_.2.2.2) ∧ (s_.2.2.2 ≠ gb252) ∧ (Below w.heap.size w w')) ?_ ?_
   rotate_left
   ·intro hCont
    refine two_ (i := 1) (j := 8) (Ni := some 29) (Nj := some 6) #[true, true, true, false, false, false, false, false, false, false, false] #[true, false, true, false, false, false, false, false, true, false, false] rfl rfl rfl rfl (two_of HT_.out (by kernel_rfl)) (by decide) (by decide) (fun K hK => ?_) (fun K hK => ?_)
    ·skip
     refine goes_ Try.func7 (by kernel_rfl) rfl #[.agg #[.int .i64 a0_0, .slice A0_1 l0_1.length c0_1]] (by rfl) rfl rfl lm_ ?_
     with_reducible refine (laws_toLaurent.calls k a0_0 _ _ l0_1 t255 t256 _ ?side1 ?side2 A19.out).mono ?_
     (case side1 => repeat (first | exact (Kd.C_below HR0_1.out HB.out) | (with_reducible refine Kd.C_alloc ?_ _) | (with_reducible refine Kd.C_drewN ?_ _) | (with_reducible refine Kd.C_drew ?_)))
     (case side2 => exact HC0_1.out)
     rintro e w34 ⟨v257, rfl, ho0, hb⟩
     refine ⟨_, rfl, ?_⟩
     have n0_ := am_ (Kd.R_lower ho0 (below_size (bb_ HB.out)))
     have n1_ := am_ (bw_ BK251 hb)
     have n2_ := am_ (bw_ BK252 hb)
     have n3_ := am_ (below_step (bb_ HB.out) hb)
     clear BK251 BK252 HB; revert n0_ n1_ n2_ n3_; intro HO258 BK251 BK252 HB
     (try clear hb)
     (try clear hb2)
     (try clear hk)
     (try clear hi)
     (try clear ho0)
     refine hK.out _ _ ⟨bc_ BK251 0, bc_ BK251 1, bc_ BK252 0, bc_ BK252 1⟩ (fun hHeld => ?_)
     clear hK K
     refine norm_ (a' := ?_) ?_ ?_
     rotate_left
     ·show Act.put _ (some 29) _ = _
      simp only [Act.put, List.setIfInBounds_toArray, List.set_cons_zero, List.set_cons_succ, i64_w, i32_w]
      rfl
     refine two_ (i := 3) (j := 8) (Ni := some 31) (Nj := some 6) #[true, true, true, true, false, false, false, false, false, false, false] #[true, true, true, false, false, false, false, false, true, false, false] rfl rfl rfl rfl (two_of HT_.out (by kernel_rfl)) (by decide) (by decide) (fun K hK => ?_) (fun K hK => ?_)
     ·skip
      refine goes_ Try.func7 (by kernel_rfl) rfl #[.agg #[.int .i64 a1_0, .slice A1_1 l1_1.length c1_1]] (by rfl) rfl rfl lm_ ?_
      with_reducible refine (laws_toLaurent.calls k a1_0 _ _ l1_1 t259 t260 _ ?side1 ?side2 A20.out).mono ?_
      (case side1 => repeat (first | exact (Kd.C_below HR1_1.out HB.out) | (with_reducible refine Kd.C_alloc ?_ _) | (with_reducible refine Kd.C_drewN ?_ _) | (with_reducible refine Kd.C_drew ?_)))
      (case side2 => exact HC1_1.out)
      rintro e w35 ⟨v261, rfl, ho0, hb⟩
      refine ⟨_, rfl, ?_⟩
      have n0_ := am_ (Kd.R_elder' (rk_ HO258.out) (Kd.R_base ho0) hb)
      have n1_ := am_ (Kd.R_lower (Kd.R_new' ho0 (Kd.R_lt (rk_ HO258.out))) (below_size (bb_ HB.out)))
      have n2_ := am_ (bw_ BK251 hb)
      have n3_ := am_ (bw_ BK252 hb)
      have n4_ := am_ (below_step (bb_ HB.out) hb)
      clear HO258 BK251 BK252 HB; revert n0_ n1_ n2_ n3_ n4_; intro HO258 HO262 BK251 BK252 HB
      (try clear hb)
      (try clear hb2)
      (try clear hk)
      (try clear hi)
      (try clear ho0)
      obtain ⟨Ao36, co36, eo36⟩ := Kd.R_slice HO258.out
      (first | subst eo36 | (injection eo36 with f1_ f2_ f3_; have f4_ := f1_.symm; have f5_ := f3_.symm; clear f1_ f2_ f3_; subst f4_; subst f5_))
      obtain ⟨Ao37, co37, eo37⟩ := Kd.R_slice HO262.out
      (first | subst eo37 | (injection eo37 with f1_ f2_ f3_; have f4_ := f1_.symm; have f5_ := f3_.symm; clear f1_ f2_ f3_; subst f4_; subst f5_))
      refine hK.out _ _ ⟨bc_ BK251 0, bc_ BK251 1, bc_ BK252 0, bc_ BK252 1⟩ (fun hHeld => ?_)
      clear hK K
      refine norm_ (a' := ?_) ?_ ?_
      rotate_left
      ·show Act.put _ (some 31) _ = _
       simp only [Act.put, List.setIfInBounds_toArray, List.set_cons_zero, List.set_cons_succ, i64_w, i32_w]
       rfl
      refine two_ (i := 4) (j := 8) (Ni := some 32) (Nj := some 6) #[true, true, true, true, true, false, false, false, false, false, false] #[true, true, true, true, false, false, false, false, true, false, false] rfl rfl rfl rfl (two_of HT_.out (by kernel_rfl)) (by decide) (by decide) (fun K hK => ?_) (fun K hK => ?_)
      ·skip
       refine goes_ Try.func6 (by kernel_rfl) rfl #[.agg #[.int .i64 t255, .slice Ao36 t256.length co36], .agg #[.int .i64 t259, .slice Ao37 t260.length co37]] (by rfl) rfl rfl lm_ ?_
       with_reducible refine (spec_AddLaurent.calls k t255 _ _ t256 t259 _ _ t260 t263 t264 t267 _ ?side1 ?side2 ?side3 ?side4 A21.out).mono ?_
       (case side1 => repeat (first | exact (Kd.R_reads' HO258.out).2.2 | (with_reducible refine Kd.C_alloc ?_ _) | (with_reducible refine Kd.C_drewN ?_ _) | (with_reducible refine Kd.C_drew ?_)))
       (case side2 => exact (Kd.R_reads' HO258.out).2.1)
       (case side3 => repeat (first | exact (Kd.R_reads' HO262.out).2.2 | (with_reducible refine Kd.C_alloc ?_ _) | (with_reducible refine Kd.C_drewN ?_ _) | (with_reducible refine Kd.C_drew ?_)))
       (case side4 => exact (Kd.R_reads' HO262.out).2.1)
       rintro e w38 ⟨v265, rfl, ho0, hb⟩
       refine ⟨_, rfl, ?_⟩
       have n0_ := am_ (Kd.R_elder' (rk_ HO258.out) (Kd.R_base ho0) hb)
       have n1_ := am_ (Kd.R_elder' (rk_ HO262.out) (Kd.R_base ho0) hb)
       have n2_ := am_ (Kd.R_lower (Kd.R_new' (Kd.R_new' ho0 (Kd.R_lt (rk_ HO258.out))) (Kd.R_lt (rk_ HO262.out))) (below_size (bb_ HB.out)))
       have n3_ := am_ (bw_ BK251 hb)
       have n4_ := am_ (bw_ BK252 hb)
       have n5_ := am_ (below_step (bb_ HB.out) hb)
       clear HO258 HO262 BK251 BK252 HB; revert n0_ n1_ n2_ n3_ n4_ n5_; intro HO258 HO262 HO266 BK251 BK252 HB
       (try clear hb)
       (try clear hb2)
       (try clear hk)
       (try clear hi)
       (try clear ho0)
       refine hK.out _ _ ⟨bc_ BK251 0, bc_ BK251 1, bc_ BK252 0, bc_ BK252 1⟩ (fun hHeld => ?_)
       clear hK K
       refine norm_ (a' := ?_) ?_ ?_
       rotate_left
       ·show Act.put _ (some 32) _ = _
        simp only [Act.put, List.setIfInBounds_toArray, List.set_cons_zero, List.set_cons_succ, i64_w, i32_w]
        rfl
       refine pure_ (i := 5) (N := some 27) (v := ?_) (a' := ?_) #[true, true, true, true, true, true, false, false, false, false, false] rfl rfl (any_of HT_.out (by kernel_rfl)) (fun _ _ _ h => h) (Or.inl ⟨by rfl, ?_⟩) ?_ ?_
       rotate_left
       ·intro w'
        go_simp
        with_reducible rfl
       rotate_left
       ·simp only [Act.put, List.setIfInBounds_toArray, List.set_cons_zero, List.set_cons_succ, i64_w, i32_w]
        rfl
       refine pure_ (i := 6) (N := some 33) (v := ?_) (a' := ?_) #[true, true, true, true, true, true, true, false, false, false, false] rfl rfl (any_of HT_.out (by kernel_rfl)) (fun _ _ _ h => h) (Or.inl ⟨by rfl, ?_⟩) ?_ ?_
       rotate_left
       ·intro w'
        go_simp
        with_reducible rfl
       rotate_left
       ·simp only [Act.put, List.setIfInBounds_toArray, List.set_cons_zero, List.set_cons_succ, i64_w, i32_w]
        rfl
       refine pure_ (i := 7) (N := some 34) (v := ?_) (a' := ?_) #[true, true, true, true, true, true, true, true, false, false, false] rfl rfl (any_of HT_.out (by kernel_rfl)) (fun _ _ _ h => h) (Or.inl ⟨by rfl, ?_⟩) ?_ ?_
       rotate_left
       ·intro w'
        go_simp
        with_reducible rfl
       rotate_left
       ·simp only [Act.put, List.setIfInBounds_toArray, List.set_cons_zero, List.set_cons_succ, i64_w, i32_w]
        rfl
       refine one_ (i := 8) (N := some 6) #[true, true, true, true, true, true, true, true, true, false, false] rfl rfl (one_of HT_.out (by kernel_rfl)) (by decide) (fun K hK => ?_)
       refine box_step ?hg (N := 6) ?hd (cs := #[.int .i64 0, .slice none 0 0]) (t := 26) ?hr ?_; (case hd => rfl); (case hg => rfl); (case hr => first | (go_simp; done) | (go_simp; rfl))
       intro gb268 hg w39 hbox hb
       have n0_ := am_ (Kd.R_below (rk_ HO258.out) hb)
       have n1_ := am_ (Kd.R_below (rk_ HO262.out) hb)
       have n2_ := am_ (Kd.R_below (rk_ HO266.out) hb)
       have n3_ := am_ (bw_ BK251 hb)
       have n4_ := am_ (bw_ BK252 hb)
       have n5_ := am_ (below_step (bb_ HB.out) hb)
       have n6_ := am_ (hbox)
       have n7_ := am_ ((by rw [hg]; exact (below_size (bb_ HB.out)) : w.heap.size ≤ gb268))
       have n8_ := am_ ((by rw [hg]; exact (below_size (bb_ HB.out)) : w.heap.size ≤ gb268))
       have n9_ := am_ (nl_ BK251 hg)
       have n10_ := am_ (ng_ BK251 hg)
       have n11_ := am_ (nl_ BK252 hg)
       have n12_ := am_ (ng_ BK252 hg)
       clear HO258 HO262 HO266 BK251 BK252 HB; revert n0_ n1_ n2_ n3_ n4_ n5_ n6_ n7_ n8_ n9_ n10_ n11_ n12_; intro HO258 HO262 HO266 BK251 BK252 HB BK268 GW268 GE268 NB251_268 NB268_251 NB252_268 NB268_252
       clear hb hbox hg
       refine hK.out _ _ ⟨bc_ BK251 0, bc_ BK251 1, bc_ BK252 0, bc_ BK252 1⟩ (fun hHeld => ?_)
       clear hK K
       refine norm_ (a' := ?_) ?_ ?_
       rotate_left
       ·show Act.put _ (some 6) _ = _
        simp only [Act.put, List.setIfInBounds_toArray, List.set_cons_zero, List.set_cons_succ, i64_w, i32_w]
        rfl
       exact norm_ (by simp only [putAll, Act.put, List.setIfInBounds_toArray, List.set_cons_zero, List.set_cons_succ]) (hCont (.slice Ao36 t256.length co36, .slice Ao37 t260.length co37, v265, gb268) _ ⟨hHeld, (rm_ HO258.out (fun _ hk => ⟨hk.1.2, hk.2⟩)), (rm_ HO262.out (fun _ hk => ⟨hk.1.2, hk.2⟩)), (rm_ HO266.out (fun _ hk => ⟨hk.1.2, hk.2⟩)), (bk_ BK251.out), (bk_ BK252.out), (bk_ BK268.out), GW268.out, GE268.out, NB251_268.out, NB268_251.out, NB252_268.out, NB268_252.out, (bb_ HB.out)⟩)
      ·skip
       refine box_step ?hg (N := 6) ?hd (cs := #[.int .i64 0, .slice none 0 0]) (t := 26) ?hr ?_; (case hd => rfl); (case hg => rfl); (case hr => first | (go_simp; done) | (go_simp; rfl))
       intro gb268 hg w36 hbox hb
       have n0_ := am_ (Kd.R_below (rk_ HO258.out) hb)
       have n1_ := am_ (Kd.R_below (rk_ HO262.out) hb)
       have n2_ := am_ (bw_ BK251 hb)
       have n3_ := am_ (bw_ BK252 hb)
       have n4_ := am_ (below_step (bb_ HB.out) hb)
       have n5_ := am_ (hbox)
       have n6_ := am_ ((by rw [hg]; exact (below_size (bb_ HB.out)) : w.heap.size ≤ gb268))
       have n7_ := am_ ((by rw [hg]; exact (below_size (bb_ HB.out)) : w.heap.size ≤ gb268))
       have n8_ := am_ (nl_ BK251 hg)
       have n9_ := am_ (ng_ BK251 hg)
       have n10_ := am_ (nl_ BK252 hg)
       have n11_ := am_ (ng_ BK252 hg)
       clear HO258 HO262 BK251 BK252 HB; revert n0_ n1_ n2_ n3_ n4_ n5_ n6_ n7_ n8_ n9_ n10_ n11_; intro HO258 HO262 BK251 BK252 HB BK268 GW268 GE268 NB251_268 NB268_251 NB252_268 NB268_252
       clear hb hbox hg
       obtain ⟨Ao37, co37, eo37⟩ := Kd.R_slice HO258.out
       (first | subst eo37 | (injection eo37 with f1_ f2_ f3_; have f4_ := f1_.symm; have f5_ := f3_.symm; clear f1_ f2_ f3_; subst f4_; subst f5_))
       obtain ⟨Ao38, co38, eo38⟩ := Kd.R_slice HO262.out
       (first | subst eo38 | (injection eo38 with f1_ f2_ f3_; have f4_ := f1_.symm; have f5_ := f3_.symm; clear f1_ f2_ f3_; subst f4_; subst f5_))
       refine hK.out _ _ ⟨bc_ BK251 0, bc_ BK251 1, bc_ BK252 0, bc_ BK252 1⟩ (fun hHeld => ?_)
       clear hK K
       refine norm_ (a' := ?_) ?_ ?_
       rotate_left
       ·show Act.put _ (some 6) _ = _
        simp only [Act.put, List.setIfInBounds_toArray, List.set_cons_zero, List.set_cons_succ, i64_w, i32_w]
        rfl
       refine one_ (i := 4) (N := some 32) #[true, true, true, true, true, false, false, false, true, false, false] rfl rfl (one_of HT_.out (by kernel_rfl)) (by decide) (fun K hK => ?_)
       refine goes_ Try.func6 (by kernel_rfl) rfl #[.agg #[.int .i64 t255, .slice Ao37 t256.length co37], .agg #[.int .i64 t259, .slice Ao38 t260.length co38]] (by rfl) rfl rfl lm_ ?_
       with_reducible refine (spec_AddLaurent.calls k t255 _ _ t256 t259 _ _ t260 t263 t264 t267 _ ?side1 ?side2 ?side3 ?side4 A21.out).mono ?_
       (case side1 => repeat (first | exact (Kd.R_reads' HO258.out).2.2 | (with_reducible refine Kd.C_alloc ?_ _) | (with_reducible refine Kd.C_drewN ?_ _) | (with_reducible refine Kd.C_drew ?_)))
       (case side2 => exact (Kd.R_reads' HO258.out).2.1)
       (case side3 => repeat (first | exact (Kd.R_reads' HO262.out).2.2 | (with_reducible refine Kd.C_alloc ?_ _) | (with_reducible refine Kd.C_drewN ?_ _) | (with_reducible refine Kd.C_drew ?_)))
       (case side4 => exact (Kd.R_reads' HO262.out).2.1)
       rintro e w39 ⟨v265, rfl, ho0, hb⟩
       refine ⟨_, rfl, ?_⟩
       have n0_ := am_ (Kd.R_elder' (rk_ HO258.out) (Kd.R_base ho0) hb)
       have n1_ := am_ (Kd.R_elder' (rk_ HO262.out) (Kd.R_base ho0) hb)
       have n2_ := am_ (Kd.R_lower (Kd.R_new' (Kd.R_new' ho0 (Kd.R_lt (rk_ HO258.out))) (Kd.R_lt (rk_ HO262.out))) (below_size (bb_ HB.out)))
       have n3_ := am_ (bw_ BK251 hb)
       have n4_ := am_ (bw_ BK252 hb)
       have n5_ := am_ (bw_ BK268 hb)
       have n6_ := am_ (below_step (bb_ HB.out) hb)
       clear HO258 HO262 BK251 BK252 BK268 HB; revert n0_ n1_ n2_ n3_ n4_ n5_ n6_; intro HO258 HO262 HO266 BK251 BK252 BK268 HB
       (try clear hb)
       (try clear hb2)
       (try clear hk)
       (try clear hi)
       (try clear ho0)
       refine hK.out _ _ ⟨bc_ BK251 0, bc_ BK251 1, bc_ BK252 0, bc_ BK252 1⟩ (fun hHeld => ?_)
       clear hK K
       refine norm_ (a' := ?_) ?_ ?_
       rotate_left
       ·show Act.put _ (some 32) _ = _
        simp only [Act.put, List.setIfInBounds_toArray, List.set_cons_zero, List.set_cons_succ, i64_w, i32_w]
        rfl
       refine pure_ (i := 5) (N := some 27) (v := ?_) (a' := ?_) #[true, true, true, true, true, true, false, false, true, false, false] rfl rfl (any_of HT_.out (by kernel_rfl)) (fun _ _ _ h => h) (Or.inl ⟨by rfl, ?_⟩) ?_ ?_
       rotate_left
       ·intro w'
        go_simp
        with_reducible rfl
       rotate_left
       ·simp only [Act.put, List.setIfInBounds_toArray, List.set_cons_zero, List.set_cons_succ, i64_w, i32_w]
        rfl
       refine pure_ (i := 6) (N := some 33) (v := ?_) (a' := ?_) #[true, true, true, true, true, true, true, false, true, false, false] rfl rfl (any_of HT_.out (by kernel_rfl)) (fun _ _ _ h => h) (Or.inl ⟨by rfl, ?_⟩) ?_ ?_
       rotate_left
       ·intro w'
        go_simp
        with_reducible rfl
       rotate_left
       ·simp only [Act.put, List.setIfInBounds_toArray, List.set_cons_zero, List.set_cons_succ, i64_w, i32_w]
        rfl
       refine pure_ (i := 7) (N := some 34) (v := ?_) (a' := ?_) #[true, true, true, true, true, true, true, true, true, false, false] rfl rfl (any_of HT_.out (by kernel_rfl)) (fun _ _ _ h => h) (Or.inl ⟨by rfl, ?_⟩) ?_ ?_
       rotate_left
       ·intro w'
        go_simp
        with_reducible rfl
       rotate_left
       ·simp only [Act.put, List.setIfInBounds_toArray, List.set_cons_zero, List.set_cons_succ, i64_w, i32_w]
        rfl
       exact norm_ (by simp only [putAll, Act.put, List.setIfInBounds_toArray, List.set_cons_zero, List.set_cons_succ]) (hCont (.slice Ao37 t256.length co37, .slice Ao38 t260.length co38, v265, gb268) _ ⟨hHeld, (rm_ HO258.out (fun _ hk => ⟨hk.1.2, hk.2⟩)), (rm_ HO262.out (fun _ hk => ⟨hk.1.2, hk.2⟩)), (rm_ HO266.out (fun _ hk => ⟨hk.1.2, hk.2⟩)), (bk_ BK251.out), (bk_ BK252.out), (bk_ BK268.out), GW268.out, GE268.out, NB251_268.out, NB268_251.out, NB252_268.out, NB268_252.out, (bb_ HB.out)⟩)
     ·skip
      refine box_step ?hg (N := 6) ?hd (cs := #[.int .i64 0, .slice none 0 0]) (t := 26) ?hr ?_; (case hd => rfl); (case hg => rfl); (case hr => first | (go_simp; done) | (go_simp; rfl))
      intro gb268 hg w35 hbox hb
      have n0_ := am_ (Kd.R_below (rk_ HO258.out) hb)
      have n1_ := am_ (bw_ BK251 hb)
      have n2_ := am_ (bw_ BK252 hb)
      have n3_ := am_ (below_step (bb_ HB.out) hb)
      have n4_ := am_ (hbox)
      have n5_ := am_ ((by rw [hg]; exact (below_size (bb_ HB.out)) : w.heap.size ≤ gb268))
      have n6_ := am_ ((by rw [hg]; exact (below_size (bb_ HB.out)) : w.heap.size ≤ gb268))
      have n7_ := am_ (nl_ BK251 hg)
      have n8_ := am_ (ng_ BK251 hg)
      have n9_ := am_ (nl_ BK252 hg)
      have n10_ := am_ (ng_ BK252 hg)
      clear HO258 BK251 BK252 HB; revert n0_ n1_ n2_ n3_ n4_ n5_ n6_ n7_ n8_ n9_ n10_; intro HO258 BK251 BK252 HB BK268 GW268 GE268 NB251_268 NB268_251 NB252_268 NB268_252
      clear hb hbox hg
      refine hK.out _ _ ⟨bc_ BK251 0, bc_ BK251 1, bc_ BK252 0, bc_ BK252 1⟩ (fun hHeld => ?_)
      clear hK K
      refine norm_ (a' := ?_) ?_ ?_
      rotate_left
      ·show Act.put _ (some 6) _ = _
       simp only [Act.put, List.setIfInBounds_toArray, List.set_cons_zero, List.set_cons_succ, i64_w, i32_w]
       rfl
      refine one_ (i := 3) (N := some 31) #[true, true, true, true, false, false, false, false, true, false, false] rfl rfl (one_of HT_.out (by kernel_rfl)) (by decide) (fun K hK => ?_)
      refine goes_ Try.func7 (by kernel_rfl) rfl #[.agg #[.int .i64 a1_0, .slice A1_1 l1_1.length c1_1]] (by rfl) rfl rfl lm_ ?_
      with_reducible refine (laws_toLaurent.calls k a1_0 _ _ l1_1 t259 t260 _ ?side1 ?side2 A20.out).mono ?_
      (case side1 => repeat (first | exact (Kd.C_below HR1_1.out HB.out) | (with_reducible refine Kd.C_alloc ?_ _) | (with_reducible refine Kd.C_drewN ?_ _) | (with_reducible refine Kd.C_drew ?_)))
      (case side2 => exact HC1_1.out)
      rintro e w36 ⟨v261, rfl, ho0, hb⟩
      refine ⟨_, rfl, ?_⟩
      have n0_ := am_ (Kd.R_elder' (rk_ HO258.out) (Kd.R_base ho0) hb)
      have n1_ := am_ (Kd.R_lower (Kd.R_new' ho0 (Kd.R_lt (rk_ HO258.out))) (below_size (bb_ HB.out)))
      have n2_ := am_ (bw_ BK251 hb)
      have n3_ := am_ (bw_ BK252 hb)
      have n4_ := am_ (bw_ BK268 hb)
      have n5_ := am_ (below_step (bb_ HB.out) hb)
      clear HO258 BK251 BK252 BK268 HB; revert n0_ n1_ n2_ n3_ n4_ n5_; intro HO258 HO262 BK251 BK252 BK268 HB
      (try clear hb)
      (try clear hb2)
      (try clear hk)
      (try clear hi)
      (try clear ho0)
      obtain ⟨Ao37, co37, eo37⟩ := Kd.R_slice HO258.out
      (first | subst eo37 | (injection eo37 with f1_ f2_ f3_; have f4_ := f1_.symm; have f5_ := f3_.symm; clear f1_ f2_ f3_; subst f4_; subst f5_))
      obtain ⟨Ao38, co38, eo38⟩ := Kd.R_slice HO262.out
      (first | subst eo38 | (injection eo38 with f1_ f2_ f3_; have f4_ := f1_.symm; have f5_ := f3_.symm; clear f1_ f2_ f3_; subst f4_; subst f5_))
      refine hK.out _ _ ⟨bc_ BK251 0, bc_ BK251 1, bc_ BK252 0, bc_ BK252 1⟩ (fun hHeld => ?_)
      clear hK K
      refine norm_ (a' := ?_) ?_ ?_
      rotate_left
      ·show Act.put _ (some 31) _ = _
       simp only [Act.put, List.setIfInBounds_toArray, List.set_cons_zero, List.set_cons_succ, i64_w, i32_w]
       rfl
      refine one_ (i := 4) (N := some 32) #[true, true, true, true, true, false, false, false, true, false, false] rfl rfl (one_of HT_.out (by kernel_rfl)) (by decide) (fun K hK => ?_)
      refine goes_ Try.func6 (by kernel_rfl) rfl #[.agg #[.int .i64 t255, .slice Ao37 t256.length co37], .agg #[.int .i64 t259, .slice Ao38 t260.length co38]] (by rfl) rfl rfl lm_ ?_
      with_reducible refine (spec_AddLaurent.calls k t255 _ _ t256 t259 _ _ t260 t263 t264 t267 _ ?side1 ?side2 ?side3 ?side4 A21.out).mono ?_
      (case side1 => repeat (first | exact (Kd.R_reads' HO258.out).2.2 | (with_reducible refine Kd.C_alloc ?_ _) | (with_reducible refine Kd.C_drewN ?_ _) | (with_reducible refine Kd.C_drew ?_)))
      (case side2 => exact (Kd.R_reads' HO258.out).2.1)
      (case side3 => repeat (first | exact (Kd.R_reads' HO262.out).2.2 | (with_reducible refine Kd.C_alloc ?_ _) | (with_reducible refine Kd.C_drewN ?_ _) | (with_reducible refine Kd.C_drew ?_)))
      (case side4 => exact (Kd.R_reads' HO262.out).2.1)
      rintro e w39 ⟨v265, rfl, ho0, hb⟩
      refine ⟨_, rfl, ?_⟩
      have n0_ := am_ (Kd.R_elder' (rk_ HO258.out) (Kd.R_base ho0) hb)
      have n1_ := am_ (Kd.R_elder' (rk_ HO262.out) (Kd.R_base ho0) hb)
      have n2_ := am_ (Kd.R_lower (Kd.R_new' (Kd.R_new' ho0 (Kd.R_lt (rk_ HO258.out))) (Kd.R_lt (rk_ HO262.out))) (below_size (bb_ HB.out)))
      have n3_ := am_ (bw_ BK251 hb)
      have n4_ := am_ (bw_ BK252 hb)
      have n5_ := am_ (bw_ BK268 hb)
      have n6_ := am_ (below_step (bb_ HB.out) hb)
      clear HO258 HO262 BK251 BK252 BK268 HB; revert n0_ n1_ n2_ n3_ n4_ n5_ n6_; intro HO258 HO262 HO266 BK251 BK252 BK268 HB
      (try clear hb)
      (try clear hb2)
      (try clear hk)
      (try clear hi)
      (try clear ho0)
      refine hK.out _ _ ⟨bc_ BK251 0, bc_ BK251 1, bc_ BK252 0, bc_ BK252 1⟩ (fun hHeld => ?_)
      clear hK K
      refine norm_ (a' := ?_) ?_ ?_
      rotate_left
      ·show Act.put _ (some 32) _ = _
       simp only [Act.put, List.setIfInBounds_toArray, List.set_cons_zero, List.set_cons_succ, i64_w, i32_w]
       rfl
      refine pure_ (i := 5) (N := some 27) (v := ?_) (a' := ?_) #[true, true, true, true, true, true, false, false, true, false, false] rfl rfl (any_of HT_.out (by kernel_rfl)) (fun _ _ _ h => h) (Or.inl ⟨by rfl, ?_⟩) ?_ ?_
      rotate_left
      ·intro w'
       go_simp
       with_reducible rfl
      rotate_left
      ·simp only [Act.put, List.setIfInBounds_toArray, List.set_cons_zero, List.set_cons_succ, i64_w, i32_w]
       rfl
      refine pure_ (i := 6) (N := some 33) (v := ?_) (a' := ?_) #[true, true, true, true, true, true, true, false, true, false, false] rfl rfl (any_of HT_.out (by kernel_rfl)) (fun _ _ _ h => h) (Or.inl ⟨by rfl, ?_⟩) ?_ ?_
      rotate_left
      ·intro w'
       go_simp
       with_reducible rfl
      rotate_left
      ·simp only [Act.put, List.setIfInBounds_toArray, List.set_cons_zero, List.set_cons_succ, i64_w, i32_w]
       rfl
      refine pure_ (i := 7) (N := some 34) (v := ?_) (a' := ?_) #[true, true, true, true, true, true, true, true, true, false, false] rfl rfl (any_of HT_.out (by kernel_rfl)) (fun _ _ _ h => h) (Or.inl ⟨by rfl, ?_⟩) ?_ ?_
      rotate_left
      ·intro w'
       go_simp
       with_reducible rfl
      rotate_left
      ·simp only [Act.put, List.setIfInBounds_toArray, List.set_cons_zero, List.set_cons_succ, i64_w, i32_w]
       rfl
      exact norm_ (by simp only [putAll, Act.put, List.setIfInBounds_toArray, List.set_cons_zero, List.set_cons_succ]) (hCont (.slice Ao37 t256.length co37, .slice Ao38 t260.length co38, v265, gb268) _ ⟨hHeld, (rm_ HO258.out (fun _ hk => ⟨hk.1.2, hk.2⟩)), (rm_ HO262.out (fun _ hk => ⟨hk.1.2, hk.2⟩)), (rm_ HO266.out (fun _ hk => ⟨hk.1.2, hk.2⟩)), (bk_ BK251.out), (bk_ BK252.out), (bk_ BK268.out), GW268.out, GE268.out, NB251_268.out, NB268_251.out, NB252_268.out, NB268_252.out, (bb_ HB.out)⟩)
    ·skip
     refine box_step ?hg (N := 6) ?hd (cs := #[.int .i64 0, .slice none 0 0]) (t := 26) ?hr ?_; (case hd => rfl); (case hg => rfl); (case hr => first | (go_simp; done) | (go_simp; rfl))
     intro gb268 hg w34 hbox hb
     have n0_ := am_ (bw_ BK251 hb)
     have n1_ := am_ (bw_ BK252 hb)
     have n2_ := am_ (below_step (bb_ HB.out) hb)
     have n3_ := am_ (hbox)
     have n4_ := am_ ((by rw [hg]; exact (below_size (bb_ HB.out)) : w.heap.size ≤ gb268))
     have n5_ := am_ ((by rw [hg]; exact (below_size (bb_ HB.out)) : w.heap.size ≤ gb268))
     have n6_ := am_ (nl_ BK251 hg)
     have n7_ := am_ (ng_ BK251 hg)
     have n8_ := am_ (nl_ BK252 hg)
     have n9_ := am_ (ng_ BK252 hg)
     clear BK251 BK252 HB; revert n0_ n1_ n2_ n3_ n4_ n5_ n6_ n7_ n8_ n9_; intro BK251 BK252 HB BK268 GW268 GE268 NB251_268 NB268_251 NB252_268 NB268_252
     clear hb hbox hg
     refine hK.out _ _ ⟨bc_ BK251 0, bc_ BK251 1, bc_ BK252 0, bc_ BK252 1⟩ (fun hHeld => ?_)
     clear hK K
     refine norm_ (a' := ?_) ?_ ?_
     rotate_left
     ·show Act.put _ (some 6) _ = _
      simp only [Act.put, List.setIfInBounds_toArray, List.set_cons_zero, List.set_cons_succ, i64_w, i32_w]
      rfl
     refine one_ (i := 1) (N := some 29) #[true, true, true, false, false, false, false, false, true, false, false] rfl rfl (one_of HT_.out (by kernel_rfl)) (by decide) (fun K hK => ?_)
     refine goes_ Try.func7 (by kernel_rfl) rfl #[.agg #[.int .i64 a0_0, .slice A0_1 l0_1.length c0_1]] (by rfl) rfl rfl lm_ ?_
     with_reducible refine (laws_toLaurent.calls k a0_0 _ _ l0_1 t255 t256 _ ?side1 ?side2 A19.out).mono ?_
     (case side1 => repeat (first | exact (Kd.C_below HR0_1.out HB.out) | (with_reducible refine Kd.C_alloc ?_ _) | (with_reducible refine Kd.C_drewN ?_ _) | (with_reducible refine Kd.C_drew ?_)))
     (case side2 => exact HC0_1.out)
     rintro e w35 ⟨v257, rfl, ho0, hb⟩
     refine ⟨_, rfl, ?_⟩
     have n0_ := am_ (Kd.R_lower ho0 (below_size (bb_ HB.out)))
     have n1_ := am_ (bw_ BK251 hb)
     have n2_ := am_ (bw_ BK252 hb)
     have n3_ := am_ (bw_ BK268 hb)
     have n4_ := am_ (below_step (bb_ HB.out) hb)
     clear BK251 BK252 BK268 HB; revert n0_ n1_ n2_ n3_ n4_; intro HO258 BK251 BK252 BK268 HB
     (try clear hb)
     (try clear hb2)
     (try clear hk)
     (try clear hi)
     (try clear ho0)
     refine hK.out _ _ ⟨bc_ BK251 0, bc_ BK251 1, bc_ BK252 0, bc_ BK252 1⟩ (fun hHeld => ?_)
     clear hK K
     refine norm_ (a' := ?_) ?_ ?_
     rotate_left
     ·show Act.put _ (some 29) _ = _
      simp only [Act.put, List.setIfInBounds_toArray, List.set_cons_zero, List.set_cons_succ, i64_w, i32_w]
      rfl
     refine one_ (i := 3) (N := some 31) #[true, true, true, true, false, false, false, false, true, false, false] rfl rfl (one_of HT_.out (by kernel_rfl)) (by decide) (fun K hK => ?_)
     refine goes_ Try.func7 (by kernel_rfl) rfl #[.agg #[.int .i64 a1_0, .slice A1_1 l1_1.length c1_1]] (by rfl) rfl rfl lm_ ?_
     with_reducible refine (laws_toLaurent.calls k a1_0 _ _ l1_1 t259 t260 _ ?side1 ?side2 A20.out).mono ?_
     (case side1 => repeat (first | exact (Kd.C_below HR1_1.out HB.out) | (with_reducible refine Kd.C_alloc ?_ _) | (with_reducible refine Kd.C_drewN ?_ _) | (with_reducible refine Kd.C_drew ?_)))
     (case side2 => exact HC1_1.out)
     rintro e w36 ⟨v261, rfl, ho0, hb⟩
     refine ⟨_, rfl, ?_⟩
     have n0_ := am_ (Kd.R_elder' (rk_ HO258.out) (Kd.R_base ho0) hb)
     have n1_ := am_ (Kd.R_lower (Kd.R_new' ho0 (Kd.R_lt (rk_ HO258.out))) (below_size (bb_ HB.out)))
     have n2_ := am_ (bw_ BK251 hb)
     have n3_ := am_ (bw_ BK252 hb)
     have n4_ := am_ (bw_ BK268 hb)
     have n5_ := am_ (below_step (bb_ HB.out) hb)
     clear HO258 BK251 BK252 BK268 HB; revert n0_ n1_ n2_ n3_ n4_ n5_; intro HO258 HO262 BK251 BK252 BK268 HB
     (try clear hb)
     (try clear hb2)
     (try clear hk)
     (try clear hi)
     (try clear ho0)
     obtain ⟨Ao37, co37, eo37⟩ := Kd.R_slice HO258.out
     (first | subst eo37 | (injection eo37 with f1_ f2_ f3_; have f4_ := f1_.symm; have f5_ := f3_.symm; clear f1_ f2_ f3_; subst f4_; subst f5_))
     obtain ⟨Ao38, co38, eo38⟩ := Kd.R_slice HO262.out
     (first | subst eo38 | (injection eo38 with f1_ f2_ f3_; have f4_ := f1_.symm; have f5_ := f3_.symm; clear f1_ f2_ f3_; subst f4_; subst f5_))
     refine hK.out _ _ ⟨bc_ BK251 0, bc_ BK251 1, bc_ BK252 0, bc_ BK252 1⟩ (fun hHeld => ?_)
     clear hK K
     refine norm_ (a' := ?_) ?_ ?_
     rotate_left
     ·show Act.put _ (some 31) _ = _
      simp only [Act.put, List.setIfInBounds_toArray, List.set_cons_zero, List.set_cons_succ, i64_w, i32_w]
      rfl
     refine one_ (i := 4) (N := some 32) #[true, true, true, true, true, false, false, false, true, false, false] rfl rfl (one_of HT_.out (by kernel_rfl)) (by decide) (fun K hK => ?_)
     refine goes_ Try.func6 (by kernel_rfl) rfl #[.agg #[.int .i64 t255, .slice Ao37 t256.length co37], .agg #[.int .i64 t259, .slice Ao38 t260.length co38]] (by rfl) rfl rfl lm_ ?_
     with_reducible refine (spec_AddLaurent.calls k t255 _ _ t256 t259 _ _ t260 t263 t264 t267 _ ?side1 ?side2 ?side3 ?side4 A21.out).mono ?_
     (case side1 => repeat (first | exact (Kd.R_reads' HO258.out).2.2 | (with_reducible refine Kd.C_alloc ?_ _) | (with_reducible refine Kd.C_drewN ?_ _) | (with_reducible refine Kd.C_drew ?_)))
     (case side2 => exact (Kd.R_reads' HO258.out).2.1)
     (case side3 => repeat (first | exact (Kd.R_reads' HO262.out).2.2 | (with_reducible refine Kd.C_alloc ?_ _) | (with_reducible refine Kd.C_drewN ?_ _) | (with_reducible refine Kd.C_drew ?_)))
     (case side4 => exact (Kd.R_reads' HO262.out).2.1)
     rintro e w39 ⟨v265, rfl, ho0, hb⟩
     refine ⟨_, rfl, ?_⟩
     have n0_ := am_ (Kd.R_elder' (rk_ HO258.out) (Kd.R_base ho0) hb)
     have n1_ := am_ (Kd.R_elder' (rk_ HO262.out) (Kd.R_base ho0) hb)
     have n2_ := am_ (Kd.R_lower (Kd.R_new' (Kd.R_new' ho0 (Kd.R_lt (rk_ HO258.out))) (Kd.R_lt (rk_ HO262.out))) (below_size (bb_ HB.out)))
     have n3_ := am_ (bw_ BK251 hb)
     have n4_ := am_ (bw_ BK252 hb)
     have n5_ := am_ (bw_ BK268 hb)
     have n6_ := am_ (below_step (bb_ HB.out) hb)
     clear HO258 HO262 BK251 BK252 BK268 HB; revert n0_ n1_ n2_ n3_ n4_ n5_ n6_; intro HO258 HO262 HO266 BK251 BK252 BK268 HB
     (try clear hb)
     (try clear hb2)
     (try clear hk)
     (try clear hi)
     (try clear ho0)
     refine hK.out _ _ ⟨bc_ BK251 0, bc_ BK251 1, bc_ BK252 0, bc_ BK252 1⟩ (fun hHeld => ?_)
     clear hK K
     refine norm_ (a' := ?_) ?_ ?_
     rotate_left
     ·show Act.put _ (some 32) _ = _
      simp only [Act.put, List.setIfInBounds_toArray, List.set_cons_zero, List.set_cons_succ, i64_w, i32_w]
      rfl
     refine pure_ (i := 5) (N := some 27) (v := ?_) (a' := ?_) #[true, true, true, true, true, true, false, false, true, false, false] rfl rfl (any_of HT_.out (by kernel_rfl)) (fun _ _ _ h => h) (Or.inl ⟨by rfl, ?_⟩) ?_ ?_
     rotate_left
     ·intro w'
      go_simp
      with_reducible rfl
     rotate_left
     ·simp only [Act.put, List.setIfInBounds_toArray, List.set_cons_zero, List.set_cons_succ, i64_w, i32_w]
      rfl
     refine pure_ (i := 6) (N := some 33) (v := ?_) (a' := ?_) #[true, true, true, true, true, true, true, false, true, false, false] rfl rfl (any_of HT_.out (by kernel_rfl)) (fun _ _ _ h => h) (Or.inl ⟨by rfl, ?_⟩) ?_ ?_
     rotate_left
     ·intro w'
      go_simp
      with_reducible rfl
     rotate_left
     ·simp only [Act.put, List.setIfInBounds_toArray, List.set_cons_zero, List.set_cons_succ, i64_w, i32_w]
      rfl
     refine pure_ (i := 7) (N := some 34) (v := ?_) (a' := ?_) #[true, true, true, true, true, true, true, true, true, false, false] rfl rfl (any_of HT_.out (by kernel_rfl)) (fun _ _ _ h => h) (Or.inl ⟨by rfl, ?_⟩) ?_ ?_
     rotate_left
     ·intro w'
      go_simp
      with_reducible rfl
     rotate_left
     ·simp only [Act.put, List.setIfInBounds_toArray, List.set_cons_zero, List.set_cons_succ, i64_w, i32_w]
      rfl
     exact norm_ (by simp only [putAll, Act.put, List.setIfInBounds_toArray, List.set_cons_zero, List.set_cons_succ]) (hCont (.slice Ao37 t256.length co37, .slice Ao38 t260.length co38, v265, gb268) _ ⟨hHeld, (rm_ HO258.out (fun _ hk => ⟨hk.1.2, hk.2⟩)), (rm_ HO262.out (fun _ hk => ⟨hk.1.2, hk.2⟩)), (rm_ HO266.out (fun _ hk => ⟨hk.1.2, hk.2⟩)), (bk_ BK251.out), (bk_ BK252.out), (bk_ BK268.out), GW268.out, GE268.out, NB251_268.out, NB268_251.out, NB252_268.out, NB268_252.out, (bb_ HB.out)⟩)
   rintro ⟨v257, v261, v265, gb268⟩ w40 ⟨hS_, h0_, h1_, h2_, h3_, h4_, h5_, h6_, h7_, h8_, h9_, h10_, h11_, h12_⟩
   have n0_ : Aside0 (Kd.R (Kd.int .i64) 2 w40 w.heap.size (fun k_ => some k_ ≠ (v261 : Value).ownBlock ∧ some k_ ≠ (v265 : Value).ownBlock) v257 t256) := ⟨h0_⟩
   have n1_ : Aside0 (Kd.R (Kd.int .i64) 2 w40 w.heap.size (fun k_ => some k_ ≠ (v257 : Value).ownBlock ∧ some k_ ≠ (v265 : Value).ownBlock) v261 t260) := ⟨h1_⟩
   have n2_ : Aside0 (Kd.R (Kd.int .i64) 2 w40 w.heap.size (fun k_ => some k_ ≠ (v257 : Value).ownBlock ∧ some k_ ≠ (v261 : Value).ownBlock) v265 t264) := ⟨h2_⟩
   have n3_ : Aside0 (w40.heap[gb251]? = some (.cells #[.int .i64 a0_0, .slice A0_1 l0_1.length c0_1] 24 (0, 0))) := ⟨h3_⟩
   have n4_ : Aside0 (w40.heap[gb252]? = some (.cells #[.int .i64 a1_0, .slice A1_1 l1_1.length c1_1] 24 (0, 0))) := ⟨h4_⟩
   have n5_ : Aside0 (w40.heap[gb268]? = some (.cells #[.int .i64 0, .slice none 0 0] 26 (0, 0))) := ⟨h5_⟩
   have n6_ : Aside0 (w.heap.size ≤ gb268) := ⟨h6_⟩
   have n7_ : Aside0 (w.heap.size ≤ gb268) := ⟨h7_⟩
   have n8_ : Aside0 (gb251 ≠ gb268) := ⟨h8_⟩
   have n9_ : Aside0 (gb268 ≠ gb251) := ⟨h9_⟩
   have n10_ : Aside0 (gb252 ≠ gb268) := ⟨h10_⟩
   have n11_ : Aside0 (gb268 ≠ gb252) := ⟨h11_⟩
   have n12_ : Aside0 (Below w.heap.size w w40) := ⟨h12_⟩
   clear BK251
   clear BK252
   clear HB
   clear h0_ h1_ h2_ h3_ h4_ h5_ h6_ h7_ h8_ h9_ h10_ h11_ h12_
   have HO258 := n0_
   have HO262 := n1_
   have HO266 := n2_
   have BK251 := n3_
   have BK252 := n4_
   have BK268 := n5_
   have GW268 := n6_
   have GE268 := n7_
   have NB251_268 := n8_
   have NB268_251 := n9_
   have NB252_268 := n10_
   have NB268_252 := n11_
   have HB := n12_
   clear n0_ n1_ n2_ n3_ n4_ n5_ n6_ n7_ n8_ n9_ n10_ n11_ n12_
   have hHeld : w40.cell? ⟨gb251, 0, none⟩ = some (.int .i64 a0_0) ∧ w40.cell? ⟨gb251, 1, none⟩ = some (.slice A0_1 l0_1.length c0_1) ∧ w40.cell? ⟨gb252, 0, none⟩ = some (.int .i64 a1_0) ∧ w40.cell? ⟨gb252, 1, none⟩ = some (.slice A1_1 l1_1.length c1_1) := hS_
   obtain ⟨Ao42, co42, eo42⟩ := Kd.R_slice HO266.out
   (first | subst eo42 | (injection eo42 with f1_ f2_ f3_; have f4_ := f1_.symm; have f5_ := f3_.symm; clear f1_ f2_ f3_; subst f4_; subst f5_))
   refine norm_ (a' := ?_) ?_ ?_
   rotate_left
   ·simp only [putAll, Act.put, List.setIfInBounds_toArray, List.set_cons_zero, List.set_cons_succ]
    rfl
   refine one_ (i := 9) (N := none) #[true, true, true, true, true, true, true, true, true, true, false] rfl rfl (one_of HT_.out (by kernel_rfl)) (by decide) (fun K hK => ?_)
   have hs41 : w40.cell? ⟨gb268, 0, none⟩ = some (.int .i64 0) := bc_ BK268 0
   have hfs41 := blk_frozen BK268.out 0
   have hns41_0 := NB251_268.out
   have hns41_1 := NB252_268.out
   have hms41_0 := NB268_251.out
   have hms41_1 := NB268_252.out
   have hs43 : w40.cell? ⟨gb268, 1, none⟩ = some (.slice none 0 0) := bc_ BK268 1
   have hfs43 := blk_frozen BK268.out 1
   have hns43_0 := NB251_268.out
   have hns43_1 := NB252_268.out
   have hms43_0 := NB268_251.out
   have hms43_1 := NB268_252.out
   refine skip_ (w1 := ?_) (by rfl) rfl ?_ ?_
   rotate_left
   ·go_simp
    rfl
   refine hK.out _ _ ⟨((cell_far (p := ⟨gb268, _, none⟩) NB251_268.out _).trans (((cell_far (p := ⟨gb268, _, none⟩) NB251_268.out _).trans (hHeld.1)))), ((cell_far (p := ⟨gb268, _, none⟩) NB251_268.out _).trans (((cell_far (p := ⟨gb268, _, none⟩) NB251_268.out _).trans (hHeld.2.1)))), ((cell_far (p := ⟨gb268, _, none⟩) NB252_268.out _).trans (((cell_far (p := ⟨gb268, _, none⟩) NB252_268.out _).trans (hHeld.2.2.1)))), ((cell_far (p := ⟨gb268, _, none⟩) NB252_268.out _).trans (((cell_far (p := ⟨gb268, _, none⟩) NB252_268.out _).trans (hHeld.2.2.2))))⟩ (fun hHeld => ?_)
   clear hK K
   refine pure_ (i := 10) (N := some 7) (v := ?_) (a' := ?_) #[true, true, true, true, true, true, true, true, true, true, true] rfl rfl (any_of HT_.out (by kernel_rfl)) (fun _ _ _ h => h) (Or.inl ⟨by rfl, ?_⟩) ?_ ?_
   rotate_left
   ·intro w'
    go_simp
    with_reducible rfl
   rotate_left
   ·simp only [Act.put, List.setIfInBounds_toArray, List.set_cons_zero, List.set_cons_succ, i64_w, i32_w]
    rfl
   refine done_ (done_of HT_.out (by kernel_rfl)) ?_
   have hnb44 := NB251_268.out
   have hnc44 := NB268_251.out
   obtain ⟨hcz45_0, hcz45_1, hfz45_0, hfz45_1⟩ := bx2_ BK251
   go_upto_region 12 with (first | ((with_reducible refine gate_callee (f := 7) rfl ?_); refine goesL_ (some 36) rfl rfl Try.func7 (by kernel_rfl) rfl #[.agg #[.int .i64 a0_0, .slice A0_1 l0_1.length c0_1]] rfl lm_ ?_; (with_reducible refine (laws_toLaurent.calls k a0_0 _ _ l0_1 t269 t270 _ ?side1 ?side2 A22.out).mono ?_); (case side1 => exact Kd.C_below HR0_1.out (bb_ HB.out)); (case side2 => exact HC0_1.out); rintro e w46 ⟨v271, rfl, ho0, hb⟩; refine ⟨_, rfl, ?_⟩; have n0_ := am_ (Kd.R_elder' ((rm_ (Kd.R_far (p := ⟨gb268, 1, none⟩) (Kd.R_far (p := ⟨gb268, 0, none⟩) (Kd.R_types HO258.out BK268.out (by decide)) (fun _ hk => hk.2) (.int .i64 t263)) (fun _ hk => hk.2) (.slice Ao42 t264.length co42)) (fun _ h_ => h_.1))) (Kd.R_base ho0) hb); have n1_ := am_ (Kd.R_elder' ((rm_ (Kd.R_far (p := ⟨gb268, 1, none⟩) (Kd.R_far (p := ⟨gb268, 0, none⟩) (Kd.R_types HO262.out BK268.out (by decide)) (fun _ hk => hk.2) (.int .i64 t263)) (fun _ hk => hk.2) (.slice Ao42 t264.length co42)) (fun _ h_ => h_.1))) (Kd.R_base ho0) hb); have n2_ := am_ (Kd.R_elder' ((rm_ (Kd.R_far (p := ⟨gb268, 1, none⟩) (Kd.R_far (p := ⟨gb268, 0, none⟩) (Kd.R_types HO266.out BK268.out (by decide)) (fun _ hk => hk.2) (.int .i64 t263)) (fun _ hk => hk.2) (.slice Ao42 t264.length co42)) (fun _ h_ => h_.1))) (Kd.R_base ho0) hb); have n3_ := am_ (Kd.R_lower (Kd.R_new' (Kd.R_new' (Kd.R_new' ho0 (Kd.R_lt ((rm_ (Kd.R_far (p := ⟨gb268, 1, none⟩) (Kd.R_far (p := ⟨gb268, 0, none⟩) (Kd.R_types HO258.out BK268.out (by decide)) (fun _ hk => hk.2) (.int .i64 t263)) (fun _ hk => hk.2) (.slice Ao42 t264.length co42)) (fun _ h_ => h_.1))))) (Kd.R_lt ((rm_ (Kd.R_far (p := ⟨gb268, 1, none⟩) (Kd.R_far (p := ⟨gb268, 0, none⟩) (Kd.R_types HO262.out BK268.out (by decide)) (fun _ hk => hk.2) (.int .i64 t263)) (fun _ hk => hk.2) (.slice Ao42 t264.length co42)) (fun _ h_ => h_.1))))) (Kd.R_lt ((rm_ (Kd.R_far (p := ⟨gb268, 1, none⟩) (Kd.R_far (p := ⟨gb268, 0, none⟩) (Kd.R_types HO266.out BK268.out (by decide)) (fun _ hk => hk.2) (.int .i64 t263)) (fun _ hk => hk.2) (.slice Ao42 t264.length co42)) (fun _ h_ => h_.1))))) (below_size (bb_ HB.out))); have n4_ := am_ (bw_ BK251 hb); have n5_ := am_ (bw_ BK252 hb); have n6_ := am_ (blk_below (g := gb268) (o := .cells #[.int .i64 t263, .slice Ao42 t264.length co42] 26 (0, 0)) (by (with_reducible repeat (first | refine blk_drewN ?_ _ | refine blk_drew ?_ | refine blk_alloc ?_ _)); refine blk_put (cs := #[.int .i64 t263, .slice none 0 0]) ?_ 1 _ rfl; (with_reducible repeat (first | refine blk_drewN ?_ _ | refine blk_drew ?_ | refine blk_alloc ?_ _)); refine blk_put (cs := #[.int .i64 0, .slice none 0 0]) ?_ 0 _ rfl; (with_reducible repeat (first | refine blk_drewN ?_ _ | refine blk_drew ?_ | refine blk_alloc ?_ _)); exact BK268.out) hb); have n7_ := am_ (below_step (bb_ HB.out) hb); clear HO258 HO262 HO266 BK251 BK252 BK268 HB; revert n0_ n1_ n2_ n3_ n4_ n5_ n6_ n7_; intro HO258 HO262 HO266 HO272 BK251 BK252 BK268 HB; (try clear hb); (try clear hb2); (try clear hk); (try clear hi); (try clear ho0)) | ((with_reducible refine gate_dst (N := 8) rfl ?_); refine box_event ?hg (N := 8) ?hd (cs := #[.int .i64 0, .slice none 0 0]) (t := 26) ?hr ?_; (case hd => rfl); (case hg => rfl); (case hr => first | (go_simp; done) | (go_simp; rfl)); intro gb273 hg w47 hbox hb; have n0_ := am_ (Kd.R_below (rk_ HO258.out) hb); have n1_ := am_ (Kd.R_below (rk_ HO262.out) hb); have n2_ := am_ (Kd.R_below (rk_ HO266.out) hb); have n3_ := am_ (Kd.R_below (rk_ HO272.out) hb); have n4_ := am_ (bw_ BK251 hb); have n5_ := am_ (bw_ BK252 hb); have n6_ := am_ (bw_ BK268 hb); have n7_ := am_ (below_step (bb_ HB.out) hb); have n8_ := am_ (hbox); have n9_ := am_ ((by rw [hg]; exact (below_size (bb_ HB.out)) : w.heap.size ≤ gb273)); have n10_ := am_ ((by rw [hg]; exact (below_size (bb_ HB.out)) : w.heap.size ≤ gb273)); have n11_ := am_ (nl_ BK251 hg); have n12_ := am_ (ng_ BK251 hg); have n13_ := am_ (nl_ BK252 hg); have n14_ := am_ (ng_ BK252 hg); have n15_ := am_ (nl_ BK268 hg); have n16_ := am_ (ng_ BK268 hg); clear HO258 HO262 HO266 HO272 BK251 BK252 BK268 HB; revert n0_ n1_ n2_ n3_ n4_ n5_ n6_ n7_ n8_ n9_ n10_ n11_ n12_ n13_ n14_ n15_ n16_; intro HO258 HO262 HO266 HO272 BK251 BK252 BK268 HB BK273 GW273 GE273 NB251_273 NB273_251 NB252_273 NB273_252 NB268_273 NB273_268; clear hb hbox hg; have hnb48 := NB273_251.out; have hnc48 := NB251_273.out; have hnb49 := NB273_252.out; have hnc49 := NB252_273.out; have hnb50 := NB273_268.out; have hnc50 := NB268_273.out; obtain ⟨hcz51_0, hcz51_1, hfz51_0, hfz51_1⟩ := bx2_ BK273; obtain ⟨Ao52, co52, eo52⟩ := Kd.R_slice HO272.out; subst eo52; have hnb53 := NB252_268.out; have hnc53 := NB268_252.out; obtain ⟨hcz54_0, hcz54_1, hfz54_0, hfz54_1⟩ := bx2_ BK252) | ((with_reducible refine gate_callee (f := 7) rfl ?_); refine goesL_ (some 38) rfl rfl Try.func7 (by kernel_rfl) rfl #[.agg #[.int .i64 a1_0, .slice A1_1 l1_1.length c1_1]] rfl lm_ ?_; (with_reducible refine (laws_toLaurent.calls k a1_0 _ _ l1_1 t274 t275 _ ?side1 ?side2 A23.out).mono ?_); (case side1 => exact Kd.C_below HR1_1.out (bb_ HB.out)); (case side2 => exact HC1_1.out); rintro e w55 ⟨v276, rfl, ho0, hb⟩; refine ⟨_, rfl, ?_⟩; have n0_ := am_ (Kd.R_elder' ((rm_ (Kd.R_far (p := ⟨gb273, 1, none⟩) (Kd.R_far (p := ⟨gb273, 0, none⟩) (Kd.R_types HO258.out BK273.out (by decide)) (fun _ hk => hk.2) (.int .i64 t269)) (fun _ hk => hk.2) (.slice Ao52 t270.length co52)) (fun _ h_ => h_.1))) (Kd.R_base ho0) hb); have n1_ := am_ (Kd.R_elder' ((rm_ (Kd.R_far (p := ⟨gb273, 1, none⟩) (Kd.R_far (p := ⟨gb273, 0, none⟩) (Kd.R_types HO262.out BK273.out (by decide)) (fun _ hk => hk.2) (.int .i64 t269)) (fun _ hk => hk.2) (.slice Ao52 t270.length co52)) (fun _ h_ => h_.1))) (Kd.R_base ho0) hb); have n2_ := am_ (Kd.R_elder' ((rm_ (Kd.R_far (p := ⟨gb273, 1, none⟩) (Kd.R_far (p := ⟨gb273, 0, none⟩) (Kd.R_types HO266.out BK273.out (by decide)) (fun _ hk => hk.2) (.int .i64 t269)) (fun _ hk => hk.2) (.slice Ao52 t270.length co52)) (fun _ h_ => h_.1))) (Kd.R_base ho0) hb); have n3_ := am_ (Kd.R_elder' ((rm_ (Kd.R_far (p := ⟨gb273, 1, none⟩) (Kd.R_far (p := ⟨gb273, 0, none⟩) (Kd.R_types HO272.out BK273.out (by decide)) (fun _ hk => hk.2) (.int .i64 t269)) (fun _ hk => hk.2) (.slice Ao52 t270.length co52)) (fun _ h_ => h_.1))) (Kd.R_base ho0) hb); have n4_ := am_ (Kd.R_lower (Kd.R_new' (Kd.R_new' (Kd.R_new' (Kd.R_new' ho0 (Kd.R_lt ((rm_ (Kd.R_far (p := ⟨gb273, 1, none⟩) (Kd.R_far (p := ⟨gb273, 0, none⟩) (Kd.R_types HO258.out BK273.out (by decide)) (fun _ hk => hk.2) (.int .i64 t269)) (fun _ hk => hk.2) (.slice Ao52 t270.length co52)) (fun _ h_ => h_.1))))) (Kd.R_lt ((rm_ (Kd.R_far (p := ⟨gb273, 1, none⟩) (Kd.R_far (p := ⟨gb273, 0, none⟩) (Kd.R_types HO262.out BK273.out (by decide)) (fun _ hk => hk.2) (.int .i64 t269)) (fun _ hk => hk.2) (.slice Ao52 t270.length co52)) (fun _ h_ => h_.1))))) (Kd.R_lt ((rm_ (Kd.R_far (p := ⟨gb273, 1, none⟩) (Kd.R_far (p := ⟨gb273, 0, none⟩) (Kd.R_types HO266.out BK273.out (by decide)) (fun _ hk => hk.2) (.int .i64 t269)) (fun _ hk => hk.2) (.slice Ao52 t270.length co52)) (fun _ h_ => h_.1))))) (Kd.R_lt ((rm_ (Kd.R_far (p := ⟨gb273, 1, none⟩) (Kd.R_far (p := ⟨gb273, 0, none⟩) (Kd.R_types HO272.out BK273.out (by decide)) (fun _ hk => hk.2) (.int .i64 t269)) (fun _ hk => hk.2) (.slice Ao52 t270.length co52)) (fun _ h_ => h_.1))))) (below_size (bb_ HB.out))); have n5_ := am_ (bw_ BK251 hb); have n6_ := am_ (bw_ BK252 hb); have n7_ := am_ (bw_ BK268 hb); have n8_ := am_ (blk_below (g := gb273) (o := .cells #[.int .i64 t269, .slice Ao52 t270.length co52] 26 (0, 0)) (by (with_reducible repeat (first | refine blk_drewN ?_ _ | refine blk_drew ?_ | refine blk_alloc ?_ _)); refine blk_put (cs := #[.int .i64 t269, .slice none 0 0]) ?_ 1 _ rfl; (with_reducible repeat (first | refine blk_drewN ?_ _ | refine blk_drew ?_ | refine blk_alloc ?_ _)); refine blk_put (cs := #[.int .i64 0, .slice none 0 0]) ?_ 0 _ rfl; (with_reducible repeat (first | refine blk_drewN ?_ _ | refine blk_drew ?_ | refine blk_alloc ?_ _)); exact BK273.out) hb); have n9_ := am_ (below_step (bb_ HB.out) hb); clear HO258 HO262 HO266 HO272 BK251 BK252 BK268 BK273 HB; revert n0_ n1_ n2_ n3_ n4_ n5_ n6_ n7_ n8_ n9_; intro HO258 HO262 HO266 HO272 HO277 BK251 BK252 BK268 BK273 HB; (try clear hb); (try clear hb2); (try clear hk); (try clear hi); (try clear ho0)) | ((with_reducible refine gate_dst (N := 9) rfl ?_); refine box_event ?hg (N := 9) ?hd (cs := #[.int .i64 0, .slice none 0 0]) (t := 26) ?hr ?_; (case hd => rfl); (case hg => rfl); (case hr => first | (go_simp; done) | (go_simp; rfl)); intro gb278 hg w56 hbox hb; have n0_ := am_ (Kd.R_below (rk_ HO258.out) hb); have n1_ := am_ (Kd.R_below (rk_ HO262.out) hb); have n2_ := am_ (Kd.R_below (rk_ HO266.out) hb); have n3_ := am_ (Kd.R_below (rk_ HO272.out) hb); have n4_ := am_ (Kd.R_below (rk_ HO277.out) hb); have n5_ := am_ (bw_ BK251 hb); have n6_ := am_ (bw_ BK252 hb); have n7_ := am_ (bw_ BK268 hb); have n8_ := am_ (bw_ BK273 hb); have n9_ := am_ (below_step (bb_ HB.out) hb); have n10_ := am_ (hbox); have n11_ := am_ ((by rw [hg]; exact (below_size (bb_ HB.out)) : w.heap.size ≤ gb278)); have n12_ := am_ ((by rw [hg]; exact (below_size (bb_ HB.out)) : w.heap.size ≤ gb278)); have n13_ := am_ (nl_ BK251 hg); have n14_ := am_ (ng_ BK251 hg); have n15_ := am_ (nl_ BK252 hg); have n16_ := am_ (ng_ BK252 hg); have n17_ := am_ (nl_ BK268 hg); have n18_ := am_ (ng_ BK268 hg); have n19_ := am_ (nl_ BK273 hg); have n20_ := am_ (ng_ BK273 hg); clear HO258 HO262 HO266 HO272 HO277 BK251 BK252 BK268 BK273 HB; revert n0_ n1_ n2_ n3_ n4_ n5_ n6_ n7_ n8_ n9_ n10_ n11_ n12_ n13_ n14_ n15_ n16_ n17_ n18_ n19_ n20_; intro HO258 HO262 HO266 HO272 HO277 BK251 BK252 BK268 BK273 HB BK278 GW278 GE278 NB251_278 NB278_251 NB252_278 NB278_252 NB268_278 NB278_268 NB273_278 NB278_273; clear hb hbox hg; have hnb57 := NB278_251.out; have hnc57 := NB251_278.out; have hnb58 := NB278_252.out; have hnc58 := NB252_278.out; have hnb59 := NB278_268.out; have hnc59 := NB268_278.out; have hnb60 := NB278_273.out; have hnc60 := NB273_278.out; obtain ⟨hcz61_0, hcz61_1, hfz61_0, hfz61_1⟩ := bx2_ BK278; obtain ⟨Ao62, co62, eo62⟩ := Kd.R_slice HO277.out; subst eo62) | ((with_reducible refine gate_store (t := 26) (p := 9) rfl ?_); refine store_event (t := 26) (p := 9) (v := ?vo_w63) (w1 := ((w56.setCell ⟨gb278, 0, none⟩ (.int .i64 t274)).setCell ⟨gb278, 1, none⟩ (.slice Ao62 t275.length co62))) ?hg ?ho ?hn ?hr ?_; (case ho => rfl); (case hg => rfl); (case hn => rfl); (case hr => first | (go_simp; done) | (go_simp; rfl)); intro w63 hw; have n0_ : Aside0 (Kd.R (Kd.int .i64) 2 w63 w.heap.size (fun k_ => some k_ ≠ (v261 : Value).ownBlock ∧ some k_ ≠ (.slice Ao42 t264.length co42 : Value).ownBlock ∧ some k_ ≠ (.slice Ao52 t270.length co52 : Value).ownBlock ∧ some k_ ≠ (.slice Ao62 t275.length co62 : Value).ownBlock) v257 t256) := ⟨(by rw [hw]; exact (rm_ (Kd.R_far (p := ⟨gb278, 1, none⟩) (Kd.R_far (p := ⟨gb278, 0, none⟩) (Kd.R_types HO258.out BK278.out (by decide)) (fun _ hk => hk.2) (.int .i64 t274)) (fun _ hk => hk.2) (.slice Ao62 t275.length co62)) (fun _ hk => ⟨hk.1.1.1.1, ⟨hk.1.1.1.2, ⟨hk.1.1.2, hk.1.2⟩⟩⟩)))⟩; have n1_ : Aside0 (Kd.R (Kd.int .i64) 2 w63 w.heap.size (fun k_ => some k_ ≠ (v257 : Value).ownBlock ∧ some k_ ≠ (.slice Ao42 t264.length co42 : Value).ownBlock ∧ some k_ ≠ (.slice Ao52 t270.length co52 : Value).ownBlock ∧ some k_ ≠ (.slice Ao62 t275.length co62 : Value).ownBlock) v261 t260) := ⟨(by rw [hw]; exact (rm_ (Kd.R_far (p := ⟨gb278, 1, none⟩) (Kd.R_far (p := ⟨gb278, 0, none⟩) (Kd.R_types HO262.out BK278.out (by decide)) (fun _ hk => hk.2) (.int .i64 t274)) (fun _ hk => hk.2) (.slice Ao62 t275.length co62)) (fun _ hk => ⟨hk.1.1.1.1, ⟨hk.1.1.1.2, ⟨hk.1.1.2, hk.1.2⟩⟩⟩)))⟩; have n2_ : Aside0 (Kd.R (Kd.int .i64) 2 w63 w.heap.size (fun k_ => some k_ ≠ (v257 : Value).ownBlock ∧ some k_ ≠ (v261 : Value).ownBlock ∧ some k_ ≠ (.slice Ao52 t270.length co52 : Value).ownBlock ∧ some k_ ≠ (.slice Ao62 t275.length co62 : Value).ownBlock) (.slice Ao42 t264.length co42) t264) := ⟨(by rw [hw]; exact (rm_ (Kd.R_far (p := ⟨gb278, 1, none⟩) (Kd.R_far (p := ⟨gb278, 0, none⟩) (Kd.R_types HO266.out BK278.out (by decide)) (fun _ hk => hk.2) (.int .i64 t274)) (fun _ hk => hk.2) (.slice Ao62 t275.length co62)) (fun _ hk => ⟨hk.1.1.1.1, ⟨hk.1.1.1.2, ⟨hk.1.1.2, hk.1.2⟩⟩⟩)))⟩; have n3_ : Aside0 (Kd.R (Kd.int .i64) 2 w63 w.heap.size (fun k_ => some k_ ≠ (v257 : Value).ownBlock ∧ some k_ ≠ (v261 : Value).ownBlock ∧ some k_ ≠ (.slice Ao42 t264.length co42 : Value).ownBlock ∧ some k_ ≠ (.slice Ao62 t275.length co62 : Value).ownBlock) (.slice Ao52 t270.length co52) t270) := ⟨(by rw [hw]; exact (rm_ (Kd.R_far (p := ⟨gb278, 1, none⟩) (Kd.R_far (p := ⟨gb278, 0, none⟩) (Kd.R_types HO272.out BK278.out (by decide)) (fun _ hk => hk.2) (.int .i64 t274)) (fun _ hk => hk.2) (.slice Ao62 t275.length co62)) (fun _ hk => ⟨hk.1.1.1.1.2, ⟨hk.1.1.1.2, ⟨hk.1.1.2, hk.1.2⟩⟩⟩)))⟩; have n4_ : Aside0 (Kd.R (Kd.int .i64) 2 w63 w.heap.size (fun k_ => some k_ ≠ (v257 : Value).ownBlock ∧ some k_ ≠ (v261 : Value).ownBlock ∧ some k_ ≠ (.slice Ao42 t264.length co42 : Value).ownBlock ∧ some k_ ≠ (.slice Ao52 t270.length co52 : Value).ownBlock) (.slice Ao62 t275.length co62) t275) := ⟨(by rw [hw]; exact (rm_ (Kd.R_far (p := ⟨gb278, 1, none⟩) (Kd.R_far (p := ⟨gb278, 0, none⟩) (Kd.R_types HO277.out BK278.out (by decide)) (fun _ hk => hk.2) (.int .i64 t274)) (fun _ hk => hk.2) (.slice Ao62 t275.length co62)) (fun _ hk => ⟨hk.1.1.1.1.2, ⟨hk.1.1.1.2, ⟨hk.1.1.2, hk.1.2⟩⟩⟩)))⟩; have n5_ : Aside0 (w63.heap[gb251]? = some (.cells #[.int .i64 a0_0, .slice A0_1 l0_1.length c0_1] 24 (0, 0))) := ⟨(by rw [hw]; exact (bk_ BK251.out))⟩; have n6_ : Aside0 (w63.heap[gb252]? = some (.cells #[.int .i64 a1_0, .slice A1_1 l1_1.length c1_1] 24 (0, 0))) := ⟨(by rw [hw]; exact (bk_ BK252.out))⟩; have n7_ : Aside0 (w63.heap[gb268]? = some (.cells #[.int .i64 t263, .slice Ao42 t264.length co42] 26 (0, 0))) := ⟨(by rw [hw]; exact (bk_ BK268.out))⟩; have n8_ : Aside0 (w63.heap[gb273]? = some (.cells #[.int .i64 t269, .slice Ao52 t270.length co52] 26 (0, 0))) := ⟨(by rw [hw]; exact (bk_ BK273.out))⟩; have n9_ : Aside0 (w63.heap[gb278]? = some (.cells #[.int .i64 t274, .slice Ao62 t275.length co62] 26 (0, 0))) := ⟨(by rw [hw]; exact (by (with_reducible repeat (first | refine blk_drewN ?_ _ | refine blk_drew ?_ | refine blk_alloc ?_ _)); refine blk_put (cs := #[.int .i64 t274, .slice none 0 0]) ?_ 1 _ rfl; (with_reducible repeat (first | refine blk_drewN ?_ _ | refine blk_drew ?_ | refine blk_alloc ?_ _)); refine blk_put (cs := #[.int .i64 0, .slice none 0 0]) ?_ 0 _ rfl; (with_reducible repeat (first | refine blk_drewN ?_ _ | refine blk_drew ?_ | refine blk_alloc ?_ _)); exact BK278.out))⟩; have n10_ : Aside0 (Below w.heap.size w w63) := ⟨(by rw [hw]; exact (bb_ HB.out))⟩; clear hw HO258 HO262 HO266 HO272 HO277 BK251 BK252 BK268 BK273 BK278 HB; revert n0_ n1_ n2_ n3_ n4_ n5_ n6_ n7_ n8_ n9_ n10_; intro HO258 HO262 HO266 HO272 HO277 BK251 BK252 BK268 BK273 BK278 HB; obtain ⟨hcz64_0, hcz64_1, hfz64_0, hfz64_1⟩ := bx2_ BK273; obtain ⟨hcz65_0, hcz65_1, hfz65_0, hfz65_1⟩ := bx2_ BK278) | ((with_reducible refine gate_callee (f := 8) rfl ?_); refine goesL_ (some 42) rfl rfl Try.func8 (by kernel_rfl) rfl #[.agg #[.int .i64 t269, .slice Ao52 t270.length co52], .agg #[.int .i64 t274, .slice Ao62 t275.length co62]] rfl lm_ ?_; (with_reducible refine (impl_AddLaurent.calls k t269 (fun k_ => some k_ = (.slice Ao52 t270.length co52 : Value).ownBlock) _ _ t270 t274 (fun k_ => some k_ = (.slice Ao62 t275.length co62 : Value).ownBlock) _ _ t275 t279 t280 t283 _ ?side1 ?side2 A24.out).mono ?_); (case side1 => exact Kd.R_V (Kd.R_tight rfl (Kd.R_types (Kd.R_types (Kd.R_types (Kd.R_types (Kd.R_types (HO272.out) BK251.out (by decide)) BK252.out (by decide)) BK268.out (by decide)) BK273.out (by decide)) BK278.out (by decide)))); (case side2 => exact Kd.R_V (Kd.R_tight rfl (Kd.R_types (Kd.R_types (Kd.R_types (Kd.R_types (Kd.R_types (HO277.out) BK251.out (by decide)) BK252.out (by decide)) BK268.out (by decide)) BK273.out (by decide)) BK278.out (by decide)))); rintro e w66 ⟨v281, rfl, ho0, hb⟩; refine ⟨_, rfl, ?_⟩; have n0_ := am_ (Kd.R_elder' (rk_ HO258.out) (Kd.R_base ho0) hb); have n1_ := am_ (Kd.R_elder' (rk_ HO262.out) (Kd.R_base ho0) hb); have n2_ := am_ (Kd.R_elder' (rk_ HO266.out) (Kd.R_base ho0) hb); have n3_ := am_ (Kd.R_elder' (rk_ HO272.out) (Kd.R_base ho0) hb); have n4_ := am_ (Kd.R_elder' (rk_ HO277.out) (Kd.R_base ho0) hb); have n5_ := am_ (Kd.R_lower (Kd.R_new' (Kd.R_new' (Kd.R_new' (Kd.R_new' (Kd.R_new' (Kd.R_mono (ok' := fun k_ => True) ho0 (fun _ hk_ => trivial)) (Kd.R_lt (rk_ HO258.out))) (Kd.R_lt (rk_ HO262.out))) (Kd.R_lt (rk_ HO266.out))) (Kd.R_lt (rk_ HO272.out))) (Kd.R_lt (rk_ HO277.out))) (below_size (bb_ HB.out))); have n6_ := am_ (bw_ BK251 hb); have n7_ := am_ (bw_ BK252 hb); have n8_ := am_ (bw_ BK268 hb); have n9_ := am_ (bw_ BK273 hb); have n10_ := am_ (bw_ BK278 hb); have n11_ := am_ (below_step (bb_ HB.out) hb); clear HO258 HO262 HO266 HO272 HO277 BK251 BK252 BK268 BK273 BK278 HB; revert n0_ n1_ n2_ n3_ n4_ n5_ n6_ n7_ n8_ n9_ n10_ n11_; intro HO258 HO262 HO266 HO272 HO277 HO282 BK251 BK252 BK268 BK273 BK278 HB; (try clear hb); (try clear hb2); (try clear hk); (try clear hi); (try clear ho0)) | ((with_reducible refine gate_dst (N := 10) rfl ?_); refine box_event ?hg (N := 10) ?hd (cs := #[.int .i64 0, .slice none 0 0]) (t := 26) ?hr ?_; (case hd => rfl); (case hg => rfl); (case hr => first | (go_simp; done) | (go_simp; rfl)); intro gb284 hg w67 hbox hb; have n0_ := am_ (Kd.R_below (rk_ HO258.out) hb); have n1_ := am_ (Kd.R_below (rk_ HO262.out) hb); have n2_ := am_ (Kd.R_below (rk_ HO266.out) hb); have n3_ := am_ (Kd.R_below (rk_ HO272.out) hb); have n4_ := am_ (Kd.R_below (rk_ HO277.out) hb); have n5_ := am_ (Kd.R_below (rk_ HO282.out) hb); have n6_ := am_ (bw_ BK251 hb); have n7_ := am_ (bw_ BK252 hb); have n8_ := am_ (bw_ BK268 hb); have n9_ := am_ (bw_ BK273 hb); have n10_ := am_ (bw_ BK278 hb); have n11_ := am_ (below_step (bb_ HB.out) hb); have n12_ := am_ (hbox); have n13_ := am_ ((by rw [hg]; exact (below_size (bb_ HB.out)) : w.heap.size ≤ gb284)); have n14_ := am_ ((by rw [hg]; exact (below_size (bb_ HB.out)) : w.heap.size ≤ gb284)); have n15_ := am_ (nl_ BK251 hg); have n16_ := am_ (ng_ BK251 hg); have n17_ := am_ (nl_ BK252 hg); have n18_ := am_ (ng_ BK252 hg); have n19_ := am_ (nl_ BK268 hg); have n20_ := am_ (ng_ BK268 hg); have n21_ := am_ (nl_ BK273 hg); have n22_ := am_ (ng_ BK273 hg); have n23_ := am_ (nl_ BK278 hg); have n24_ := am_ (ng_ BK278 hg); clear HO258 HO262 HO266 HO272 HO277 HO282 BK251 BK252 BK268 BK273 BK278 HB; revert n0_ n1_ n2_ n3_ n4_ n5_ n6_ n7_ n8_ n9_ n10_ n11_ n12_ n13_ n14_ n15_ n16_ n17_ n18_ n19_ n20_ n21_ n22_ n23_ n24_; intro HO258 HO262 HO266 HO272 HO277 HO282 BK251 BK252 BK268 BK273 BK278 HB BK284 GW284 GE284 NB251_284 NB284_251 NB252_284 NB284_252 NB268_284 NB284_268 NB273_284 NB284_273 NB278_284 NB284_278; clear hb hbox hg; have hnb68 := NB284_251.out; have hnc68 := NB251_284.out; have hnb69 := NB284_252.out; have hnc69 := NB252_284.out; have hnb70 := NB284_268.out; have hnc70 := NB268_284.out; have hnb71 := NB284_273.out; have hnc71 := NB273_284.out; have hnb72 := NB284_278.out; have hnc72 := NB278_284.out; obtain ⟨hcz73_0, hcz73_1, hfz73_0, hfz73_1⟩ := bx2_ BK284; obtain ⟨Ao74, co74, eo74⟩ := Kd.R_slice HO282.out; subst eo74))
   (try simp only [Act.put, List.setIfInBounds_toArray, List.set_cons_zero, List.set_cons_succ])
   go_cut [53] (fun v53 wc => ∃ (kq : Nat) (x53_24 : Bool), v53 = .bool x53_24 ∧ Aside0 (laws_FnExactAddLaurent.j0 kq t267 t283 x53_24 a0_0 l0_1 a1_0 l1_1 t263 t264 t269 t270 t274 t275 t279 t280 = some r) ∧ Aside0 (kq ≤ k) ∧ Aside0 (Kd.R (Kd.int .i64) 2 wc w.heap.size (fun k_ => some k_ ≠ ((.slice Ao52 t270.length co52) : Value).ownBlock ∧ some k_ ≠ ((.slice Ao62 t275.length co62) : Value).ownBlock ∧ some k_ ≠ ((.slice Ao74 t280.length co74) : Value).ownBlock) (.slice Ao42 t264.length co42) t264) ∧ Aside0 (Kd.R (Kd.int .i64) 2 wc w.heap.size (fun k_ => some k_ ≠ ((.slice Ao42 t264.length co42) : Value).ownBlock ∧ some k_ ≠ ((.slice Ao62 t275.length co62) : Value).ownBlock ∧ some k_ ≠ ((.slice Ao74 t280.length co74) : Value).ownBlock) (.slice Ao52 t270.length co52) t270) ∧ Aside0 (Kd.R (Kd.int .i64) 2 wc w.heap.size (fun k_ => some k_ ≠ ((.slice Ao42 t264.length co42) : Value).ownBlock ∧ some k_ ≠ ((.slice Ao52 t270.length co52) : Value).ownBlock ∧ some k_ ≠ ((.slice Ao74 t280.length co74) : Value).ownBlock) (.slice Ao62 t275.length co62) t275) ∧ Aside0 (Kd.R (Kd.int .i64) 2 wc w.heap.size (fun k_ => some k_ ≠ ((.slice Ao42 t264.length co42) : Value).ownBlock ∧ some k_ ≠ ((.slice Ao52 t270.length co52) : Value).ownBlock ∧ some k_ ≠ ((.slice Ao62 t275.length co62) : Value).ownBlock) (.slice Ao74 t280.length co74) t280) ∧ Aside0 (wc.heap[gb251]? = some (.cells #[.int .i64 a0_0, (.slice A0_1 l0_1.length c0_1)] 24 (0, 0))) ∧ Aside0 (wc.heap[gb252]? = some (.cells #[.int .i64 a1_0, (.slice A1_1 l1_1.length c1_1)] 24 (0, 0))) ∧ Aside0 (wc.heap[gb268]? = some (.cells #[.int .i64 t263, (.slice Ao42 t264.length co42)] 26 (0, 0))) ∧ Aside0 (wc.heap[gb273]? = some (.cells #[.int .i64 t269, (.slice Ao52 t270.length co52)] 26 (0, 0))) ∧ Aside0 (wc.heap[gb278]? = some (.cells #[.int .i64 t274, (.slice Ao62 t275.length co62)] 26 (0, 0))) ∧ Aside0 (wc.heap[gb284]? = some (.cells #[.int .i64 t279, (.slice Ao74 t280.length co74)] 26 (0, 0))) ∧ Aside0 (Below w.heap.size w wc))
   case first =>
    have H := HC25.out
    clear HC25
    replace H := Option.bind_eq_some_iff.mp H
    obtain ⟨t285, A750, H⟩ := H
    replace H : (if t285 = true then (laws_FnExactAddLaurent.j0 k t267 t283 (t283 != t267) a0_0 l0_1 a1_0 l1_1 t263 t264 t269 t270 t274 t275 t279 t280) else (laws_FnExactAddLaurent.j0 k t267 t283 true a0_0 l0_1 a1_0 l1_1 t263 t264 t269 t270 t274 t275 t279 t280)) = some r := H
    have A75 := am_ A750
    clear A750
    by_cases c76 : t285 = true
    ·subst c76
     have H1 : (laws_FnExactAddLaurent.j0 k t267 t283 (t283 != t267) a0_0 l0_1 a1_0 l1_1 t263 t264 t269 t270 t274 t275 t279 t280) = some r := by rw [if_pos rfl] at H; exact H
     clear H
     have H := H1
     clear H1
     have H' := am_ H
     clear H
     have hnb77 := NB284_251.out
     have hnc77 := NB251_284.out
     have hnb78 := NB284_252.out
     have hnc78 := NB252_284.out
     have hnb79 := NB284_268.out
     have hnc79 := NB268_284.out
     have hnb80 := NB284_273.out
     have hnc80 := NB273_284.out
     have hnb81 := NB284_278.out
     have hnc81 := NB278_284.out
     obtain ⟨hcz82_0, hcz82_1, hfz82_0, hfz82_1⟩ := bx2_ BK284
     have hnb83 := NB268_251.out
     have hnc83 := NB251_268.out
     have hnb84 := NB268_252.out
     have hnc84 := NB252_268.out
     have hnb85 := NB268_273.out
     have hnc85 := NB273_268.out
     have hnb86 := NB268_278.out
     have hnc86 := NB278_268.out
     obtain ⟨hcz87_0, hcz87_1, hfz87_0, hfz87_1⟩ := bx2_ BK268
     go_wp2_with (first | ((with_reducible refine gate_callee (f := 9) rfl ?_); refine goesL_ (some 47) rfl rfl Try.func9 (by kernel_rfl) rfl #[.agg #[.int .i64 t279, .slice Ao74 t280.length co74], .agg #[.int .i64 t263, .slice Ao42 t264.length co42]] rfl lm_ ?_; (with_reducible refine (laws_eqLaurent.calls k t279 _ _ t280 t263 _ _ t264 true _ ?side1 ?side2 ?side3 ?side4 A75.out).mono ?_); (case side1 => refine (Kd.R_reads' (e := 2) (base := w.heap.size) (ok := fun k_ => (((((True ∧ some k_ ≠ (v257 : Value).ownBlock) ∧ some k_ ≠ (v261 : Value).ownBlock) ∧ some k_ ≠ (.slice Ao42 t264.length co42 : Value).ownBlock) ∧ some k_ ≠ (.slice Ao52 t270.length co52 : Value).ownBlock) ∧ some k_ ≠ (.slice Ao62 t275.length co62 : Value).ownBlock)) (n := t280.length) (c := co74) ?_).2.2; exact ((rm_ (Kd.R_far (p := ⟨gb284, 1, none⟩) (Kd.R_far (p := ⟨gb284, 0, none⟩) (Kd.R_types HO282.out BK284.out (by decide)) (fun _ hk => hk.2) (.int .i64 t279)) (fun _ hk => hk.2) (.slice Ao74 t280.length co74)) (fun _ h_ => h_.1)))); (case side2 => exact (Kd.R_reads' HO282.out).2.1); (case side3 => refine (Kd.R_reads' (e := 2) (base := w.heap.size) (ok := fun k_ => ((some k_ ≠ (v257 : Value).ownBlock ∧ (some k_ ≠ (v261 : Value).ownBlock ∧ (some k_ ≠ (.slice Ao52 t270.length co52 : Value).ownBlock ∧ some k_ ≠ (.slice Ao62 t275.length co62 : Value).ownBlock))) ∧ some k_ ≠ (.slice Ao74 t280.length co74 : Value).ownBlock)) (n := t264.length) (c := co42) ?_).2.2; exact ((rm_ (Kd.R_far (p := ⟨gb284, 1, none⟩) (Kd.R_far (p := ⟨gb284, 0, none⟩) (Kd.R_types HO266.out BK284.out (by decide)) (fun _ hk => hk.2) (.int .i64 t279)) (fun _ hk => hk.2) (.slice Ao74 t280.length co74)) (fun _ h_ => h_.1)))); (case side4 => exact (Kd.R_reads' HO266.out).2.1); rintro e w88 ⟨rfl, hb⟩; refine ⟨_, rfl, ?_⟩; have n0_ := am_ (Kd.R_below ((rm_ (Kd.R_far (p := ⟨gb284, 1, none⟩) (Kd.R_far (p := ⟨gb284, 0, none⟩) (Kd.R_types HO258.out BK284.out (by decide)) (fun _ hk => hk.2) (.int .i64 t279)) (fun _ hk => hk.2) (.slice Ao74 t280.length co74)) (fun _ h_ => h_.1))) hb); have n1_ := am_ (Kd.R_below ((rm_ (Kd.R_far (p := ⟨gb284, 1, none⟩) (Kd.R_far (p := ⟨gb284, 0, none⟩) (Kd.R_types HO262.out BK284.out (by decide)) (fun _ hk => hk.2) (.int .i64 t279)) (fun _ hk => hk.2) (.slice Ao74 t280.length co74)) (fun _ h_ => h_.1))) hb); have n2_ := am_ (Kd.R_below ((rm_ (Kd.R_far (p := ⟨gb284, 1, none⟩) (Kd.R_far (p := ⟨gb284, 0, none⟩) (Kd.R_types HO266.out BK284.out (by decide)) (fun _ hk => hk.2) (.int .i64 t279)) (fun _ hk => hk.2) (.slice Ao74 t280.length co74)) (fun _ h_ => h_.1))) hb); have n3_ := am_ (Kd.R_below ((rm_ (Kd.R_far (p := ⟨gb284, 1, none⟩) (Kd.R_far (p := ⟨gb284, 0, none⟩) (Kd.R_types HO272.out BK284.out (by decide)) (fun _ hk => hk.2) (.int .i64 t279)) (fun _ hk => hk.2) (.slice Ao74 t280.length co74)) (fun _ h_ => h_.1))) hb); have n4_ := am_ (Kd.R_below ((rm_ (Kd.R_far (p := ⟨gb284, 1, none⟩) (Kd.R_far (p := ⟨gb284, 0, none⟩) (Kd.R_types HO277.out BK284.out (by decide)) (fun _ hk => hk.2) (.int .i64 t279)) (fun _ hk => hk.2) (.slice Ao74 t280.length co74)) (fun _ h_ => h_.1))) hb); have n5_ := am_ (Kd.R_below ((rm_ (Kd.R_far (p := ⟨gb284, 1, none⟩) (Kd.R_far (p := ⟨gb284, 0, none⟩) (Kd.R_types HO282.out BK284.out (by decide)) (fun _ hk => hk.2) (.int .i64 t279)) (fun _ hk => hk.2) (.slice Ao74 t280.length co74)) (fun _ h_ => h_.1))) hb); have n6_ := am_ (bw_ BK251 hb); have n7_ := am_ (bw_ BK252 hb); have n8_ := am_ (bw_ BK268 hb); have n9_ := am_ (bw_ BK273 hb); have n10_ := am_ (bw_ BK278 hb); have n11_ := am_ (blk_below (g := gb284) (o := .cells #[.int .i64 t279, .slice Ao74 t280.length co74] 26 (0, 0)) (by (with_reducible repeat (first | refine blk_drewN ?_ _ | refine blk_drew ?_ | refine blk_alloc ?_ _)); refine blk_put (cs := #[.int .i64 t279, .slice none 0 0]) ?_ 1 _ rfl; (with_reducible repeat (first | refine blk_drewN ?_ _ | refine blk_drew ?_ | refine blk_alloc ?_ _)); refine blk_put (cs := #[.int .i64 0, .slice none 0 0]) ?_ 0 _ rfl; (with_reducible repeat (first | refine blk_drewN ?_ _ | refine blk_drew ?_ | refine blk_alloc ?_ _)); exact BK284.out) hb); have n12_ := am_ (below_step (bb_ HB.out) hb); clear HO258 HO262 HO266 HO272 HO277 HO282 BK251 BK252 BK268 BK273 BK278 BK284 HB; revert n0_ n1_ n2_ n3_ n4_ n5_ n6_ n7_ n8_ n9_ n10_ n11_ n12_; intro HO258 HO262 HO266 HO272 HO277 HO282 BK251 BK252 BK268 BK273 BK278 BK284 HB; (try clear hb); (try clear hb2); (try clear hk); (try clear hi)))
     go_meet
     case rel => exact ⟨_, ((t283 != t267)), (by first | rfl | (simp; done) | (simp [*]; done)), H', ⟨by first | omega | exact Nat.le_refl _⟩, ⟨rm_ HO266.out (fun _ hk => ⟨hk.1.2.2.1, ⟨hk.1.2.2.2, hk.2⟩⟩)⟩, ⟨rm_ HO272.out (fun _ hk => ⟨hk.1.2.2.1, ⟨hk.1.2.2.2, hk.2⟩⟩)⟩, ⟨rm_ HO277.out (fun _ hk => ⟨hk.1.2.2.1, ⟨hk.1.2.2.2, hk.2⟩⟩)⟩, ⟨rm_ HO282.out (fun _ hk => ⟨hk.1.1.2, ⟨hk.1.2, hk.2⟩⟩)⟩, ⟨bk_ BK251.out⟩, ⟨bk_ BK252.out⟩, ⟨bk_ BK268.out⟩, ⟨bk_ BK273.out⟩, ⟨bk_ BK278.out⟩, ⟨bk_ BK284.out⟩, ⟨bb_ HB.out⟩⟩
    ·replace c76 := Bool.eq_false_iff.mpr c76
     subst c76
     have H1 : (laws_FnExactAddLaurent.j0 k t267 t283 true a0_0 l0_1 a1_0 l1_1 t263 t264 t269 t270 t274 t275 t279 t280) = some r := by rw [if_neg (show ¬ (false = true) by decide)] at H; exact H
     clear H
     have H := H1
     clear H1
     have H' := am_ H
     clear H
     have hnb89 := NB284_251.out
     have hnc89 := NB251_284.out
     have hnb90 := NB284_252.out
     have hnc90 := NB252_284.out
     have hnb91 := NB284_268.out
     have hnc91 := NB268_284.out
     have hnb92 := NB284_273.out
     have hnc92 := NB273_284.out
     have hnb93 := NB284_278.out
     have hnc93 := NB278_284.out
     obtain ⟨hcz94_0, hcz94_1, hfz94_0, hfz94_1⟩ := bx2_ BK284
     have hnb95 := NB268_251.out
     have hnc95 := NB251_268.out
     have hnb96 := NB268_252.out
     have hnc96 := NB252_268.out
     have hnb97 := NB268_273.out
     have hnc97 := NB273_268.out
     have hnb98 := NB268_278.out
     have hnc98 := NB278_268.out
     obtain ⟨hcz99_0, hcz99_1, hfz99_0, hfz99_1⟩ := bx2_ BK268
     go_wp2_with (first | ((with_reducible refine gate_callee (f := 9) rfl ?_); refine goesL_ (some 47) rfl rfl Try.func9 (by kernel_rfl) rfl #[.agg #[.int .i64 t279, .slice Ao74 t280.length co74], .agg #[.int .i64 t263, .slice Ao42 t264.length co42]] rfl lm_ ?_; (with_reducible refine (laws_eqLaurent.calls k t279 _ _ t280 t263 _ _ t264 false _ ?side1 ?side2 ?side3 ?side4 A75.out).mono ?_); (case side1 => refine (Kd.R_reads' (e := 2) (base := w.heap.size) (ok := fun k_ => (((((True ∧ some k_ ≠ (v257 : Value).ownBlock) ∧ some k_ ≠ (v261 : Value).ownBlock) ∧ some k_ ≠ (.slice Ao42 t264.length co42 : Value).ownBlock) ∧ some k_ ≠ (.slice Ao52 t270.length co52 : Value).ownBlock) ∧ some k_ ≠ (.slice Ao62 t275.length co62 : Value).ownBlock)) (n := t280.length) (c := co74) ?_).2.2; exact ((rm_ (Kd.R_far (p := ⟨gb284, 1, none⟩) (Kd.R_far (p := ⟨gb284, 0, none⟩) (Kd.R_types HO282.out BK284.out (by decide)) (fun _ hk => hk.2) (.int .i64 t279)) (fun _ hk => hk.2) (.slice Ao74 t280.length co74)) (fun _ h_ => h_.1)))); (case side2 => exact (Kd.R_reads' HO282.out).2.1); (case side3 => refine (Kd.R_reads' (e := 2) (base := w.heap.size) (ok := fun k_ => ((some k_ ≠ (v257 : Value).ownBlock ∧ (some k_ ≠ (v261 : Value).ownBlock ∧ (some k_ ≠ (.slice Ao52 t270.length co52 : Value).ownBlock ∧ some k_ ≠ (.slice Ao62 t275.length co62 : Value).ownBlock))) ∧ some k_ ≠ (.slice Ao74 t280.length co74 : Value).ownBlock)) (n := t264.length) (c := co42) ?_).2.2; exact ((rm_ (Kd.R_far (p := ⟨gb284, 1, none⟩) (Kd.R_far (p := ⟨gb284, 0, none⟩) (Kd.R_types HO266.out BK284.out (by decide)) (fun _ hk => hk.2) (.int .i64 t279)) (fun _ hk => hk.2) (.slice Ao74 t280.length co74)) (fun _ h_ => h_.1)))); (case side4 => exact (Kd.R_reads' HO266.out).2.1); rintro e w100 ⟨rfl, hb⟩; refine ⟨_, rfl, ?_⟩; have n0_ := am_ (Kd.R_below ((rm_ (Kd.R_far (p := ⟨gb284, 1, none⟩) (Kd.R_far (p := ⟨gb284, 0, none⟩) (Kd.R_types HO258.out BK284.out (by decide)) (fun _ hk => hk.2) (.int .i64 t279)) (fun _ hk => hk.2) (.slice Ao74 t280.length co74)) (fun _ h_ => h_.1))) hb); have n1_ := am_ (Kd.R_below ((rm_ (Kd.R_far (p := ⟨gb284, 1, none⟩) (Kd.R_far (p := ⟨gb284, 0, none⟩) (Kd.R_types HO262.out BK284.out (by decide)) (fun _ hk => hk.2) (.int .i64 t279)) (fun _ hk => hk.2) (.slice Ao74 t280.length co74)) (fun _ h_ => h_.1))) hb); have n2_ := am_ (Kd.R_below ((rm_ (Kd.R_far (p := ⟨gb284, 1, none⟩) (Kd.R_far (p := ⟨gb284, 0, none⟩) (Kd.R_types HO266.out BK284.out (by decide)) (fun _ hk => hk.2) (.int .i64 t279)) (fun _ hk => hk.2) (.slice Ao74 t280.length co74)) (fun _ h_ => h_.1))) hb); have n3_ := am_ (Kd.R_below ((rm_ (Kd.R_far (p := ⟨gb284, 1, none⟩) (Kd.R_far (p := ⟨gb284, 0, none⟩) (Kd.R_types HO272.out BK284.out (by decide)) (fun _ hk => hk.2) (.int .i64 t279)) (fun _ hk => hk.2) (.slice Ao74 t280.length co74)) (fun _ h_ => h_.1))) hb); have n4_ := am_ (Kd.R_below ((rm_ (Kd.R_far (p := ⟨gb284, 1, none⟩) (Kd.R_far (p := ⟨gb284, 0, none⟩) (Kd.R_types HO277.out BK284.out (by decide)) (fun _ hk => hk.2) (.int .i64 t279)) (fun _ hk => hk.2) (.slice Ao74 t280.length co74)) (fun _ h_ => h_.1))) hb); have n5_ := am_ (Kd.R_below ((rm_ (Kd.R_far (p := ⟨gb284, 1, none⟩) (Kd.R_far (p := ⟨gb284, 0, none⟩) (Kd.R_types HO282.out BK284.out (by decide)) (fun _ hk => hk.2) (.int .i64 t279)) (fun _ hk => hk.2) (.slice Ao74 t280.length co74)) (fun _ h_ => h_.1))) hb); have n6_ := am_ (bw_ BK251 hb); have n7_ := am_ (bw_ BK252 hb); have n8_ := am_ (bw_ BK268 hb); have n9_ := am_ (bw_ BK273 hb); have n10_ := am_ (bw_ BK278 hb); have n11_ := am_ (blk_below (g := gb284) (o := .cells #[.int .i64 t279, .slice Ao74 t280.length co74] 26 (0, 0)) (by (with_reducible repeat (first | refine blk_drewN ?_ _ | refine blk_drew ?_ | refine blk_alloc ?_ _)); refine blk_put (cs := #[.int .i64 t279, .slice none 0 0]) ?_ 1 _ rfl; (with_reducible repeat (first | refine blk_drewN ?_ _ | refine blk_drew ?_ | refine blk_alloc ?_ _)); refine blk_put (cs := #[.int .i64 0, .slice none 0 0]) ?_ 0 _ rfl; (with_reducible repeat (first | refine blk_drewN ?_ _ | refine blk_drew ?_ | refine blk_alloc ?_ _)); exact BK284.out) hb); have n12_ := am_ (below_step (bb_ HB.out) hb); clear HO258 HO262 HO266 HO272 HO277 HO282 BK251 BK252 BK268 BK273 BK278 BK284 HB; revert n0_ n1_ n2_ n3_ n4_ n5_ n6_ n7_ n8_ n9_ n10_ n11_ n12_; intro HO258 HO262 HO266 HO272 HO277 HO282 BK251 BK252 BK268 BK273 BK278 BK284 HB; (try clear hb); (try clear hb2); (try clear hk); (try clear hi)))
     go_meet
     case rel => exact ⟨_, (true), (by first | rfl | (simp; done) | (simp [*]; done)), H', ⟨by first | omega | exact Nat.le_refl _⟩, ⟨rm_ HO266.out (fun _ hk => ⟨hk.1.2.2.1, ⟨hk.1.2.2.2, hk.2⟩⟩)⟩, ⟨rm_ HO272.out (fun _ hk => ⟨hk.1.2.2.1, ⟨hk.1.2.2.2, hk.2⟩⟩)⟩, ⟨rm_ HO277.out (fun _ hk => ⟨hk.1.2.2.1, ⟨hk.1.2.2.2, hk.2⟩⟩)⟩, ⟨rm_ HO282.out (fun _ hk => ⟨hk.1.1.2, ⟨hk.1.2, hk.2⟩⟩)⟩, ⟨bk_ BK251.out⟩, ⟨bk_ BK252.out⟩, ⟨bk_ BK268.out⟩, ⟨bk_ BK273.out⟩, ⟨bk_ BK278.out⟩, ⟨bk_ BK284.out⟩, ⟨bb_ HB.out⟩⟩
   case rest =>
    clear HC25
    try clear c1
    try clear p2
    try clear c4
    try clear c5
    try clear c6
    try clear c7
    try clear c8
    try clear c9
    try clear c44
    try clear c48
    try clear c49
    try clear c50
    try clear c53
    try clear c57
    try clear c58
    try clear c59
    try clear c60
    try clear c68
    try clear c69
    try clear c70
    try clear c71
    try clear c72
    try clear c76
    try clear c77
    try clear c78
    try clear c79
    try clear c80
    try clear c81
    try clear c83
    try clear c84
    try clear c85
    try clear c86
    try clear c89
    try clear c90
    try clear c91
    try clear c92
    try clear c93
    try clear c95
    try clear c96
    try clear c97
    try clear c98
    try clear hcz45_0
    try clear hcz45_1
    try clear hcz51_0
    try clear hcz51_1
    try clear hcz54_0
    try clear hcz54_1
    try clear hcz61_0
    try clear hcz61_1
    try clear hcz64_0
    try clear hcz64_1
    try clear hcz65_0
    try clear hcz65_1
    try clear hcz73_0
    try clear hcz73_1
    try clear hcz82_0
    try clear hcz82_1
    try clear hcz87_0
    try clear hcz87_1
    try clear hcz94_0
    try clear hcz94_1
    try clear hcz99_0
    try clear hcz99_1
    try clear hfz45_0
    try clear hfz45_1
    try clear hfz51_0
    try clear hfz51_1
    try clear hfz54_0
    try clear hfz54_1
    try clear hfz61_0
    try clear hfz61_1
    try clear hfz64_0
    try clear hfz64_1
    try clear hfz65_0
    try clear hfz65_1
    try clear hfz73_0
    try clear hfz73_1
    try clear hfz82_0
    try clear hfz82_1
    try clear hfz87_0
    try clear hfz87_1
    try clear hfz94_0
    try clear hfz94_1
    try clear hfz99_0
    try clear hfz99_1
    obtain ⟨kq, x53_24, rfl, HA, HJ24, HO_269001, HO_274001, HO_279001, HO_285001, BK251, BK252, BK268, BK273, BK278, BK284, HB⟩ := hcut
    cases kq with
    | zero => exact absurd HA.out (by simp [laws_FnExactAddLaurent.j0])
    | succ kj24 =>
     have H := HA.out
     clear HA
     simp only [laws_FnExactAddLaurent.j0] at H
     by_cases c101 : x53_24 = true
     ·subst c101
      have H1 : (some false) = some r := by rw [if_pos rfl] at H; exact H
      clear H
      have H := H1
      clear H1
      exact absurd ((Option.some.inj H).trans HTRUE_.out) (by simp)
     ·replace c101 := Bool.eq_false_iff.mpr c101
      subst c101
      have H1 : ((laws_toLaurent.f kj24 a0_0 l0_1).bind fun bt286 => ((laws_eqLaurent.f kj24 t269 t270 bt286.1 bt286.2).bind fun t290 => (if t290 = true then ((laws_toLaurent.f kj24 a1_0 l1_1).bind fun bt291 => ((laws_eqLaurent.f kj24 t274 t275 bt291.1 bt291.2).bind fun t295 => (if t295 = true then ((laws_markLaurent.f kj24 t269 t270 1).bind fun bt296 => ((laws_markLaurent.f kj24 t274 t275 bt296.1).bind fun bt298 => (if bt298.1 < 0 then (laws_FnExactAddLaurent.j1 kj24 t267 true a0_0 l0_1 a1_0 l1_1 t263 t264 t279 t280) else ((laws_eqLaurent.f kj24 t279 t280 t263 t264).bind fun t300 => (if t300 = true then (laws_FnExactAddLaurent.j1 kj24 t267 (t283 != t267) a0_0 l0_1 a1_0 l1_1 t263 t264 t279 t280) else (laws_FnExactAddLaurent.j1 kj24 t267 true a0_0 l0_1 a1_0 l1_1 t263 t264 t279 t280)))))) else (some false)))) else (some false)))) = some r := by rw [if_neg (show ¬ (false = true) by decide)] at H; exact H
      clear H
      have H := H1
      clear H1
      replace H := Option.bind_eq_some_iff.mp H
      obtain ⟨⟨t286, t287⟩, A1020, H⟩ := H
      replace H : ((laws_eqLaurent.f kj24 t269 t270 t286 t287).bind fun t290 => (if t290 = true then ((laws_toLaurent.f kj24 a1_0 l1_1).bind fun bt291 => ((laws_eqLaurent.f kj24 t274 t275 bt291.1 bt291.2).bind fun t295 => (if t295 = true then ((laws_markLaurent.f kj24 t269 t270 1).bind fun bt296 => ((laws_markLaurent.f kj24 t274 t275 bt296.1).bind fun bt298 => (if bt298.1 < 0 then (laws_FnExactAddLaurent.j1 kj24 t267 true a0_0 l0_1 a1_0 l1_1 t263 t264 t279 t280) else ((laws_eqLaurent.f kj24 t279 t280 t263 t264).bind fun t300 => (if t300 = true then (laws_FnExactAddLaurent.j1 kj24 t267 (t283 != t267) a0_0 l0_1 a1_0 l1_1 t263 t264 t279 t280) else (laws_FnExactAddLaurent.j1 kj24 t267 true a0_0 l0_1 a1_0 l1_1 t263 t264 t279 t280)))))) else (some false)))) else (some false))) = some r := H
      have A102 := am_ A1020
      clear A1020
      replace H := Option.bind_eq_some_iff.mp H
      obtain ⟨t290, A1030, H⟩ := H
      replace H : (if t290 = true then ((laws_toLaurent.f kj24 a1_0 l1_1).bind fun bt291 => ((laws_eqLaurent.f kj24 t274 t275 bt291.1 bt291.2).bind fun t295 => (if t295 = true then ((laws_markLaurent.f kj24 t269 t270 1).bind fun bt296 => ((laws_markLaurent.f kj24 t274 t275 bt296.1).bind fun bt298 => (if bt298.1 < 0 then (laws_FnExactAddLaurent.j1 kj24 t267 true a0_0 l0_1 a1_0 l1_1 t263 t264 t279 t280) else ((laws_eqLaurent.f kj24 t279 t280 t263 t264).bind fun t300 => (if t300 = true then (laws_FnExactAddLaurent.j1 kj24 t267 (t283 != t267) a0_0 l0_1 a1_0 l1_1 t263 t264 t279 t280) else (laws_FnExactAddLaurent.j1 kj24 t267 true a0_0 l0_1 a1_0 l1_1 t263 t264 t279 t280)))))) else (some false)))) else (some false)) = some r := H
      have A103 := am_ A1030
      clear A1030
      by_cases c104 : t290 = true
      ·subst c104
       have H1 : ((laws_toLaurent.f kj24 a1_0 l1_1).bind fun bt291 => ((laws_eqLaurent.f kj24 t274 t275 bt291.1 bt291.2).bind fun t295 => (if t295 = true then ((laws_markLaurent.f kj24 t269 t270 1).bind fun bt296 => ((laws_markLaurent.f kj24 t274 t275 bt296.1).bind fun bt298 => (if bt298.1 < 0 then (laws_FnExactAddLaurent.j1 kj24 t267 true a0_0 l0_1 a1_0 l1_1 t263 t264 t279 t280) else ((laws_eqLaurent.f kj24 t279 t280 t263 t264).bind fun t300 => (if t300 = true then (laws_FnExactAddLaurent.j1 kj24 t267 (t283 != t267) a0_0 l0_1 a1_0 l1_1 t263 t264 t279 t280) else (laws_FnExactAddLaurent.j1 kj24 t267 true a0_0 l0_1 a1_0 l1_1 t263 t264 t279 t280)))))) else (some false)))) = some r := by rw [if_pos rfl] at H; exact H
       clear H
       have H := H1
       clear H1
       replace H := Option.bind_eq_some_iff.mp H
       obtain ⟨⟨t291, t292⟩, A1050, H⟩ := H
       replace H : ((laws_eqLaurent.f kj24 t274 t275 t291 t292).bind fun t295 => (if t295 = true then ((laws_markLaurent.f kj24 t269 t270 1).bind fun bt296 => ((laws_markLaurent.f kj24 t274 t275 bt296.1).bind fun bt298 => (if bt298.1 < 0 then (laws_FnExactAddLaurent.j1 kj24 t267 true a0_0 l0_1 a1_0 l1_1 t263 t264 t279 t280) else ((laws_eqLaurent.f kj24 t279 t280 t263 t264).bind fun t300 => (if t300 = true then (laws_FnExactAddLaurent.j1 kj24 t267 (t283 != t267) a0_0 l0_1 a1_0 l1_1 t263 t264 t279 t280) else (laws_FnExactAddLaurent.j1 kj24 t267 true a0_0 l0_1 a1_0 l1_1 t263 t264 t279 t280)))))) else (some false))) = some r := H
       have A105 := am_ A1050
       clear A1050
       replace H := Option.bind_eq_some_iff.mp H
       obtain ⟨t295, A1060, H⟩ := H
       replace H : (if t295 = true then ((laws_markLaurent.f kj24 t269 t270 1).bind fun bt296 => ((laws_markLaurent.f kj24 t274 t275 bt296.1).bind fun bt298 => (if bt298.1 < 0 then (laws_FnExactAddLaurent.j1 kj24 t267 true a0_0 l0_1 a1_0 l1_1 t263 t264 t279 t280) else ((laws_eqLaurent.f kj24 t279 t280 t263 t264).bind fun t300 => (if t300 = true then (laws_FnExactAddLaurent.j1 kj24 t267 (t283 != t267) a0_0 l0_1 a1_0 l1_1 t263 t264 t279 t280) else (laws_FnExactAddLaurent.j1 kj24 t267 true a0_0 l0_1 a1_0 l1_1 t263 t264 t279 t280)))))) else (some false)) = some r := H
       have A106 := am_ A1060
       clear A1060
       by_cases c107 : t295 = true
       ·subst c107
        have H1 : ((laws_markLaurent.f kj24 t269 t270 1).bind fun bt296 => ((laws_markLaurent.f kj24 t274 t275 bt296.1).bind fun bt298 => (if bt298.1 < 0 then (laws_FnExactAddLaurent.j1 kj24 t267 true a0_0 l0_1 a1_0 l1_1 t263 t264 t279 t280) else ((laws_eqLaurent.f kj24 t279 t280 t263 t264).bind fun t300 => (if t300 = true then (laws_FnExactAddLaurent.j1 kj24 t267 (t283 != t267) a0_0 l0_1 a1_0 l1_1 t263 t264 t279 t280) else (laws_FnExactAddLaurent.j1 kj24 t267 true a0_0 l0_1 a1_0 l1_1 t263 t264 t279 t280)))))) = some r := by rw [if_pos rfl] at H; exact H
        clear H
        have H := H1
        clear H1
        replace H := Option.bind_eq_some_iff.mp H
        obtain ⟨⟨t296, t297⟩, A1080, H⟩ := H
        replace H : ((laws_markLaurent.f kj24 t274 t275 t296).bind fun bt298 => (if bt298.1 < 0 then (laws_FnExactAddLaurent.j1 kj24 t267 true a0_0 l0_1 a1_0 l1_1 t263 t264 t279 t280) else ((laws_eqLaurent.f kj24 t279 t280 t263 t264).bind fun t300 => (if t300 = true then (laws_FnExactAddLaurent.j1 kj24 t267 (t283 != t267) a0_0 l0_1 a1_0 l1_1 t263 t264 t279 t280) else (laws_FnExactAddLaurent.j1 kj24 t267 true a0_0 l0_1 a1_0 l1_1 t263 t264 t279 t280))))) = some r := H
        have A108 := am_ A1080
        clear A1080
        replace H := Option.bind_eq_some_iff.mp H
        obtain ⟨⟨t298, t299⟩, A1090, H⟩ := H
        replace H : (if t298 < 0 then (laws_FnExactAddLaurent.j1 kj24 t267 true a0_0 l0_1 a1_0 l1_1 t263 t264 t279 t280) else ((laws_eqLaurent.f kj24 t279 t280 t263 t264).bind fun t300 => (if t300 = true then (laws_FnExactAddLaurent.j1 kj24 t267 (t283 != t267) a0_0 l0_1 a1_0 l1_1 t263 t264 t279 t280) else (laws_FnExactAddLaurent.j1 kj24 t267 true a0_0 l0_1 a1_0 l1_1 t263 t264 t279 t280)))) = some r := H
        have A109 := am_ A1090
        clear A1090
        have HC110 := am_ H
        clear H
        try go_wp2
        have n0_ := am_ (Kd.R_drew HO_269001.out)
        have n1_ := am_ (Kd.R_drew HO_274001.out)
        have n2_ := am_ (Kd.R_drew HO_279001.out)
        have n3_ := am_ (Kd.R_drew HO_285001.out)
        have n4_ := am_ (blk_drew BK251.out)
        have n5_ := am_ (blk_drew BK252.out)
        have n6_ := am_ (blk_drew BK268.out)
        have n7_ := am_ (blk_drew BK273.out)
        have n8_ := am_ (blk_drew BK278.out)
        have n9_ := am_ (blk_drew BK284.out)
        have n10_ := am_ (below_drew1 HB.out)
        clear HO_269001 HO_274001 HO_279001 HO_285001 BK251 BK252 BK268 BK273 BK278 BK284 HB; revert n0_ n1_ n2_ n3_ n4_ n5_ n6_ n7_ n8_ n9_ n10_; intro HO_269001 HO_274001 HO_279001 HO_285001 BK251 BK252 BK268 BK273 BK278 BK284 HB
        refine start_ (n := 5) (S := fun w' => w'.cell? ⟨gb273, 0, none⟩ = some (.int .i64 t269) ∧ w'.cell? ⟨gb273, 1, none⟩ = some (.slice Ao52 t270.length co52) ∧ w'.cell? ⟨gb251, 0, none⟩ = some (.int .i64 a0_0) ∧ w'.cell? ⟨gb251, 1, none⟩ = some (.slice A0_1 l0_1.length c0_1)) (ds := []) #[false, false, false, false, false] (by kernel_rfl) rfl rfl ⟨bc_ BK273 0, bc_ BK273 1, bc_ BK251 0, bc_ BK251 1⟩ (fun hHeld => ?_)
        generalize wc.drew = w111 at HO_269001 HO_274001 HO_279001 HO_285001 BK251 BK252 BK268 BK273 BK278 BK284 HB hHeld ⊢
        refine take_ (i := 0) (N := some 54) (v := ?_) (a' := ?_) #[true, false, false, false, false] rfl rfl (by kernel_rfl) (fun _ _ _ h => h) (Or.inl ⟨by rfl, ?_⟩) hHeld ?_ ?_
        rotate_left
        ·rintro w' ⟨s0, s1, s2, s3⟩
         go_simp
         with_reducible rfl
        rotate_left
        ·simp only [Act.put, List.setIfInBounds_toArray, List.set_cons_zero, List.set_cons_succ, i64_w, i32_w]
         rfl
        refine take_ (i := 1) (N := some 55) (v := ?_) (a' := ?_) #[true, true, false, false, false] rfl rfl (by kernel_rfl) (fun _ _ _ h => h) (Or.inl ⟨by rfl, ?_⟩) hHeld ?_ ?_
        rotate_left
        ·rintro w' ⟨s0, s1, s2, s3⟩
         go_simp
         with_reducible rfl
        rotate_left
        ·simp only [Act.put, List.setIfInBounds_toArray, List.set_cons_zero, List.set_cons_succ, i64_w, i32_w]
         rfl
        refine one_ (i := 2) (N := some 56) #[true, true, true, false, false] rfl rfl (by kernel_rfl) (by decide) (fun K hK => ?_)
        refine goes_ Try.func7 (by kernel_rfl) rfl #[.agg #[.int .i64 a0_0, .slice A0_1 l0_1.length c0_1]] (by rfl) rfl rfl lm_ ?_
        with_reducible refine (laws_toLaurent.calls kj24 a0_0 _ _ l0_1 t286 t287 _ ?side1 ?side2 A102.out).mono ?_
        (case side1 => repeat (first | exact (Kd.C_below HR0_1.out HB.out) | (with_reducible refine Kd.C_alloc ?_ _) | (with_reducible refine Kd.C_drewN ?_ _) | (with_reducible refine Kd.C_drew ?_)))
        (case side2 => exact HC0_1.out)
        rintro e w112 ⟨v288, rfl, ho0, hb⟩
        refine ⟨_, rfl, ?_⟩
        have n0_ := am_ (Kd.R_elder' (rk_ HO_269001.out) (Kd.R_base ho0) hb)
        have n1_ := am_ (Kd.R_elder' (rk_ HO_274001.out) (Kd.R_base ho0) hb)
        have n2_ := am_ (Kd.R_elder' (rk_ HO_279001.out) (Kd.R_base ho0) hb)
        have n3_ := am_ (Kd.R_elder' (rk_ HO_285001.out) (Kd.R_base ho0) hb)
        have n4_ := am_ (Kd.R_lower (Kd.R_new' (Kd.R_new' (Kd.R_new' (Kd.R_new' ho0 (Kd.R_lt (rk_ HO_269001.out))) (Kd.R_lt (rk_ HO_274001.out))) (Kd.R_lt (rk_ HO_279001.out))) (Kd.R_lt (rk_ HO_285001.out))) (below_size (bb_ HB.out)))
        have n5_ := am_ (bw_ BK251 hb)
        have n6_ := am_ (bw_ BK252 hb)
        have n7_ := am_ (bw_ BK268 hb)
        have n8_ := am_ (bw_ BK273 hb)
        have n9_ := am_ (bw_ BK278 hb)
        have n10_ := am_ (bw_ BK284 hb)
        have n11_ := am_ (below_step (bb_ HB.out) hb)
        clear HO_269001 HO_274001 HO_279001 HO_285001 BK251 BK252 BK268 BK273 BK278 BK284 HB; revert n0_ n1_ n2_ n3_ n4_ n5_ n6_ n7_ n8_ n9_ n10_ n11_; intro HO_269001 HO_274001 HO_279001 HO_285001 HO289 BK251 BK252 BK268 BK273 BK278 BK284 HB
        (try clear hb)
        (try clear hb2)
        (try clear hk)
        (try clear hi)
        (try clear ho0)
        obtain ⟨Ao113, co113, eo113⟩ := Kd.R_slice HO289.out
        (first | subst eo113 | (injection eo113 with f1_ f2_ f3_; have f4_ := f1_.symm; have f5_ := f3_.symm; clear f1_ f2_ f3_; subst f4_; subst f5_))
        refine hK.out _ _ ⟨bc_ BK273 0, bc_ BK273 1, bc_ BK251 0, bc_ BK251 1⟩ (fun hHeld => ?_)
        clear hK K
        refine norm_ (a' := ?_) ?_ ?_
        rotate_left
        ·show Act.put _ (some 56) _ = _
         simp only [Act.put, List.setIfInBounds_toArray, List.set_cons_zero, List.set_cons_succ, i64_w, i32_w]
         rfl
        refine one_ (i := 3) (N := some 57) #[true, true, true, true, false] rfl rfl (by kernel_rfl) (by decide) (fun K hK => ?_)
        refine goes_ Try.func9 (by kernel_rfl) rfl #[.agg #[.int .i64 t269, .slice Ao52 t270.length co52], .agg #[.int .i64 t286, .slice Ao113 t287.length co113]] (by rfl) rfl rfl lm_ ?_
        with_reducible refine (laws_eqLaurent.calls kj24 t269 _ _ t270 t286 _ _ t287 true _ ?side1 ?side2 ?side3 ?side4 A103.out).mono ?_
        (case side1 => repeat (first | exact (Kd.R_reads' HO_274001.out).2.2 | (with_reducible refine Kd.C_alloc ?_ _) | (with_reducible refine Kd.C_drewN ?_ _) | (with_reducible refine Kd.C_drew ?_)))
        (case side2 => exact (Kd.R_reads' HO_274001.out).2.1)
        (case side3 => repeat (first | exact (Kd.R_reads' HO289.out).2.2 | (with_reducible refine Kd.C_alloc ?_ _) | (with_reducible refine Kd.C_drewN ?_ _) | (with_reducible refine Kd.C_drew ?_)))
        (case side4 => exact (Kd.R_reads' HO289.out).2.1)
        rintro e w114 ⟨rfl, hb⟩
        refine ⟨_, rfl, ?_⟩
        have n0_ := am_ (Kd.R_below (rk_ HO_269001.out) hb)
        have n1_ := am_ (Kd.R_below (rk_ HO_274001.out) hb)
        have n2_ := am_ (Kd.R_below (rk_ HO_279001.out) hb)
        have n3_ := am_ (Kd.R_below (rk_ HO_285001.out) hb)
        have n4_ := am_ (Kd.R_below (rk_ HO289.out) hb)
        have n5_ := am_ (bw_ BK251 hb)
        have n6_ := am_ (bw_ BK252 hb)
        have n7_ := am_ (bw_ BK268 hb)
        have n8_ := am_ (bw_ BK273 hb)
        have n9_ := am_ (bw_ BK278 hb)
        have n10_ := am_ (bw_ BK284 hb)
        have n11_ := am_ (below_step (bb_ HB.out) hb)
        clear HO_269001 HO_274001 HO_279001 HO_285001 HO289 BK251 BK252 BK268 BK273 BK278 BK284 HB; revert n0_ n1_ n2_ n3_ n4_ n5_ n6_ n7_ n8_ n9_ n10_ n11_; intro HO_269001 HO_274001 HO_279001 HO_285001 HO289 BK251 BK252 BK268 BK273 BK278 BK284 HB
        (try clear hb)
        (try clear hb2)
        (try clear hk)
        (try clear hi)
        refine hK.out _ _ ⟨bc_ BK273 0, bc_ BK273 1, bc_ BK251 0, bc_ BK251 1⟩ (fun hHeld => ?_)
        clear hK K
        refine norm_ (a' := ?_) ?_ ?_
        rotate_left
        ·show Act.put _ (some 57) _ = _
         simp only [Act.put, List.setIfInBounds_toArray, List.set_cons_zero, List.set_cons_succ, i64_w, i32_w]
         rfl
        refine pure_ (i := 4) (N := some 58) (v := ?_) (a' := ?_) #[true, true, true, true, true] rfl rfl (by kernel_rfl) (fun _ _ _ h => h) (Or.inl ⟨by rfl, ?_⟩) ?_ ?_
        rotate_left
        ·intro w'
         go_simp
         with_reducible rfl
        rotate_left
        ·simp only [Act.put, List.setIfInBounds_toArray, List.set_cons_zero, List.set_cons_succ, i64_w, i32_w]
         rfl
        refine done_ (by kernel_rfl) ?_
        try go_wp2
        have n0_ := am_ (Kd.R_drew HO_269001.out)
        have n1_ := am_ (Kd.R_drew HO_274001.out)
        have n2_ := am_ (Kd.R_drew HO_279001.out)
        have n3_ := am_ (Kd.R_drew HO_285001.out)
        have n4_ := am_ (Kd.R_drew HO289.out)
        have n5_ := am_ (blk_drew BK251.out)
        have n6_ := am_ (blk_drew BK252.out)
        have n7_ := am_ (blk_drew BK268.out)
        have n8_ := am_ (blk_drew BK273.out)
        have n9_ := am_ (blk_drew BK278.out)
        have n10_ := am_ (blk_drew BK284.out)
        have n11_ := am_ (below_drew1 HB.out)
        clear HO_269001 HO_274001 HO_279001 HO_285001 HO289 BK251 BK252 BK268 BK273 BK278 BK284 HB; revert n0_ n1_ n2_ n3_ n4_ n5_ n6_ n7_ n8_ n9_ n10_ n11_; intro HO_269001 HO_274001 HO_279001 HO_285001 HO289 BK251 BK252 BK268 BK273 BK278 BK284 HB
        refine start_ (n := 5) (S := fun w' => w'.cell? ⟨gb278, 0, none⟩ = some (.int .i64 t274) ∧ w'.cell? ⟨gb278, 1, none⟩ = some (.slice Ao62 t275.length co62) ∧ w'.cell? ⟨gb252, 0, none⟩ = some (.int .i64 a1_0) ∧ w'.cell? ⟨gb252, 1, none⟩ = some (.slice A1_1 l1_1.length c1_1)) (ds := []) #[false, false, false, false, false] (by kernel_rfl) rfl rfl ⟨bc_ BK278 0, bc_ BK278 1, bc_ BK252 0, bc_ BK252 1⟩ (fun hHeld => ?_)
        generalize w114.drew = w115 at HO_269001 HO_274001 HO_279001 HO_285001 HO289 BK251 BK252 BK268 BK273 BK278 BK284 HB hHeld ⊢
        refine take_ (i := 0) (N := some 59) (v := ?_) (a' := ?_) #[true, false, false, false, false] rfl rfl (by kernel_rfl) (fun _ _ _ h => h) (Or.inl ⟨by rfl, ?_⟩) hHeld ?_ ?_
        rotate_left
        ·rintro w' ⟨s0, s1, s2, s3⟩
         go_simp
         with_reducible rfl
        rotate_left
        ·simp only [Act.put, List.setIfInBounds_toArray, List.set_cons_zero, List.set_cons_succ, i64_w, i32_w]
         rfl
        refine take_ (i := 1) (N := some 60) (v := ?_) (a' := ?_) #[true, true, false, false, false] rfl rfl (by kernel_rfl) (fun _ _ _ h => h) (Or.inl ⟨by rfl, ?_⟩) hHeld ?_ ?_
        rotate_left
        ·rintro w' ⟨s0, s1, s2, s3⟩
         go_simp
         with_reducible rfl
        rotate_left
        ·simp only [Act.put, List.setIfInBounds_toArray, List.set_cons_zero, List.set_cons_succ, i64_w, i32_w]
         rfl
        refine one_ (i := 2) (N := some 61) #[true, true, true, false, false] rfl rfl (by kernel_rfl) (by decide) (fun K hK => ?_)
        refine goes_ Try.func7 (by kernel_rfl) rfl #[.agg #[.int .i64 a1_0, .slice A1_1 l1_1.length c1_1]] (by rfl) rfl rfl lm_ ?_
        with_reducible refine (laws_toLaurent.calls kj24 a1_0 _ _ l1_1 t291 t292 _ ?side1 ?side2 A105.out).mono ?_
        (case side1 => repeat (first | exact (Kd.C_below HR1_1.out HB.out) | (with_reducible refine Kd.C_alloc ?_ _) | (with_reducible refine Kd.C_drewN ?_ _) | (with_reducible refine Kd.C_drew ?_)))
        (case side2 => exact HC1_1.out)
        rintro e w116 ⟨v293, rfl, ho0, hb⟩
        refine ⟨_, rfl, ?_⟩
        have n0_ := am_ (Kd.R_elder' (rk_ HO_269001.out) (Kd.R_base ho0) hb)
        have n1_ := am_ (Kd.R_elder' (rk_ HO_274001.out) (Kd.R_base ho0) hb)
        have n2_ := am_ (Kd.R_elder' (rk_ HO_279001.out) (Kd.R_base ho0) hb)
        have n3_ := am_ (Kd.R_elder' (rk_ HO_285001.out) (Kd.R_base ho0) hb)
        have n4_ := am_ (Kd.R_elder' (rk_ HO289.out) (Kd.R_base ho0) hb)
        have n5_ := am_ (Kd.R_lower (Kd.R_new' (Kd.R_new' (Kd.R_new' (Kd.R_new' (Kd.R_new' ho0 (Kd.R_lt (rk_ HO_269001.out))) (Kd.R_lt (rk_ HO_274001.out))) (Kd.R_lt (rk_ HO_279001.out))) (Kd.R_lt (rk_ HO_285001.out))) (Kd.R_lt (rk_ HO289.out))) (below_size (bb_ HB.out)))
        have n6_ := am_ (bw_ BK251 hb)
        have n7_ := am_ (bw_ BK252 hb)
        have n8_ := am_ (bw_ BK268 hb)
        have n9_ := am_ (bw_ BK273 hb)
        have n10_ := am_ (bw_ BK278 hb)
        have n11_ := am_ (bw_ BK284 hb)
        have n12_ := am_ (below_step (bb_ HB.out) hb)
        clear HO_269001 HO_274001 HO_279001 HO_285001 HO289 BK251 BK252 BK268 BK273 BK278 BK284 HB; revert n0_ n1_ n2_ n3_ n4_ n5_ n6_ n7_ n8_ n9_ n10_ n11_ n12_; intro HO_269001 HO_274001 HO_279001 HO_285001 HO289 HO294 BK251 BK252 BK268 BK273 BK278 BK284 HB
        (try clear hb)
        (try clear hb2)
        (try clear hk)
        (try clear hi)
        (try clear ho0)
        obtain ⟨Ao117, co117, eo117⟩ := Kd.R_slice HO294.out
        (first | subst eo117 | (injection eo117 with f1_ f2_ f3_; have f4_ := f1_.symm; have f5_ := f3_.symm; clear f1_ f2_ f3_; subst f4_; subst f5_))
        refine hK.out _ _ ⟨bc_ BK278 0, bc_ BK278 1, bc_ BK252 0, bc_ BK252 1⟩ (fun hHeld => ?_)
        clear hK K
        refine norm_ (a' := ?_) ?_ ?_
        rotate_left
        ·show Act.put _ (some 61) _ = _
         simp only [Act.put, List.setIfInBounds_toArray, List.set_cons_zero, List.set_cons_succ, i64_w, i32_w]
         rfl
        refine one_ (i := 3) (N := some 62) #[true, true, true, true, false] rfl rfl (by kernel_rfl) (by decide) (fun K hK => ?_)
        refine goes_ Try.func9 (by kernel_rfl) rfl #[.agg #[.int .i64 t274, .slice Ao62 t275.length co62], .agg #[.int .i64 t291, .slice Ao117 t292.length co117]] (by rfl) rfl rfl lm_ ?_
        with_reducible refine (laws_eqLaurent.calls kj24 t274 _ _ t275 t291 _ _ t292 true _ ?side1 ?side2 ?side3 ?side4 A106.out).mono ?_
        (case side1 => repeat (first | exact (Kd.R_reads' HO_279001.out).2.2 | (with_reducible refine Kd.C_alloc ?_ _) | (with_reducible refine Kd.C_drewN ?_ _) | (with_reducible refine Kd.C_drew ?_)))
        (case side2 => exact (Kd.R_reads' HO_279001.out).2.1)
        (case side3 => repeat (first | exact (Kd.R_reads' HO294.out).2.2 | (with_reducible refine Kd.C_alloc ?_ _) | (with_reducible refine Kd.C_drewN ?_ _) | (with_reducible refine Kd.C_drew ?_)))
        (case side4 => exact (Kd.R_reads' HO294.out).2.1)
        rintro e w118 ⟨rfl, hb⟩
        refine ⟨_, rfl, ?_⟩
        have n0_ := am_ (Kd.R_below (rk_ HO_269001.out) hb)
        have n1_ := am_ (Kd.R_below (rk_ HO_274001.out) hb)
        have n2_ := am_ (Kd.R_below (rk_ HO_279001.out) hb)
        have n3_ := am_ (Kd.R_below (rk_ HO_285001.out) hb)
        have n4_ := am_ (Kd.R_below (rk_ HO289.out) hb)
        have n5_ := am_ (Kd.R_below (rk_ HO294.out) hb)
        have n6_ := am_ (bw_ BK251 hb)
        have n7_ := am_ (bw_ BK252 hb)
        have n8_ := am_ (bw_ BK268 hb)
        have n9_ := am_ (bw_ BK273 hb)
        have n10_ := am_ (bw_ BK278 hb)
        have n11_ := am_ (bw_ BK284 hb)
        have n12_ := am_ (below_step (bb_ HB.out) hb)
        clear HO_269001 HO_274001 HO_279001 HO_285001 HO289 HO294 BK251 BK252 BK268 BK273 BK278 BK284 HB; revert n0_ n1_ n2_ n3_ n4_ n5_ n6_ n7_ n8_ n9_ n10_ n11_ n12_; intro HO_269001 HO_274001 HO_279001 HO_285001 HO289 HO294 BK251 BK252 BK268 BK273 BK278 BK284 HB
        (try clear hb)
        (try clear hb2)
        (try clear hk)
        (try clear hi)
        refine hK.out _ _ ⟨bc_ BK278 0, bc_ BK278 1, bc_ BK252 0, bc_ BK252 1⟩ (fun hHeld => ?_)
        clear hK K
        refine norm_ (a' := ?_) ?_ ?_
        rotate_left
        ·show Act.put _ (some 62) _ = _
         simp only [Act.put, List.setIfInBounds_toArray, List.set_cons_zero, List.set_cons_succ, i64_w, i32_w]
         rfl
        refine pure_ (i := 4) (N := some 63) (v := ?_) (a' := ?_) #[true, true, true, true, true] rfl rfl (by kernel_rfl) (fun _ _ _ h => h) (Or.inl ⟨by rfl, ?_⟩) ?_ ?_
        rotate_left
        ·intro w'
         go_simp
         with_reducible rfl
        rotate_left
        ·simp only [Act.put, List.setIfInBounds_toArray, List.set_cons_zero, List.set_cons_succ, i64_w, i32_w]
         rfl
        refine done_ (by kernel_rfl) ?_
        have hnb119 := NB273_251.out
        have hnc119 := NB251_273.out
        have hnb120 := NB273_252.out
        have hnc120 := NB252_273.out
        have hnb121 := NB273_268.out
        have hnc121 := NB268_273.out
        have hnb122 := NB273_278.out
        have hnc122 := NB278_273.out
        have hnb123 := NB273_284.out
        have hnc123 := NB284_273.out
        obtain ⟨hcz124_0, hcz124_1, hfz124_0, hfz124_1⟩ := bx2_ BK273
        go_upto_region 21 with (first | ((with_reducible refine gate_callee (f := 10) rfl ?_); refine goesL_ (some 66) rfl rfl Try.func10 (by kernel_rfl) rfl #[.agg #[.int .i64 t269, .slice Ao52 t270.length co52], .int .i64 1] rfl lm_ ?_; (with_reducible refine (laws_markLaurent.calls kj24 t269 (fun k_ => some k_ = (.slice Ao52 t270.length co52 : Value).ownBlock) (.slice Ao52 t270.length co52) t270 1 t296 t297 w _ ?side1 ?side2 A108.out).mono ?_); (case side1 => exact bb_ HB.out); (case side2 => exact Kd.R_tight rfl HO_274001.out); rintro e w125 ⟨rfl, hy0, hb, hkp⟩; refine ⟨_, rfl, ?_⟩; have n0_ := am_ (Kd.R_mono (ok' := fun k_ => some k_ ≠ (.slice Ao52 t270.length co52 : Value).ownBlock ∧ some k_ ≠ (.slice Ao62 t275.length co62 : Value).ownBlock ∧ some k_ ≠ (.slice Ao74 t280.length co74 : Value).ownBlock ∧ some k_ ≠ (.slice Ao113 t287.length co113 : Value).ownBlock ∧ some k_ ≠ (.slice Ao117 t292.length co117 : Value).ownBlock) (Kd.R_keptB (HO_269001.out) hkp (fun k_ hk_ hs_ => (hk_.1.1.1) hs_)) (fun k_ hk_ => ⟨hk_.1.1.1.1, hk_.1.1.1.2.1, hk_.1.1.1.2.2, hk_.1.1.2, hk_.1.2⟩)); have n1_ := am_ (Kd.R_reok rfl hy0 (fun k_ e_ => HO_274001.out.1 k_ e_)); have n2_ := am_ (Kd.R_mono (ok' := fun k_ => some k_ ≠ (.slice Ao42 t264.length co42 : Value).ownBlock ∧ some k_ ≠ (.slice Ao52 t270.length co52 : Value).ownBlock ∧ some k_ ≠ (.slice Ao74 t280.length co74 : Value).ownBlock ∧ some k_ ≠ (.slice Ao113 t287.length co113 : Value).ownBlock ∧ some k_ ≠ (.slice Ao117 t292.length co117 : Value).ownBlock) (Kd.R_keptB (HO_279001.out) hkp (fun k_ hk_ hs_ => (hk_.1.1.2.1) hs_)) (fun k_ hk_ => ⟨hk_.1.1.1.1, hk_.1.1.1.2.1, hk_.1.1.1.2.2, hk_.1.1.2, hk_.1.2⟩)); have n3_ := am_ (Kd.R_mono (ok' := fun k_ => some k_ ≠ (.slice Ao42 t264.length co42 : Value).ownBlock ∧ some k_ ≠ (.slice Ao52 t270.length co52 : Value).ownBlock ∧ some k_ ≠ (.slice Ao62 t275.length co62 : Value).ownBlock ∧ some k_ ≠ (.slice Ao113 t287.length co113 : Value).ownBlock ∧ some k_ ≠ (.slice Ao117 t292.length co117 : Value).ownBlock) (Kd.R_keptB (HO_285001.out) hkp (fun k_ hk_ hs_ => (hk_.1.1.2.1) hs_)) (fun k_ hk_ => ⟨hk_.1.1.1.1, hk_.1.1.1.2.1, hk_.1.1.1.2.2, hk_.1.1.2, hk_.1.2⟩)); have n4_ := am_ (blk_kept (bk_ BK251.out) hkp (fun hs_ => (fun e_ => (Kd.R_ne HO_274001.out BK251.out (by decide)) e_) hs_)); have n5_ := am_ (blk_kept (bk_ BK252.out) hkp (fun hs_ => (fun e_ => (Kd.R_ne HO_274001.out BK252.out (by decide)) e_) hs_)); have n6_ := am_ (blk_kept (bk_ BK268.out) hkp (fun hs_ => (fun e_ => (Kd.R_ne HO_274001.out BK268.out (by decide)) e_) hs_)); have n7_ := am_ (blk_kept (bk_ BK273.out) hkp (fun hs_ => (fun e_ => (Kd.R_ne HO_274001.out BK273.out (by decide)) e_) hs_)); have n8_ := am_ (blk_kept (bk_ BK278.out) hkp (fun hs_ => (fun e_ => (Kd.R_ne HO_274001.out BK278.out (by decide)) e_) hs_)); have n9_ := am_ (blk_kept (bk_ BK284.out) hkp (fun hs_ => (fun e_ => (Kd.R_ne HO_274001.out BK284.out (by decide)) e_) hs_)); have n10_ := am_ (Kd.R_mono (ok' := fun k_ => some k_ ≠ (.slice Ao42 t264.length co42 : Value).ownBlock ∧ some k_ ≠ (.slice Ao52 t270.length co52 : Value).ownBlock ∧ some k_ ≠ (.slice Ao62 t275.length co62 : Value).ownBlock ∧ some k_ ≠ (.slice Ao74 t280.length co74 : Value).ownBlock ∧ some k_ ≠ (.slice Ao117 t292.length co117 : Value).ownBlock) (Kd.R_keptB (HO289.out) hkp (fun k_ hk_ hs_ => (hk_.1.1.1.2) hs_)) (fun k_ hk_ => ⟨hk_.1.1.1.1.1.2, hk_.1.1.1.1.2, hk_.1.1.1.2, hk_.1.1.2, hk_.1.2⟩)); have n11_ := am_ (Kd.R_mono (ok' := fun k_ => some k_ ≠ (.slice Ao42 t264.length co42 : Value).ownBlock ∧ some k_ ≠ (.slice Ao52 t270.length co52 : Value).ownBlock ∧ some k_ ≠ (.slice Ao62 t275.length co62 : Value).ownBlock ∧ some k_ ≠ (.slice Ao74 t280.length co74 : Value).ownBlock ∧ some k_ ≠ (.slice Ao113 t287.length co113 : Value).ownBlock) (Kd.R_keptB (HO294.out) hkp (fun k_ hk_ hs_ => (hk_.1.1.1.2) hs_)) (fun k_ hk_ => ⟨hk_.1.1.1.1.1.2, hk_.1.1.1.1.2, hk_.1.1.1.2, hk_.1.1.2, hk_.1.2⟩)); have n12_ := am_ (hb); clear HO_269001 HO_274001 HO_279001 HO_285001 BK251 BK252 BK268 BK273 BK278 BK284 HO289 HO294 HB; revert n0_ n1_ n2_ n3_ n4_ n5_ n6_ n7_ n8_ n9_ n10_ n11_ n12_; intro HO_269001 HO_274001 HO_279001 HO_285001 BK251 BK252 BK268 BK273 BK278 BK284 HO289 HO294 HB; (try clear hb); (try clear hkp); (try clear hy0); have hnb126 := NB278_251.out; have hnc126 := NB251_278.out; have hnb127 := NB278_252.out; have hnc127 := NB252_278.out; have hnb128 := NB278_268.out; have hnc128 := NB268_278.out; have hnb129 := NB278_284.out; have hnc129 := NB284_278.out; obtain ⟨hcz130_0, hcz130_1, hfz130_0, hfz130_1⟩ := bx2_ BK278) | ((with_reducible refine gate_callee (f := 10) rfl ?_); refine goesL_ (some 69) rfl rfl Try.func10 (by kernel_rfl) rfl #[.agg #[.int .i64 t274, .slice Ao62 t275.length co62], .int .i64 t296] rfl lm_ ?_; (with_reducible refine (laws_markLaurent.calls kj24 t274 (fun k_ => some k_ = (.slice Ao62 t275.length co62 : Value).ownBlock) (.slice Ao62 t275.length co62) t275 t296 t298 t299 w _ ?side1 ?side2 A109.out).mono ?_); (case side1 => exact bb_ HB.out); (case side2 => exact Kd.R_tight rfl HO_279001.out); rintro e w131 ⟨rfl, hy0, hb, hkp⟩; refine ⟨_, rfl, ?_⟩; have n0_ := am_ (Kd.R_mono (ok' := fun k_ => some k_ ≠ (.slice Ao52 t270.length co52 : Value).ownBlock ∧ some k_ ≠ (.slice Ao62 t275.length co62 : Value).ownBlock ∧ some k_ ≠ (.slice Ao74 t280.length co74 : Value).ownBlock ∧ some k_ ≠ (.slice Ao113 t287.length co113 : Value).ownBlock ∧ some k_ ≠ (.slice Ao117 t292.length co117 : Value).ownBlock) (Kd.R_keptB (HO_269001.out) hkp (fun k_ hk_ hs_ => (hk_.2.1) hs_)) (fun k_ hk_ => ⟨hk_.1.1, hk_.1.2.1, hk_.1.2.2.1, hk_.1.2.2.2.1, hk_.1.2.2.2.2⟩)); have n1_ := am_ (Kd.R_mono (ok' := fun k_ => some k_ ≠ (.slice Ao42 t264.length co42 : Value).ownBlock ∧ some k_ ≠ (.slice Ao62 t275.length co62 : Value).ownBlock ∧ some k_ ≠ (.slice Ao74 t280.length co74 : Value).ownBlock ∧ some k_ ≠ (.slice Ao113 t287.length co113 : Value).ownBlock ∧ some k_ ≠ (.slice Ao117 t292.length co117 : Value).ownBlock) (Kd.R_keptB (HO_274001.out) hkp (fun k_ hk_ hs_ => (hk_.1.1.2.1) hs_)) (fun k_ hk_ => ⟨hk_.1.1.1.1, hk_.1.1.1.2.1, hk_.1.1.1.2.2, hk_.1.1.2, hk_.1.2⟩)); have n2_ := am_ (Kd.R_reok rfl hy0 (fun k_ e_ => HO_279001.out.1 k_ e_)); have n3_ := am_ (Kd.R_mono (ok' := fun k_ => some k_ ≠ (.slice Ao42 t264.length co42 : Value).ownBlock ∧ some k_ ≠ (.slice Ao52 t270.length co52 : Value).ownBlock ∧ some k_ ≠ (.slice Ao62 t275.length co62 : Value).ownBlock ∧ some k_ ≠ (.slice Ao113 t287.length co113 : Value).ownBlock ∧ some k_ ≠ (.slice Ao117 t292.length co117 : Value).ownBlock) (Kd.R_keptB (HO_285001.out) hkp (fun k_ hk_ hs_ => (hk_.2.2.1) hs_)) (fun k_ hk_ => ⟨hk_.1.1, hk_.1.2.1, hk_.1.2.2.1, hk_.1.2.2.2.1, hk_.1.2.2.2.2⟩)); have n4_ := am_ (blk_kept (bk_ BK251.out) hkp (fun hs_ => (fun e_ => (Kd.R_ne HO_279001.out BK251.out (by decide)) e_) hs_)); have n5_ := am_ (blk_kept (bk_ BK252.out) hkp (fun hs_ => (fun e_ => (Kd.R_ne HO_279001.out BK252.out (by decide)) e_) hs_)); have n6_ := am_ (blk_kept (bk_ BK268.out) hkp (fun hs_ => (fun e_ => (Kd.R_ne HO_279001.out BK268.out (by decide)) e_) hs_)); have n7_ := am_ (blk_kept (bk_ BK273.out) hkp (fun hs_ => (fun e_ => (Kd.R_ne HO_279001.out BK273.out (by decide)) e_) hs_)); have n8_ := am_ (blk_kept (bk_ BK278.out) hkp (fun hs_ => (fun e_ => (Kd.R_ne HO_279001.out BK278.out (by decide)) e_) hs_)); have n9_ := am_ (blk_kept (bk_ BK284.out) hkp (fun hs_ => (fun e_ => (Kd.R_ne HO_279001.out BK284.out (by decide)) e_) hs_)); have n10_ := am_ (Kd.R_mono (ok' := fun k_ => some k_ ≠ (.slice Ao42 t264.length co42 : Value).ownBlock ∧ some k_ ≠ (.slice Ao52 t270.length co52 : Value).ownBlock ∧ some k_ ≠ (.slice Ao62 t275.length co62 : Value).ownBlock ∧ some k_ ≠ (.slice Ao74 t280.length co74 : Value).ownBlock ∧ some k_ ≠ (.slice Ao117 t292.length co117 : Value).ownBlock) (Kd.R_keptB (HO289.out) hkp (fun k_ hk_ hs_ => (hk_.2.2.1) hs_)) (fun k_ hk_ => ⟨hk_.1.1, hk_.1.2.1, hk_.1.2.2.1, hk_.1.2.2.2.1, hk_.1.2.2.2.2⟩)); have n11_ := am_ (Kd.R_mono (ok' := fun k_ => some k_ ≠ (.slice Ao42 t264.length co42 : Value).ownBlock ∧ some k_ ≠ (.slice Ao52 t270.length co52 : Value).ownBlock ∧ some k_ ≠ (.slice Ao62 t275.length co62 : Value).ownBlock ∧ some k_ ≠ (.slice Ao74 t280.length co74 : Value).ownBlock ∧ some k_ ≠ (.slice Ao113 t287.length co113 : Value).ownBlock) (Kd.R_keptB (HO294.out) hkp (fun k_ hk_ hs_ => (hk_.2.2.1) hs_)) (fun k_ hk_ => ⟨hk_.1.1, hk_.1.2.1, hk_.1.2.2.1, hk_.1.2.2.2.1, hk_.1.2.2.2.2⟩)); have n12_ := am_ (hb); clear HO_269001 HO_274001 HO_279001 HO_285001 BK251 BK252 BK268 BK273 BK278 BK284 HO289 HO294 HB; revert n0_ n1_ n2_ n3_ n4_ n5_ n6_ n7_ n8_ n9_ n10_ n11_ n12_; intro HO_269001 HO_274001 HO_279001 HO_285001 BK251 BK252 BK268 BK273 BK278 BK284 HO289 HO294 HB; (try clear hb); (try clear hkp); (try clear hy0)))
        (try simp only [Act.put, List.setIfInBounds_toArray, List.set_cons_zero, List.set_cons_succ])
        go_cut [82] (fun v82 wc => ∃ (kq : Nat) (x82_109 : Bool), v82 = .bool x82_109 ∧ Aside0 (laws_FnExactAddLaurent.j1 kq t267 x82_109 a0_0 l0_1 a1_0 l1_1 t263 t264 t279 t280 = some r) ∧ Aside0 (kq ≤ kj24) ∧ Aside0 (Kd.R (Kd.int .i64) 2 wc w.heap.size (fun k_ => some k_ ≠ ((.slice Ao52 t270.length co52) : Value).ownBlock ∧ some k_ ≠ ((.slice Ao62 t275.length co62) : Value).ownBlock ∧ some k_ ≠ ((.slice Ao74 t280.length co74) : Value).ownBlock) (.slice Ao42 t264.length co42) t264) ∧ Aside0 (Kd.R (Kd.int .i64) 2 wc w.heap.size (fun k_ => some k_ ≠ ((.slice Ao42 t264.length co42) : Value).ownBlock ∧ some k_ ≠ ((.slice Ao62 t275.length co62) : Value).ownBlock ∧ some k_ ≠ ((.slice Ao74 t280.length co74) : Value).ownBlock) (.slice Ao52 t270.length co52) t297) ∧ Aside0 (Kd.R (Kd.int .i64) 2 wc w.heap.size (fun k_ => some k_ ≠ ((.slice Ao42 t264.length co42) : Value).ownBlock ∧ some k_ ≠ ((.slice Ao52 t270.length co52) : Value).ownBlock ∧ some k_ ≠ ((.slice Ao74 t280.length co74) : Value).ownBlock) (.slice Ao62 t275.length co62) t299) ∧ Aside0 (Kd.R (Kd.int .i64) 2 wc w.heap.size (fun k_ => some k_ ≠ ((.slice Ao42 t264.length co42) : Value).ownBlock ∧ some k_ ≠ ((.slice Ao52 t270.length co52) : Value).ownBlock ∧ some k_ ≠ ((.slice Ao62 t275.length co62) : Value).ownBlock) (.slice Ao74 t280.length co74) t280) ∧ Aside0 (wc.heap[gb251]? = some (.cells #[.int .i64 a0_0, (.slice A0_1 l0_1.length c0_1)] 24 (0, 0))) ∧ Aside0 (wc.heap[gb252]? = some (.cells #[.int .i64 a1_0, (.slice A1_1 l1_1.length c1_1)] 24 (0, 0))) ∧ Aside0 (wc.heap[gb268]? = some (.cells #[.int .i64 t263, (.slice Ao42 t264.length co42)] 26 (0, 0))) ∧ Aside0 (wc.heap[gb273]? = some (.cells #[.int .i64 t269, (.slice Ao52 t270.length co52)] 26 (0, 0))) ∧ Aside0 (wc.heap[gb278]? = some (.cells #[.int .i64 t274, (.slice Ao62 t275.length co62)] 26 (0, 0))) ∧ Aside0 (wc.heap[gb284]? = some (.cells #[.int .i64 t279, (.slice Ao74 t280.length co74)] 26 (0, 0))) ∧ Aside0 (Below w.heap.size w wc))
        case first =>
         have H := HC110.out
         clear HC110
         by_cases c132 : t298 < 0
         ·rw [if_pos c132] at H
          have c132b0 : decide (t298 < 0) = true := decide_eq_true c132
          clear c132
          (first | rw [c132b0] | (simp only [i64_w, i32_w]; rw [c132b0]) | skip)
          have H' := am_ H
          clear H
          go_wp2
          go_meet
          case rel => exact ⟨_, (true), (by first | rfl | (simp; done) | (simp [*]; done)), H', ⟨by have := HJ24.out; first | omega | exact Nat.le_refl _⟩, ⟨rm_ HO_269001.out (fun _ hk => ⟨hk.1, ⟨hk.2.1, hk.2.2.1⟩⟩)⟩, ⟨rm_ HO_274001.out (fun _ hk => ⟨hk.1, ⟨hk.2.1, hk.2.2.1⟩⟩)⟩, ⟨rm_ HO_279001.out (fun _ hk => ⟨hk.1, ⟨hk.2.1, hk.2.2.1⟩⟩)⟩, ⟨rm_ HO_285001.out (fun _ hk => ⟨hk.1, ⟨hk.2.1, hk.2.2.1⟩⟩)⟩, ⟨bk_ BK251.out⟩, ⟨bk_ BK252.out⟩, ⟨bk_ BK268.out⟩, ⟨bk_ BK273.out⟩, ⟨bk_ BK278.out⟩, ⟨bk_ BK284.out⟩, ⟨bb_ HB.out⟩⟩
         ·rw [if_neg c132] at H
          have c132b0 : decide (t298 < 0) = false := decide_eq_false c132
          clear c132
          (first | rw [c132b0] | (simp only [i64_w, i32_w]; rw [c132b0]) | skip)
          replace H := Option.bind_eq_some_iff.mp H
          obtain ⟨t300, A1330, H⟩ := H
          replace H : (if t300 = true then (laws_FnExactAddLaurent.j1 kj24 t267 (t283 != t267) a0_0 l0_1 a1_0 l1_1 t263 t264 t279 t280) else (laws_FnExactAddLaurent.j1 kj24 t267 true a0_0 l0_1 a1_0 l1_1 t263 t264 t279 t280)) = some r := H
          have A133 := am_ A1330
          clear A1330
          by_cases c134 : t300 = true
          ·subst c134
           have H1 : (laws_FnExactAddLaurent.j1 kj24 t267 (t283 != t267) a0_0 l0_1 a1_0 l1_1 t263 t264 t279 t280) = some r := by rw [if_pos rfl] at H; exact H
           clear H
           have H := H1
           clear H1
           have H' := am_ H
           clear H
           have hnb135 := NB284_251.out
           have hnc135 := NB251_284.out
           have hnb136 := NB284_252.out
           have hnc136 := NB252_284.out
           have hnb137 := NB284_268.out
           have hnc137 := NB268_284.out
           have hnb138 := NB284_273.out
           have hnc138 := NB273_284.out
           have hnb139 := NB284_278.out
           have hnc139 := NB278_284.out
           obtain ⟨hcz140_0, hcz140_1, hfz140_0, hfz140_1⟩ := bx2_ BK284
           have hnb141 := NB268_251.out
           have hnc141 := NB251_268.out
           have hnb142 := NB268_252.out
           have hnc142 := NB252_268.out
           have hnb143 := NB268_273.out
           have hnc143 := NB273_268.out
           have hnb144 := NB268_278.out
           have hnc144 := NB278_268.out
           obtain ⟨hcz145_0, hcz145_1, hfz145_0, hfz145_1⟩ := bx2_ BK268
           go_wp2_with (first | (go_at_call 9; (with_reducible refine (laws_eqLaurent.calls kj24 t279 _ _ t280 t263 _ _ t264 true _ ?side1 ?side2 ?side3 ?side4 A133.out).mono ?_); (case side1 => repeat (first | exact (Kd.R_reads' HO_285001.out).2.2 | (with_reducible refine Kd.C_alloc ?_ _) | (with_reducible refine Kd.C_drewN ?_ _) | (with_reducible refine Kd.C_drew ?_))); (case side2 => exact (Kd.R_reads' HO_285001.out).2.1); (case side3 => repeat (first | exact (Kd.R_reads' HO_269001.out).2.2 | (with_reducible refine Kd.C_alloc ?_ _) | (with_reducible refine Kd.C_drewN ?_ _) | (with_reducible refine Kd.C_drew ?_))); (case side4 => exact (Kd.R_reads' HO_269001.out).2.1); rintro e w146 ⟨rfl, hb⟩; have n0_ := am_ (Kd.R_below (rk_ HO_269001.out) hb); have n1_ := am_ (Kd.R_below (rk_ HO_274001.out) hb); have n2_ := am_ (Kd.R_below (rk_ HO_279001.out) hb); have n3_ := am_ (Kd.R_below (rk_ HO_285001.out) hb); have n4_ := am_ (Kd.R_below (rk_ HO289.out) hb); have n5_ := am_ (Kd.R_below (rk_ HO294.out) hb); have n6_ := am_ (bw_ BK251 hb); have n7_ := am_ (bw_ BK252 hb); have n8_ := am_ (bw_ BK268 hb); have n9_ := am_ (bw_ BK273 hb); have n10_ := am_ (bw_ BK278 hb); have n11_ := am_ (bw_ BK284 hb); have n12_ := am_ (below_step (bb_ HB.out) hb); clear HO_269001 HO_274001 HO_279001 HO_285001 HO289 HO294 BK251 BK252 BK268 BK273 BK278 BK284 HB; revert n0_ n1_ n2_ n3_ n4_ n5_ n6_ n7_ n8_ n9_ n10_ n11_ n12_; intro HO_269001 HO_274001 HO_279001 HO_285001 HO289 HO294 BK251 BK252 BK268 BK273 BK278 BK284 HB; (try clear hb); (try clear hb2); (try clear hk); (try clear hi)))
           go_meet
           case rel => exact ⟨_, ((t283 != t267)), (by first | rfl | (simp; done) | (simp [*]; done)), H', ⟨by have := HJ24.out; first | omega | exact Nat.le_refl _⟩, ⟨rm_ HO_269001.out (fun _ hk => ⟨hk.1, ⟨hk.2.1, hk.2.2.1⟩⟩)⟩, ⟨rm_ HO_274001.out (fun _ hk => ⟨hk.1, ⟨hk.2.1, hk.2.2.1⟩⟩)⟩, ⟨rm_ HO_279001.out (fun _ hk => ⟨hk.1, ⟨hk.2.1, hk.2.2.1⟩⟩)⟩, ⟨rm_ HO_285001.out (fun _ hk => ⟨hk.1, ⟨hk.2.1, hk.2.2.1⟩⟩)⟩, ⟨bk_ BK251.out⟩, ⟨bk_ BK252.out⟩, ⟨bk_ BK268.out⟩, ⟨bk_ BK273.out⟩, ⟨bk_ BK278.out⟩, ⟨bk_ BK284.out⟩, ⟨bb_ HB.out⟩⟩
          ·replace c134 := Bool.eq_false_iff.mpr c134
           subst c134
           have H1 : (laws_FnExactAddLaurent.j1 kj24 t267 true a0_0 l0_1 a1_0 l1_1 t263 t264 t279 t280) = some r := by rw [if_neg (show ¬ (false = true) by decide)] at H; exact H
           clear H
           have H := H1
           clear H1
           have H' := am_ H
           clear H
           have hnb147 := NB284_251.out
           have hnc147 := NB251_284.out
           have hnb148 := NB284_252.out
           have hnc148 := NB252_284.out
           have hnb149 := NB284_268.out
           have hnc149 := NB268_284.out
           have hnb150 := NB284_273.out
           have hnc150 := NB273_284.out
           have hnb151 := NB284_278.out
           have hnc151 := NB278_284.out
           obtain ⟨hcz152_0, hcz152_1, hfz152_0, hfz152_1⟩ := bx2_ BK284
           have hnb153 := NB268_251.out
           have hnc153 := NB251_268.out
           have hnb154 := NB268_252.out
           have hnc154 := NB252_268.out
           have hnb155 := NB268_273.out
           have hnc155 := NB273_268.out
           have hnb156 := NB268_278.out
           have hnc156 := NB278_268.out
           obtain ⟨hcz157_0, hcz157_1, hfz157_0, hfz157_1⟩ := bx2_ BK268
           go_wp2_with (first | (go_at_call 9; (with_reducible refine (laws_eqLaurent.calls kj24 t279 _ _ t280 t263 _ _ t264 false _ ?side1 ?side2 ?side3 ?side4 A133.out).mono ?_); (case side1 => repeat (first | exact (Kd.R_reads' HO_285001.out).2.2 | (with_reducible refine Kd.C_alloc ?_ _) | (with_reducible refine Kd.C_drewN ?_ _) | (with_reducible refine Kd.C_drew ?_))); (case side2 => exact (Kd.R_reads' HO_285001.out).2.1); (case side3 => repeat (first | exact (Kd.R_reads' HO_269001.out).2.2 | (with_reducible refine Kd.C_alloc ?_ _) | (with_reducible refine Kd.C_drewN ?_ _) | (with_reducible refine Kd.C_drew ?_))); (case side4 => exact (Kd.R_reads' HO_269001.out).2.1); rintro e w158 ⟨rfl, hb⟩; have n0_ := am_ (Kd.R_below (rk_ HO_269001.out) hb); have n1_ := am_ (Kd.R_below (rk_ HO_274001.out) hb); have n2_ := am_ (Kd.R_below (rk_ HO_279001.out) hb); have n3_ := am_ (Kd.R_below (rk_ HO_285001.out) hb); have n4_ := am_ (Kd.R_below (rk_ HO289.out) hb); have n5_ := am_ (Kd.R_below (rk_ HO294.out) hb); have n6_ := am_ (bw_ BK251 hb); have n7_ := am_ (bw_ BK252 hb); have n8_ := am_ (bw_ BK268 hb); have n9_ := am_ (bw_ BK273 hb); have n10_ := am_ (bw_ BK278 hb); have n11_ := am_ (bw_ BK284 hb); have n12_ := am_ (below_step (bb_ HB.out) hb); clear HO_269001 HO_274001 HO_279001 HO_285001 HO289 HO294 BK251 BK252 BK268 BK273 BK278 BK284 HB; revert n0_ n1_ n2_ n3_ n4_ n5_ n6_ n7_ n8_ n9_ n10_ n11_ n12_; intro HO_269001 HO_274001 HO_279001 HO_285001 HO289 HO294 BK251 BK252 BK268 BK273 BK278 BK284 HB; (try clear hb); (try clear hb2); (try clear hk); (try clear hi)))
           go_meet
           case rel => exact ⟨_, (true), (by first | rfl | (simp; done) | (simp [*]; done)), H', ⟨by have := HJ24.out; first | omega | exact Nat.le_refl _⟩, ⟨rm_ HO_269001.out (fun _ hk => ⟨hk.1, ⟨hk.2.1, hk.2.2.1⟩⟩)⟩, ⟨rm_ HO_274001.out (fun _ hk => ⟨hk.1, ⟨hk.2.1, hk.2.2.1⟩⟩)⟩, ⟨rm_ HO_279001.out (fun _ hk => ⟨hk.1, ⟨hk.2.1, hk.2.2.1⟩⟩)⟩, ⟨rm_ HO_285001.out (fun _ hk => ⟨hk.1, ⟨hk.2.1, hk.2.2.1⟩⟩)⟩, ⟨bk_ BK251.out⟩, ⟨bk_ BK252.out⟩, ⟨bk_ BK268.out⟩, ⟨bk_ BK273.out⟩, ⟨bk_ BK278.out⟩, ⟨bk_ BK284.out⟩, ⟨bb_ HB.out⟩⟩
        case rest =>
         clear HC110
         try clear c1
         try clear p2
         try clear c7
         try clear c8
         try clear c9
         try clear c10
         try clear c11
         try clear c12
         try clear c13
         try clear c14
         try clear c15
         try clear c79
         try clear c80
         try clear c81
         try clear c83
         try clear c84
         try clear c85
         try clear c86
         try clear c89
         try clear c90
         try clear c91
         try clear c92
         try clear c93
         try clear c95
         try clear c96
         try clear c97
         try clear c98
         try clear c101
         try clear c104
         try clear c107
         try clear c119
         try clear c120
         try clear c121
         try clear c122
         try clear c123
         try clear c126
         try clear c127
         try clear c128
         try clear c129
         try clear c132
         try clear c132b0
         try clear c134
         try clear c135
         try clear c136
         try clear c137
         try clear c138
         try clear c139
         try clear c141
         try clear c142
         try clear c143
         try clear c144
         try clear c147
         try clear c148
         try clear c149
         try clear c150
         try clear c151
         try clear c153
         try clear c154
         try clear c155
         try clear c156
         try clear hcz124_0
         try clear hcz124_1
         try clear hcz130_0
         try clear hcz130_1
         try clear hcz140_0
         try clear hcz140_1
         try clear hcz145_0
         try clear hcz145_1
         try clear hcz152_0
         try clear hcz152_1
         try clear hcz157_0
         try clear hcz157_1
         try clear hcz45_0
         try clear hcz45_1
         try clear hcz51_0
         try clear hcz51_1
         try clear hcz54_0
         try clear hcz54_1
         try clear hcz61_0
         try clear hcz61_1
         try clear hcz64_0
         try clear hcz64_1
         try clear hcz65_0
         try clear hcz65_1
         try clear hcz73_0
         try clear hcz73_1
         try clear hcz82_0
         try clear hcz82_1
         try clear hcz87_0
         try clear hcz87_1
         try clear hcz94_0
         try clear hcz94_1
         try clear hcz99_0
         try clear hcz99_1
         try clear hfz124_0
         try clear hfz124_1
         try clear hfz130_0
         try clear hfz130_1
         try clear hfz140_0
         try clear hfz140_1
         try clear hfz145_0
         try clear hfz145_1
         try clear hfz152_0
         try clear hfz152_1
         try clear hfz157_0
         try clear hfz157_1
         try clear hfz45_0
         try clear hfz45_1
         try clear hfz51_0
         try clear hfz51_1
         try clear hfz54_0
         try clear hfz54_1
         try clear hfz61_0
         try clear hfz61_1
         try clear hfz64_0
         try clear hfz64_1
         try clear hfz65_0
         try clear hfz65_1
         try clear hfz73_0
         try clear hfz73_1
         try clear hfz82_0
         try clear hfz82_1
         try clear hfz87_0
         try clear hfz87_1
         try clear hfz94_0
         try clear hfz94_1
         try clear hfz99_0
         try clear hfz99_1
         obtain ⟨kq, x82_109, rfl, HA, HJ109, HO_269001, HO_274001, HO_279001, HO_285001, BK251, BK252, BK268, BK273, BK278, BK284, HB⟩ := hcut
         have hl274001_109 := (Kd.R_reads' HO_274001.out).1
         rw [hl274001_109] at HO_274001
         (try simp only [hl274001_109])
         (try simp only [hl274001_109] at BK251)
         (try simp only [hl274001_109] at BK252)
         (try simp only [hl274001_109] at BK268)
         (try simp only [hl274001_109] at BK273)
         (try simp only [hl274001_109] at BK278)
         (try simp only [hl274001_109] at BK284)
         (try simp only [hl274001_109] at HO_269001)
         (try simp only [hl274001_109] at HO_279001)
         (try simp only [hl274001_109] at HO_285001)
         have hl279001_109 := (Kd.R_reads' HO_279001.out).1
         rw [hl279001_109] at HO_279001
         (try simp only [hl279001_109])
         (try simp only [hl279001_109] at BK251)
         (try simp only [hl279001_109] at BK252)
         (try simp only [hl279001_109] at BK268)
         (try simp only [hl279001_109] at BK273)
         (try simp only [hl279001_109] at BK278)
         (try simp only [hl279001_109] at BK284)
         (try simp only [hl279001_109] at HO_269001)
         (try simp only [hl279001_109] at HO_274001)
         (try simp only [hl279001_109] at HO_285001)
         cases kq with
         | zero => exact absurd HA.out (by simp [laws_FnExactAddLaurent.j1])
         | succ kj109 =>
          have H := HA.out
          clear HA
          simp only [laws_FnExactAddLaurent.j1] at H
          by_cases c159 : x82_109 = true
          ·subst c159
           have H1 : (some false) = some r := by rw [if_pos rfl] at H; exact H
           clear H
           have H := H1
           clear H1
           exact absurd ((Option.some.inj H).trans HTRUE_.out) (by simp)
          ·replace c159 := Bool.eq_false_iff.mpr c159
           subst c159
           have H1 : ((laws_markLaurent.f kj109 t279 t280 1).bind fun bt301 => ((laws_heldLaurent.f kj109 t279 bt301.2 1).bind fun t303 => (if t303 < 0 then (some false) else (if t303 = bt301.1 then ((laws_toLaurent.f kj109 a0_0 l0_1).bind fun bt304 => ((laws_toLaurent.f kj109 a1_0 l1_1).bind fun bt308 => ((impl_AddLaurent.f kj109 bt304.1 bt304.2 bt308.1 bt308.2).bind fun bt312 => ((laws_eqLaurent.f kj109 bt312.1 bt312.2.1 t263 t264).bind fun t318 => (if t318 = true then (laws_FnExactAddLaurent.j2 kj109 bt301.1 (bt312.2.2 != t267) t279 bt301.2) else (laws_FnExactAddLaurent.j2 kj109 bt301.1 true t279 bt301.2)))))) else (some false))))) = some r := by rw [if_neg (show ¬ (false = true) by decide)] at H; exact H
           clear H
           have H := H1
           clear H1
           replace H := Option.bind_eq_some_iff.mp H
           obtain ⟨⟨t301, t302⟩, A1600, H⟩ := H
           replace H : ((laws_heldLaurent.f kj109 t279 t302 1).bind fun t303 => (if t303 < 0 then (some false) else (if t303 = t301 then ((laws_toLaurent.f kj109 a0_0 l0_1).bind fun bt304 => ((laws_toLaurent.f kj109 a1_0 l1_1).bind fun bt308 => ((impl_AddLaurent.f kj109 bt304.1 bt304.2 bt308.1 bt308.2).bind fun bt312 => ((laws_eqLaurent.f kj109 bt312.1 bt312.2.1 t263 t264).bind fun t318 => (if t318 = true then (laws_FnExactAddLaurent.j2 kj109 t301 (bt312.2.2 != t267) t279 t302) else (laws_FnExactAddLaurent.j2 kj109 t301 true t279 t302)))))) else (some false)))) = some r := H
           have A160 := am_ A1600
           clear A1600
           replace H := Option.bind_eq_some_iff.mp H
           obtain ⟨t303, A1610, H⟩ := H
           replace H : (if t303 < 0 then (some false) else (if t303 = t301 then ((laws_toLaurent.f kj109 a0_0 l0_1).bind fun bt304 => ((laws_toLaurent.f kj109 a1_0 l1_1).bind fun bt308 => ((impl_AddLaurent.f kj109 bt304.1 bt304.2 bt308.1 bt308.2).bind fun bt312 => ((laws_eqLaurent.f kj109 bt312.1 bt312.2.1 t263 t264).bind fun t318 => (if t318 = true then (laws_FnExactAddLaurent.j2 kj109 t301 (bt312.2.2 != t267) t279 t302) else (laws_FnExactAddLaurent.j2 kj109 t301 true t279 t302)))))) else (some false))) = some r := H
           have A161 := am_ A1610
           clear A1610
           by_cases c162 : t303 < 0
           ·rw [if_pos c162] at H
            have c162b0 : decide (t303 < 0) = true := decide_eq_true c162
            clear c162
            exact absurd ((Option.some.inj H).trans HTRUE_.out) (by simp)
           ·rw [if_neg c162] at H
            have c162b0 : decide (t303 < 0) = false := decide_eq_false c162
            clear c162
            by_cases c163 : t303 = t301
            ·rw [if_pos c163] at H
             have c163b0 : (t303 == t301) = true := beq_iff_eq.mpr c163
             have c163b1 : (t303 != t301) = false := bne_eq_false_iff_eq.mpr c163
             clear c163
             replace H := Option.bind_eq_some_iff.mp H
             obtain ⟨⟨t304, t305⟩, A1640, H⟩ := H
             replace H : ((laws_toLaurent.f kj109 a1_0 l1_1).bind fun bt308 => ((impl_AddLaurent.f kj109 t304 t305 bt308.1 bt308.2).bind fun bt312 => ((laws_eqLaurent.f kj109 bt312.1 bt312.2.1 t263 t264).bind fun t318 => (if t318 = true then (laws_FnExactAddLaurent.j2 kj109 t301 (bt312.2.2 != t267) t279 t302) else (laws_FnExactAddLaurent.j2 kj109 t301 true t279 t302))))) = some r := H
             have A164 := am_ A1640
             clear A1640
             replace H := Option.bind_eq_some_iff.mp H
             obtain ⟨⟨t308, t309⟩, A1650, H⟩ := H
             replace H : ((impl_AddLaurent.f kj109 t304 t305 t308 t309).bind fun bt312 => ((laws_eqLaurent.f kj109 bt312.1 bt312.2.1 t263 t264).bind fun t318 => (if t318 = true then (laws_FnExactAddLaurent.j2 kj109 t301 (bt312.2.2 != t267) t279 t302) else (laws_FnExactAddLaurent.j2 kj109 t301 true t279 t302)))) = some r := H
             have A165 := am_ A1650
             clear A1650
             replace H := Option.bind_eq_some_iff.mp H
             obtain ⟨⟨t312, t313, t316⟩, A1660, H⟩ := H
             replace H : ((laws_eqLaurent.f kj109 t312 t313 t263 t264).bind fun t318 => (if t318 = true then (laws_FnExactAddLaurent.j2 kj109 t301 (t316 != t267) t279 t302) else (laws_FnExactAddLaurent.j2 kj109 t301 true t279 t302))) = some r := H
             have A166 := am_ A1660
             clear A1660
             have HC167 := am_ H
             clear H
             have hnb168 := NB284_251.out
             have hnc168 := NB251_284.out
             have hnb169 := NB284_252.out
             have hnc169 := NB252_284.out
             have hnb170 := NB284_268.out
             have hnc170 := NB268_284.out
             have hnb171 := NB284_273.out
             have hnc171 := NB273_284.out
             have hnb172 := NB284_278.out
             have hnc172 := NB278_284.out
             obtain ⟨hcz173_0, hcz173_1, hfz173_0, hfz173_1⟩ := bx2_ BK284
             try go_wp2_with (first | ((with_reducible refine gate_callee (f := 10) rfl ?_); refine goesL_ (some 85) rfl rfl Try.func10 (by kernel_rfl) rfl #[.agg #[.int .i64 t279, .slice Ao74 t280.length co74], .int .i64 1] rfl lm_ ?_; (with_reducible refine (laws_markLaurent.calls kj109 t279 (fun k_ => some k_ = (.slice Ao74 t280.length co74 : Value).ownBlock) (.slice Ao74 t280.length co74) t280 1 t301 t302 w _ ?side1 ?side2 A160.out).mono ?_); (case side1 => exact bb_ HB.out); (case side2 => exact Kd.R_tight rfl HO_285001.out); rintro e w174 ⟨rfl, hy0, hb, hkp⟩; refine ⟨_, rfl, ?_⟩; have n0_ := am_ (Kd.R_mono (ok' := fun k_ => some k_ ≠ (.slice Ao52 t297.length co52 : Value).ownBlock ∧ some k_ ≠ (.slice Ao62 t299.length co62 : Value).ownBlock ∧ some k_ ≠ (.slice Ao74 t280.length co74 : Value).ownBlock) (Kd.R_keptB (HO_269001.out) hkp (fun k_ hk_ hs_ => (hk_.2.2) hs_)) (fun k_ hk_ => ⟨hk_.1.1, hk_.1.2.1, hk_.1.2.2⟩)); have n1_ := am_ (Kd.R_mono (ok' := fun k_ => some k_ ≠ (.slice Ao42 t264.length co42 : Value).ownBlock ∧ some k_ ≠ (.slice Ao62 t299.length co62 : Value).ownBlock ∧ some k_ ≠ (.slice Ao74 t280.length co74 : Value).ownBlock) (Kd.R_keptB (HO_274001.out) hkp (fun k_ hk_ hs_ => (hk_.2.2) hs_)) (fun k_ hk_ => ⟨hk_.1.1, hk_.1.2.1, hk_.1.2.2⟩)); have n2_ := am_ (Kd.R_mono (ok' := fun k_ => some k_ ≠ (.slice Ao42 t264.length co42 : Value).ownBlock ∧ some k_ ≠ (.slice Ao52 t297.length co52 : Value).ownBlock ∧ some k_ ≠ (.slice Ao74 t280.length co74 : Value).ownBlock) (Kd.R_keptB (HO_279001.out) hkp (fun k_ hk_ hs_ => (hk_.2.2) hs_)) (fun k_ hk_ => ⟨hk_.1.1, hk_.1.2.1, hk_.1.2.2⟩)); have n3_ := am_ (Kd.R_reok rfl hy0 (fun k_ e_ => HO_285001.out.1 k_ e_)); have n4_ := am_ (blk_kept (bk_ BK251.out) hkp (fun hs_ => (fun e_ => (Kd.R_ne HO_285001.out BK251.out (by decide)) e_) hs_)); have n5_ := am_ (blk_kept (bk_ BK252.out) hkp (fun hs_ => (fun e_ => (Kd.R_ne HO_285001.out BK252.out (by decide)) e_) hs_)); have n6_ := am_ (blk_kept (bk_ BK268.out) hkp (fun hs_ => (fun e_ => (Kd.R_ne HO_285001.out BK268.out (by decide)) e_) hs_)); have n7_ := am_ (blk_kept (bk_ BK273.out) hkp (fun hs_ => (fun e_ => (Kd.R_ne HO_285001.out BK273.out (by decide)) e_) hs_)); have n8_ := am_ (blk_kept (bk_ BK278.out) hkp (fun hs_ => (fun e_ => (Kd.R_ne HO_285001.out BK278.out (by decide)) e_) hs_)); have n9_ := am_ (blk_kept (bk_ BK284.out) hkp (fun hs_ => (fun e_ => (Kd.R_ne HO_285001.out BK284.out (by decide)) e_) hs_)); have n10_ := am_ (hb); clear HO_269001 HO_274001 HO_279001 HO_285001 BK251 BK252 BK268 BK273 BK278 BK284 HB; revert n0_ n1_ n2_ n3_ n4_ n5_ n6_ n7_ n8_ n9_ n10_; intro HO_269001 HO_274001 HO_279001 HO_285001 BK251 BK252 BK268 BK273 BK278 BK284 HB; (try clear hb); (try clear hkp); (try clear hy0); obtain ⟨hcz175_0, hcz175_1, hfz175_0, hfz175_1⟩ := bx2_ BK284) | ((with_reducible refine gate_callee (f := 11) rfl ?_); refine goesL_ (some 88) rfl rfl Try.func11 (by kernel_rfl) rfl #[.agg #[.int .i64 t279, .slice Ao74 t302.length co74], .int .i64 1] rfl (by (try simp only [List.map_toArray, List.map_cons, List.map_nil]); first | done | (rw [show t302.length = t280.length from (Kd.R_reads' HO_285001.out).1.symm] <;> rfl) | rfl | (simp only [List.length_drop, List.length_take]; rfl)) ?_; (with_reducible refine (laws_heldLaurent.calls kj109 t279 _ _ t302 1 t303 _ ?side1 ?side2 A161.out).mono ?_); (case side1 => repeat (first | exact (Kd.R_reads' HO_285001.out).2.2 | (with_reducible refine Kd.C_alloc ?_ _) | (with_reducible refine Kd.C_drewN ?_ _) | (with_reducible refine Kd.C_drew ?_))); (case side2 => rw [show t302.length = t280.length from (Kd.R_reads' HO_285001.out).1.symm]; exact (Kd.R_reads' HO_285001.out).2.1); rintro e w176 ⟨rfl, hb⟩; refine ⟨_, rfl, ?_⟩; have n0_ := am_ (Kd.R_below (rk_ HO_269001.out) hb); have n1_ := am_ (Kd.R_below (rk_ HO_274001.out) hb); have n2_ := am_ (Kd.R_below (rk_ HO_279001.out) hb); have n3_ := am_ (Kd.R_below (rk_ HO_285001.out) hb); have n4_ := am_ (bw_ BK251 hb); have n5_ := am_ (bw_ BK252 hb); have n6_ := am_ (bw_ BK268 hb); have n7_ := am_ (bw_ BK273 hb); have n8_ := am_ (bw_ BK278 hb); have n9_ := am_ (bw_ BK284 hb); have n10_ := am_ (below_step (bb_ HB.out) hb); clear HO_269001 HO_274001 HO_279001 HO_285001 BK251 BK252 BK268 BK273 BK278 BK284 HB; revert n0_ n1_ n2_ n3_ n4_ n5_ n6_ n7_ n8_ n9_ n10_; intro HO_269001 HO_274001 HO_279001 HO_285001 BK251 BK252 BK268 BK273 BK278 BK284 HB; (try clear hb); (try clear hb2); (try clear hk); (try clear hi)))
             have n0_ := am_ (Kd.R_drew HO_269001.out)
             have n1_ := am_ (Kd.R_drew HO_274001.out)
             have n2_ := am_ (Kd.R_drew HO_279001.out)
             have n3_ := am_ (Kd.R_drew HO_285001.out)
             have n4_ := am_ (blk_drew BK251.out)
             have n5_ := am_ (blk_drew BK252.out)
             have n6_ := am_ (blk_drew BK268.out)
             have n7_ := am_ (blk_drew BK273.out)
             have n8_ := am_ (blk_drew BK278.out)
             have n9_ := am_ (blk_drew BK284.out)
             have n10_ := am_ (below_drew1 HB.out)
             clear HO_269001 HO_274001 HO_279001 HO_285001 BK251 BK252 BK268 BK273 BK278 BK284 HB; revert n0_ n1_ n2_ n3_ n4_ n5_ n6_ n7_ n8_ n9_ n10_; intro HO_269001 HO_274001 HO_279001 HO_285001 BK251 BK252 BK268 BK273 BK278 BK284 HB
             refine start_ (n := 11) (S := fun w' => w'.cell? ⟨gb251, 0, none⟩ = some (.int .i64 a0_0) ∧ w'.cell? ⟨gb251, 1, none⟩ = some (.slice A0_1 l0_1.length c0_1) ∧ w'.cell? ⟨gb252, 0, none⟩ = some (.int .i64 a1_0) ∧ w'.cell? ⟨gb252, 1, none⟩ = some (.slice A1_1 l1_1.length c1_1)) (ds := []) #[false, false, false, false, false, false, false, false, false, false, false] (by kernel_rfl) rfl rfl ⟨bc_ BK251 0, bc_ BK251 1, bc_ BK252 0, bc_ BK252 1⟩ (fun hHeld => ?_); refine with_tabW laws_FnExactAddLaurent.tab31 laws_FnExactAddLaurent.bits31 (fun HT_ HW_ => ?_)
             generalize w176.drew = w177 at HO_269001 HO_274001 HO_279001 HO_285001 BK251 BK252 BK268 BK273 BK278 BK284 HB hHeld ⊢
             refine take_ (i := 0) (N := some 95) (v := ?_) (a' := ?_) #[true, false, false, false, false, false, false, false, false, false, false] rfl rfl (take_ofW HT_.out HW_.out (by kernel_rfl)) (fun _ _ _ h => h) (Or.inl ⟨by rfl, ?_⟩) hHeld ?_ ?_
             rotate_left
             ·rintro w' ⟨s0, s1, s2, s3⟩
              go_simp
              with_reducible rfl
             rotate_left
             ·simp only [Act.put, List.setIfInBounds_toArray, List.set_cons_zero, List.set_cons_succ, i64_w, i32_w]
              rfl
             refine take_ (i := 2) (N := some 97) (v := ?_) (a' := ?_) #[true, false, true, false, false, false, false, false, false, false, false] rfl rfl (take_ofW HT_.out HW_.out (by kernel_rfl)) (fun _ _ _ h => h) (Or.inl ⟨by rfl, ?_⟩) hHeld ?_ ?_
             rotate_left
             ·rintro w' ⟨s0, s1, s2, s3⟩
              go_simp
              with_reducible rfl
             rotate_left
             ·simp only [Act.put, List.setIfInBounds_toArray, List.set_cons_zero, List.set_cons_succ, i64_w, i32_w]
              rfl
             refine join_ (σ := Value × Value × Value × Nat) 2 #[true, true, true, true, true, true, true, true, true, false, false] (fun s_ => [(96, .agg #[.int .i64 t304, s_.1]), (98, .agg #[.int .i64 t308, s_.2.1]), (99, .tuple #[.agg #[.int .i64 t312, s_.2.2.1], .int .i64 t316]), (15, .pointer (some ⟨s_.2.2.2, 0, none⟩)), (94, .tuple #[.agg #[.int .i64 t312, s_.2.2.1], .int .i64 t316]), (100, .agg #[.int .i64 t312, s_.2.2.1]), (101, .int .i64 t316)]) (fun s_ w' => (w'.cell? ⟨gb251, 0, none⟩ = some (.int .i64 a0_0) ∧ w'.cell? ⟨gb251, 1, none⟩ = some (.slice A0_1 l0_1.length c0_1) ∧ w'.cell? ⟨gb252, 0, none⟩ = some (.int .i64 a1_0) ∧ w'.cell? ⟨gb252, 1, none⟩ = some (.slice A1_1 l1_1.length c1_1)) ∧ (Kd.R (Kd.int .i64) 2 w' w.heap.size (fun k_ => some k_ ≠ (s_.2.1 : Value).ownBlock ∧ some k_ ≠ (s_.2.2.1 : Value).ownBlock ∧ some k_ ≠ (.slice Ao42 t264.length co42 : Value).ownBlock ∧ some k_ ≠ (.slice Ao52 t297.length co52 : Value).ownBlock ∧ some k_ ≠ (.slice Ao62 t299.length co62 : Value).ownBlock ∧ some k_ ≠ (.slice Ao74 t280.length co74 : Value).ownBlock) s_.1 t305) ∧ (Kd.R (Kd.int .i64) 2 w' w.heap.size (fun k_ => some k_ ≠ (s_.1 : Value).ownBlock ∧ some k_ ≠ (s_.2.2.1 : Value).ownBlock ∧ some k_ ≠ (.slice Ao42 t264.length co42 : Value).ownBlock ∧ some k_ ≠ (.slice Ao52 t297.length co52 : Value).ownBlock ∧ some k_ ≠ (.slice Ao62 t299.length co62 : Value).ownBlock ∧ some k_ ≠ (.slice Ao74 t280.length co74 : Value).ownBlock) s_.2.1 t309) ∧ (Kd.R (Kd.int .i64) 2 w' w.heap.size (fun k_ => some k_ ≠ (s_.1 : Value).ownBlock ∧ some k_ ≠ (s_.2.1 : Value).ownBlock ∧ some k_ ≠ (.slice Ao42 t264.length co42 : Value).ownBlock ∧ some k_ ≠ (.slice Ao52 t297.length co52 : Value).ownBlock ∧ some k_ ≠ (.slice Ao62 t299.length co62 : Value).ownBlock ∧ some k_ ≠ (.slice Ao74 t280.length co74 : Value).ownBlock) s_.2.2.1 t313) ∧ (Kd.R (Kd.int .i64) 2 w' w.heap.size (fun k_ => some k_ ≠ (s_.1 : Value).ownBlock ∧ some k_ ≠ (s_.2.1 : Value).ownBlock ∧ some k_ ≠ (s_.2.2.1 : Value).ownBlock ∧ some k_ ≠ (.slice Ao52 t297.length co52 : Value).ownBlock ∧ some k_ ≠ (.slice Ao62 t299.length co62 : Value).ownBlock ∧ some k_ ≠ (.slice Ao74 t280.length co74 : Value).ownBlock) (.slice Ao42 t264.length co42) t264) ∧ (Kd.R (Kd.int .i64) 2 w' w.heap.size (fun k_ => some k_ ≠ (s_.1 : Value).ownBlock ∧ some k_ ≠ (s_.2.1 : Value).ownBlock ∧ some k_ ≠ (s_.2.2.1 : Value).ownBlock ∧ some k_ ≠ (.slice Ao42 t264.length co42 : Value).ownBlock ∧ some k_ ≠ (.slice Ao62 t299.length co62 : Value).ownBlock ∧ some k_ ≠ (.slice Ao74 t280.length co74 : Value).ownBlock) (.slice Ao52 t297.length co52) t297) ∧ (Kd.R (Kd.int .i64) 2 w' w.heap.size (fun k_ => some k_ ≠ (s_.1 : Value).ownBlock ∧ some k_ ≠ (s_.2.1 : Value).ownBlock ∧ some k_ ≠ (s_.2.2.1 : Value).ownBlock ∧ some k_ ≠ (.slice Ao42 t264.length co42 : Value).ownBlock ∧ some k_ ≠ (.slice Ao52 t297.length co52 : Value).ownBlock ∧ some k_ ≠ (.slice Ao74 t280.length co74 : Value).ownBlock) (.slice Ao62 t299.length co62) t299) ∧ (Kd.R (Kd.int .i64) 2 w' w.heap.size (fun k_ => some k_ ≠ (s_.1 : Value).ownBlock ∧ some k_ ≠ (s_.2.1 : Value).ownBlock ∧ some k_ ≠ (s_.2.2.1 : Value).ownBlock ∧ some k_ ≠ (.slice Ao42 t264.length co42 : Value).ownBlock ∧ some k_ ≠ (.slice Ao52 t297.length co52 : Value).ownBlock ∧ some k_ ≠ (.slice Ao62 t299.length co62 : Value).ownBlock) (.slice Ao74 t280.length co74) t302) ∧ (w'.heap[gb251]? = some (.cells #[.int .i64 a0_0, .slice A0_1 l0_1.length c0_1] 24 (0, 0))) ∧ (w'.heap[gb252]? = some (.cells #[.int .i64 a1_0, .slice A1_1 l1_1.length c1_1] 24 (0, 0))) ∧ (w'.heap[gb268]? = some (.cells #[.int .i64 t263, .slice Ao42 t264.length co42] 26 (0, 0))) ∧ (w'.heap[gb273]? = some (.cells #[.int .i64 t269, .slice Ao52 t297.length co52] 26 (0, 0))) ∧ (w'.heap[gb278]? = some (.cells #[.int .i64 t274, .slice Ao62 t299.length co62] 26 (0, 0))) ∧ (w'.heap[gb284]? = some (.cells #[.int .i64 t279, .slice Ao74 t280.length co74] 26 (0, 0))) ∧ (w'.heap[s_.2.2.2]? = some (.cells #[.int .i64 0, .slice none 0 0] 26 (0, 0))) ∧ (w.heap.size ≤ s_.2.2.2) ∧ (w.heap.size ≤ s_.2.2.2) ∧ (gb251 ≠ s_.2.2.2) ∧ (s_.2.2.2 ≠ gb251) ∧ (gb252 ≠ s_.2.2.2) ∧ (s_.2.2.2 ≠ gb252) ∧ (gb268 ≠ s_.2.2.2) ∧ (s_.2.2.2 ≠ gb268) ∧ (gb273 ≠ s_.2.2.2) ∧ (s_.2.2.2 ≠ gb273) ∧ (gb278 ≠ s_.2.2.2) ∧ (s_.2.2.2 ≠ gb278) ∧ (gb284 ≠ s_.2.2.2) ∧ (s_.2.2.2 ≠ gb284) ∧ (Below w.heap.size w w')) ?_ ?_
             rotate_left
             ·intro hCont
              refine two_ (i := 1) (j := 8) (Ni := some 96) (Nj := some 15) #[true, true, true, false, false, false, false, false, false, false, false] #[true, false, true, false, false, false, false, false, true, false, false] rfl rfl rfl rfl (two_of HT_.out (by kernel_rfl)) (by decide) (by decide) (fun K hK => ?_) (fun K hK => ?_)
              ·skip
               refine goes_ Try.func7 (by kernel_rfl) rfl #[.agg #[.int .i64 a0_0, .slice A0_1 l0_1.length c0_1]] (by rfl) rfl rfl lm_ ?_
               with_reducible refine (laws_toLaurent.calls kj109 a0_0 _ _ l0_1 t304 t305 _ ?side1 ?side2 A164.out).mono ?_
               (case side1 => repeat (first | exact (Kd.C_below HR0_1.out HB.out) | (with_reducible refine Kd.C_alloc ?_ _) | (with_reducible refine Kd.C_drewN ?_ _) | (with_reducible refine Kd.C_drew ?_)))
               (case side2 => exact HC0_1.out)
               rintro e w178 ⟨v306, rfl, ho0, hb⟩
               refine ⟨_, rfl, ?_⟩
               have n0_ := am_ (Kd.R_elder' (rk_ HO_269001.out) (Kd.R_base ho0) hb)
               have n1_ := am_ (Kd.R_elder' (rk_ HO_274001.out) (Kd.R_base ho0) hb)
               have n2_ := am_ (Kd.R_elder' (rk_ HO_279001.out) (Kd.R_base ho0) hb)
               have n3_ := am_ (Kd.R_elder' (rk_ HO_285001.out) (Kd.R_base ho0) hb)
               have n4_ := am_ (Kd.R_lower (Kd.R_new' (Kd.R_new' (Kd.R_new' (Kd.R_new' ho0 (Kd.R_lt (rk_ HO_269001.out))) (Kd.R_lt (rk_ HO_274001.out))) (Kd.R_lt (rk_ HO_279001.out))) (Kd.R_lt (rk_ HO_285001.out))) (below_size (bb_ HB.out)))
               have n5_ := am_ (bw_ BK251 hb)
               have n6_ := am_ (bw_ BK252 hb)
               have n7_ := am_ (bw_ BK268 hb)
               have n8_ := am_ (bw_ BK273 hb)
               have n9_ := am_ (bw_ BK278 hb)
               have n10_ := am_ (bw_ BK284 hb)
               have n11_ := am_ (below_step (bb_ HB.out) hb)
               clear HO_269001 HO_274001 HO_279001 HO_285001 BK251 BK252 BK268 BK273 BK278 BK284 HB; revert n0_ n1_ n2_ n3_ n4_ n5_ n6_ n7_ n8_ n9_ n10_ n11_; intro HO_269001 HO_274001 HO_279001 HO_285001 HO307 BK251 BK252 BK268 BK273 BK278 BK284 HB
               (try clear hb)
               (try clear hb2)
               (try clear hk)
               (try clear hi)
               (try clear ho0)
               refine hK.out _ _ ⟨bc_ BK251 0, bc_ BK251 1, bc_ BK252 0, bc_ BK252 1⟩ (fun hHeld => ?_)
               clear hK K
               refine norm_ (a' := ?_) ?_ ?_
               rotate_left
               ·show Act.put _ (some 96) _ = _
                simp only [Act.put, List.setIfInBounds_toArray, List.set_cons_zero, List.set_cons_succ, i64_w, i32_w]
                rfl
               refine two_ (i := 3) (j := 8) (Ni := some 98) (Nj := some 15) #[true, true, true, true, false, false, false, false, false, false, false] #[true, true, true, false, false, false, false, false, true, false, false] rfl rfl rfl rfl (two_of HT_.out (by kernel_rfl)) (by decide) (by decide) (fun K hK => ?_) (fun K hK => ?_)
               ·skip
                refine goes_ Try.func7 (by kernel_rfl) rfl #[.agg #[.int .i64 a1_0, .slice A1_1 l1_1.length c1_1]] (by rfl) rfl rfl lm_ ?_
                with_reducible refine (laws_toLaurent.calls kj109 a1_0 _ _ l1_1 t308 t309 _ ?side1 ?side2 A165.out).mono ?_
                (case side1 => repeat (first | exact (Kd.C_below HR1_1.out HB.out) | (with_reducible refine Kd.C_alloc ?_ _) | (with_reducible refine Kd.C_drewN ?_ _) | (with_reducible refine Kd.C_drew ?_)))
                (case side2 => exact HC1_1.out)
                rintro e w179 ⟨v310, rfl, ho0, hb⟩
                refine ⟨_, rfl, ?_⟩
                have n0_ := am_ (Kd.R_elder' (rk_ HO_269001.out) (Kd.R_base ho0) hb)
                have n1_ := am_ (Kd.R_elder' (rk_ HO_274001.out) (Kd.R_base ho0) hb)
                have n2_ := am_ (Kd.R_elder' (rk_ HO_279001.out) (Kd.R_base ho0) hb)
                have n3_ := am_ (Kd.R_elder' (rk_ HO_285001.out) (Kd.R_base ho0) hb)
                have n4_ := am_ (Kd.R_elder' (rk_ HO307.out) (Kd.R_base ho0) hb)
                have n5_ := am_ (Kd.R_lower (Kd.R_new' (Kd.R_new' (Kd.R_new' (Kd.R_new' (Kd.R_new' ho0 (Kd.R_lt (rk_ HO_269001.out))) (Kd.R_lt (rk_ HO_274001.out))) (Kd.R_lt (rk_ HO_279001.out))) (Kd.R_lt (rk_ HO_285001.out))) (Kd.R_lt (rk_ HO307.out))) (below_size (bb_ HB.out)))
                have n6_ := am_ (bw_ BK251 hb)
                have n7_ := am_ (bw_ BK252 hb)
                have n8_ := am_ (bw_ BK268 hb)
                have n9_ := am_ (bw_ BK273 hb)
                have n10_ := am_ (bw_ BK278 hb)
                have n11_ := am_ (bw_ BK284 hb)
                have n12_ := am_ (below_step (bb_ HB.out) hb)
                clear HO_269001 HO_274001 HO_279001 HO_285001 HO307 BK251 BK252 BK268 BK273 BK278 BK284 HB; revert n0_ n1_ n2_ n3_ n4_ n5_ n6_ n7_ n8_ n9_ n10_ n11_ n12_; intro HO_269001 HO_274001 HO_279001 HO_285001 HO307 HO311 BK251 BK252 BK268 BK273 BK278 BK284 HB
                (try clear hb)
                (try clear hb2)
                (try clear hk)
                (try clear hi)
                (try clear ho0)
                obtain ⟨Ao180, co180, eo180⟩ := Kd.R_slice HO307.out
                (first | subst eo180 | (injection eo180 with f1_ f2_ f3_; have f4_ := f1_.symm; have f5_ := f3_.symm; clear f1_ f2_ f3_; subst f4_; subst f5_))
                obtain ⟨Ao181, co181, eo181⟩ := Kd.R_slice HO311.out
                (first | subst eo181 | (injection eo181 with f1_ f2_ f3_; have f4_ := f1_.symm; have f5_ := f3_.symm; clear f1_ f2_ f3_; subst f4_; subst f5_))
                refine hK.out _ _ ⟨bc_ BK251 0, bc_ BK251 1, bc_ BK252 0, bc_ BK252 1⟩ (fun hHeld => ?_)
                clear hK K
                refine norm_ (a' := ?_) ?_ ?_
                rotate_left
                ·show Act.put _ (some 98) _ = _
                 simp only [Act.put, List.setIfInBounds_toArray, List.set_cons_zero, List.set_cons_succ, i64_w, i32_w]
                 rfl
                refine two_ (i := 4) (j := 8) (Ni := some 99) (Nj := some 15) #[true, true, true, true, true, false, false, false, false, false, false] #[true, true, true, true, false, false, false, false, true, false, false] rfl rfl rfl rfl (two_of HT_.out (by kernel_rfl)) (by decide) (by decide) (fun K hK => ?_) (fun K hK => ?_)
                ·skip
                 refine goes_ Try.func8 (by kernel_rfl) rfl #[.agg #[.int .i64 t304, .slice Ao180 t305.length co180], .agg #[.int .i64 t308, .slice Ao181 t309.length co181]] (by rfl) rfl rfl lm_ ?_
                 with_reducible refine (impl_AddLaurent.calls kj109 t304 (fun k_ => some k_ = (.slice Ao180 t305.length co180 : Value).ownBlock) _ _ t305 t308 (fun k_ => some k_ = (.slice Ao181 t309.length co181 : Value).ownBlock) _ _ t309 t312 t313 t316 _ ?side1 ?side2 A166.out).mono ?_
                 (case side1 => exact Kd.R_V (Kd.R_tight rfl (Kd.R_types (Kd.R_types (Kd.R_types (Kd.R_types (Kd.R_types (Kd.R_types (HO307.out) BK251.out (by decide)) BK252.out (by decide)) BK268.out (by decide)) BK273.out (by decide)) BK278.out (by decide)) BK284.out (by decide))))
                 (case side2 => exact Kd.R_V (Kd.R_tight rfl (Kd.R_types (Kd.R_types (Kd.R_types (Kd.R_types (Kd.R_types (Kd.R_types (HO311.out) BK251.out (by decide)) BK252.out (by decide)) BK268.out (by decide)) BK273.out (by decide)) BK278.out (by decide)) BK284.out (by decide))))
                 rintro e w182 ⟨v314, rfl, ho0, hb⟩
                 refine ⟨_, rfl, ?_⟩
                 have n0_ := am_ (Kd.R_elder' (rk_ HO_269001.out) (Kd.R_base ho0) hb)
                 have n1_ := am_ (Kd.R_elder' (rk_ HO_274001.out) (Kd.R_base ho0) hb)
                 have n2_ := am_ (Kd.R_elder' (rk_ HO_279001.out) (Kd.R_base ho0) hb)
                 have n3_ := am_ (Kd.R_elder' (rk_ HO_285001.out) (Kd.R_base ho0) hb)
                 have n4_ := am_ (Kd.R_elder' (rk_ HO307.out) (Kd.R_base ho0) hb)
                 have n5_ := am_ (Kd.R_elder' (rk_ HO311.out) (Kd.R_base ho0) hb)
                 have n6_ := am_ (Kd.R_lower (Kd.R_new' (Kd.R_new' (Kd.R_new' (Kd.R_new' (Kd.R_new' (Kd.R_new' (Kd.R_mono (ok' := fun k_ => True) ho0 (fun _ hk_ => trivial)) (Kd.R_lt (rk_ HO_269001.out))) (Kd.R_lt (rk_ HO_274001.out))) (Kd.R_lt (rk_ HO_279001.out))) (Kd.R_lt (rk_ HO_285001.out))) (Kd.R_lt (rk_ HO307.out))) (Kd.R_lt (rk_ HO311.out))) (below_size (bb_ HB.out)))
                 have n7_ := am_ (bw_ BK251 hb)
                 have n8_ := am_ (bw_ BK252 hb)
                 have n9_ := am_ (bw_ BK268 hb)
                 have n10_ := am_ (bw_ BK273 hb)
                 have n11_ := am_ (bw_ BK278 hb)
                 have n12_ := am_ (bw_ BK284 hb)
                 have n13_ := am_ (below_step (bb_ HB.out) hb)
                 clear HO_269001 HO_274001 HO_279001 HO_285001 HO307 HO311 BK251 BK252 BK268 BK273 BK278 BK284 HB; revert n0_ n1_ n2_ n3_ n4_ n5_ n6_ n7_ n8_ n9_ n10_ n11_ n12_ n13_; intro HO_269001 HO_274001 HO_279001 HO_285001 HO307 HO311 HO315 BK251 BK252 BK268 BK273 BK278 BK284 HB
                 (try clear hb)
                 (try clear hb2)
                 (try clear hk)
                 (try clear hi)
                 (try clear ho0)
                 refine hK.out _ _ ⟨bc_ BK251 0, bc_ BK251 1, bc_ BK252 0, bc_ BK252 1⟩ (fun hHeld => ?_)
                 clear hK K
                 refine norm_ (a' := ?_) ?_ ?_
                 rotate_left
                 ·show Act.put _ (some 99) _ = _
                  simp only [Act.put, List.setIfInBounds_toArray, List.set_cons_zero, List.set_cons_succ, i64_w, i32_w]
                  rfl
                 refine pure_ (i := 5) (N := some 94) (v := ?_) (a' := ?_) #[true, true, true, true, true, true, false, false, false, false, false] rfl rfl (any_of HT_.out (by kernel_rfl)) (fun _ _ _ h => h) (Or.inl ⟨by rfl, ?_⟩) ?_ ?_
                 rotate_left
                 ·intro w'
                  go_simp
                  with_reducible rfl
                 rotate_left
                 ·simp only [Act.put, List.setIfInBounds_toArray, List.set_cons_zero, List.set_cons_succ, i64_w, i32_w]
                  rfl
                 refine pure_ (i := 6) (N := some 100) (v := ?_) (a' := ?_) #[true, true, true, true, true, true, true, false, false, false, false] rfl rfl (any_of HT_.out (by kernel_rfl)) (fun _ _ _ h => h) (Or.inl ⟨by rfl, ?_⟩) ?_ ?_
                 rotate_left
                 ·intro w'
                  go_simp
                  with_reducible rfl
                 rotate_left
                 ·simp only [Act.put, List.setIfInBounds_toArray, List.set_cons_zero, List.set_cons_succ, i64_w, i32_w]
                  rfl
                 refine pure_ (i := 7) (N := some 101) (v := ?_) (a' := ?_) #[true, true, true, true, true, true, true, true, false, false, false] rfl rfl (any_of HT_.out (by kernel_rfl)) (fun _ _ _ h => h) (Or.inl ⟨by rfl, ?_⟩) ?_ ?_
                 rotate_left
                 ·intro w'
                  go_simp
                  with_reducible rfl
                 rotate_left
                 ·simp only [Act.put, List.setIfInBounds_toArray, List.set_cons_zero, List.set_cons_succ, i64_w, i32_w]
                  rfl
                 refine one_ (i := 8) (N := some 15) #[true, true, true, true, true, true, true, true, true, false, false] rfl rfl (one_of HT_.out (by kernel_rfl)) (by decide) (fun K hK => ?_)
                 refine box_step ?hg (N := 15) ?hd (cs := #[.int .i64 0, .slice none 0 0]) (t := 26) ?hr ?_; (case hd => rfl); (case hg => rfl); (case hr => first | (go_simp; done) | (go_simp; rfl))
                 intro gb317 hg w183 hbox hb
                 have n0_ := am_ (Kd.R_below (rk_ HO_269001.out) hb)
                 have n1_ := am_ (Kd.R_below (rk_ HO_274001.out) hb)
                 have n2_ := am_ (Kd.R_below (rk_ HO_279001.out) hb)
                 have n3_ := am_ (Kd.R_below (rk_ HO_285001.out) hb)
                 have n4_ := am_ (Kd.R_below (rk_ HO307.out) hb)
                 have n5_ := am_ (Kd.R_below (rk_ HO311.out) hb)
                 have n6_ := am_ (Kd.R_below (rk_ HO315.out) hb)
                 have n7_ := am_ (bw_ BK251 hb)
                 have n8_ := am_ (bw_ BK252 hb)
                 have n9_ := am_ (bw_ BK268 hb)
                 have n10_ := am_ (bw_ BK273 hb)
                 have n11_ := am_ (bw_ BK278 hb)
                 have n12_ := am_ (bw_ BK284 hb)
                 have n13_ := am_ (below_step (bb_ HB.out) hb)
                 have n14_ := am_ (hbox)
                 have n15_ := am_ ((by rw [hg]; exact (below_size (bb_ HB.out)) : w.heap.size ≤ gb317))
                 have n16_ := am_ ((by rw [hg]; exact (below_size (bb_ HB.out)) : w.heap.size ≤ gb317))
                 have n17_ := am_ (nl_ BK251 hg)
                 have n18_ := am_ (ng_ BK251 hg)
                 have n19_ := am_ (nl_ BK252 hg)
                 have n20_ := am_ (ng_ BK252 hg)
                 have n21_ := am_ (nl_ BK268 hg)
                 have n22_ := am_ (ng_ BK268 hg)
                 have n23_ := am_ (nl_ BK273 hg)
                 have n24_ := am_ (ng_ BK273 hg)
                 have n25_ := am_ (nl_ BK278 hg)
                 have n26_ := am_ (ng_ BK278 hg)
                 have n27_ := am_ (nl_ BK284 hg)
                 have n28_ := am_ (ng_ BK284 hg)
                 clear HO_269001 HO_274001 HO_279001 HO_285001 HO307 HO311 HO315 BK251 BK252 BK268 BK273 BK278 BK284 HB; revert n0_ n1_ n2_ n3_ n4_ n5_ n6_ n7_ n8_ n9_ n10_ n11_ n12_ n13_ n14_ n15_ n16_ n17_ n18_ n19_ n20_ n21_ n22_ n23_ n24_ n25_ n26_ n27_ n28_; intro HO_269001 HO_274001 HO_279001 HO_285001 HO307 HO311 HO315 BK251 BK252 BK268 BK273 BK278 BK284 HB BK317 GW317 GE317 NB251_317 NB317_251 NB252_317 NB317_252 NB268_317 NB317_268 NB273_317 NB317_273 NB278_317 NB317_278 NB284_317 NB317_284
                 clear hb hbox hg
                 refine hK.out _ _ ⟨bc_ BK251 0, bc_ BK251 1, bc_ BK252 0, bc_ BK252 1⟩ (fun hHeld => ?_)
                 clear hK K
                 refine norm_ (a' := ?_) ?_ ?_
                 rotate_left
                 ·show Act.put _ (some 15) _ = _
                  simp only [Act.put, List.setIfInBounds_toArray, List.set_cons_zero, List.set_cons_succ, i64_w, i32_w]
                  rfl
                 exact norm_ (by simp only [putAll, Act.put, List.setIfInBounds_toArray, List.set_cons_zero, List.set_cons_succ]) (hCont (.slice Ao180 t305.length co180, .slice Ao181 t309.length co181, v314, gb317) _ ⟨hHeld, (rm_ HO307.out (fun _ hk => ⟨hk.1.2, ⟨hk.2, ⟨hk.1.1.1.1.1.2, ⟨hk.1.1.1.1.2, ⟨hk.1.1.1.2, hk.1.1.2⟩⟩⟩⟩⟩)), (rm_ HO311.out (fun _ hk => ⟨hk.1.2, ⟨hk.2, ⟨hk.1.1.1.1.1.2, ⟨hk.1.1.1.1.2, ⟨hk.1.1.1.2, hk.1.1.2⟩⟩⟩⟩⟩)), (rm_ HO315.out (fun _ hk => ⟨hk.1.2, ⟨hk.2, ⟨hk.1.1.1.1.1.2, ⟨hk.1.1.1.1.2, ⟨hk.1.1.1.2, hk.1.1.2⟩⟩⟩⟩⟩)), (rm_ HO_269001.out (fun _ hk => ⟨hk.1.1.2, ⟨hk.1.2, ⟨hk.2, ⟨hk.1.1.1.1, ⟨hk.1.1.1.2.1, hk.1.1.1.2.2⟩⟩⟩⟩⟩)), (rm_ HO_274001.out (fun _ hk => ⟨hk.1.1.2, ⟨hk.1.2, ⟨hk.2, ⟨hk.1.1.1.1, ⟨hk.1.1.1.2.1, hk.1.1.1.2.2⟩⟩⟩⟩⟩)), (rm_ HO_279001.out (fun _ hk => ⟨hk.1.1.2, ⟨hk.1.2, ⟨hk.2, ⟨hk.1.1.1.1, ⟨hk.1.1.1.2.1, hk.1.1.1.2.2⟩⟩⟩⟩⟩)), (rm_ HO_285001.out (fun _ hk => ⟨hk.1.1.2, ⟨hk.1.2, ⟨hk.2, ⟨hk.1.1.1.1, ⟨hk.1.1.1.2.1, hk.1.1.1.2.2⟩⟩⟩⟩⟩)), (bk_ BK251.out), (bk_ BK252.out), (bk_ BK268.out), (bk_ BK273.out), (bk_ BK278.out), (bk_ BK284.out), (bk_ BK317.out), GW317.out, GE317.out, NB251_317.out, NB317_251.out, NB252_317.out, NB317_252.out, NB268_317.out, NB317_268.out, NB273_317.out, NB317_273.out, NB278_317.out, NB317_278.out, NB284_317.out, NB317_284.out, (bb_ HB.out)⟩)
                ·skip
                 refine box_step ?hg (N := 15) ?hd (cs := #[.int .i64 0, .slice none 0 0]) (t := 26) ?hr ?_; (case hd => rfl); (case hg => rfl); (case hr => first | (go_simp; done) | (go_simp; rfl))
                 intro gb317 hg w180 hbox hb
                 have n0_ := am_ (Kd.R_below (rk_ HO_269001.out) hb)
                 have n1_ := am_ (Kd.R_below (rk_ HO_274001.out) hb)
                 have n2_ := am_ (Kd.R_below (rk_ HO_279001.out) hb)
                 have n3_ := am_ (Kd.R_below (rk_ HO_285001.out) hb)
                 have n4_ := am_ (Kd.R_below (rk_ HO307.out) hb)
                 have n5_ := am_ (Kd.R_below (rk_ HO311.out) hb)
                 have n6_ := am_ (bw_ BK251 hb)
                 have n7_ := am_ (bw_ BK252 hb)
                 have n8_ := am_ (bw_ BK268 hb)
                 have n9_ := am_ (bw_ BK273 hb)
                 have n10_ := am_ (bw_ BK278 hb)
                 have n11_ := am_ (bw_ BK284 hb)
                 have n12_ := am_ (below_step (bb_ HB.out) hb)
                 have n13_ := am_ (hbox)
                 have n14_ := am_ ((by rw [hg]; exact (below_size (bb_ HB.out)) : w.heap.size ≤ gb317))
                 have n15_ := am_ ((by rw [hg]; exact (below_size (bb_ HB.out)) : w.heap.size ≤ gb317))
                 have n16_ := am_ (nl_ BK251 hg)
                 have n17_ := am_ (ng_ BK251 hg)
                 have n18_ := am_ (nl_ BK252 hg)
                 have n19_ := am_ (ng_ BK252 hg)
                 have n20_ := am_ (nl_ BK268 hg)
                 have n21_ := am_ (ng_ BK268 hg)
                 have n22_ := am_ (nl_ BK273 hg)
                 have n23_ := am_ (ng_ BK273 hg)
                 have n24_ := am_ (nl_ BK278 hg)
                 have n25_ := am_ (ng_ BK278 hg)
                 have n26_ := am_ (nl_ BK284 hg)
                 have n27_ := am_ (ng_ BK284 hg)
                 clear HO_269001 HO_274001 HO_279001 HO_285001 HO307 HO311 BK251 BK252 BK268 BK273 BK278 BK284 HB; revert n0_ n1_ n2_ n3_ n4_ n5_ n6_ n7_ n8_ n9_ n10_ n11_ n12_ n13_ n14_ n15_ n16_ n17_ n18_ n19_ n20_ n21_ n22_ n23_ n24_ n25_ n26_ n27_; intro HO_269001 HO_274001 HO_279001 HO_285001 HO307 HO311 BK251 BK252 BK268 BK273 BK278 BK284 HB BK317 GW317 GE317 NB251_317 NB317_251 NB252_317 NB317_252 NB268_317 NB317_268 NB273_317 NB317_273 NB278_317 NB317_278 NB284_317 NB317_284
                 clear hb hbox hg
                 obtain ⟨Ao181, co181, eo181⟩ := Kd.R_slice HO307.out
                 (first | subst eo181 | (injection eo181 with f1_ f2_ f3_; have f4_ := f1_.symm; have f5_ := f3_.symm; clear f1_ f2_ f3_; subst f4_; subst f5_))
                 obtain ⟨Ao182, co182, eo182⟩ := Kd.R_slice HO311.out
                 (first | subst eo182 | (injection eo182 with f1_ f2_ f3_; have f4_ := f1_.symm; have f5_ := f3_.symm; clear f1_ f2_ f3_; subst f4_; subst f5_))
                 refine hK.out _ _ ⟨bc_ BK251 0, bc_ BK251 1, bc_ BK252 0, bc_ BK252 1⟩ (fun hHeld => ?_)
                 clear hK K
                 refine norm_ (a' := ?_) ?_ ?_
                 rotate_left
                 ·show Act.put _ (some 15) _ = _
                  simp only [Act.put, List.setIfInBounds_toArray, List.set_cons_zero, List.set_cons_succ, i64_w, i32_w]
                  rfl
                 refine one_ (i := 4) (N := some 99) #[true, true, true, true, true, false, false, false, true, false, false] rfl rfl (one_of HT_.out (by kernel_rfl)) (by decide) (fun K hK => ?_)
                 refine goes_ Try.func8 (by kernel_rfl) rfl #[.agg #[.int .i64 t304, .slice Ao181 t305.length co181], .agg #[.int .i64 t308, .slice Ao182 t309.length co182]] (by rfl) rfl rfl lm_ ?_
                 with_reducible refine (impl_AddLaurent.calls kj109 t304 (fun k_ => some k_ = (.slice Ao181 t305.length co181 : Value).ownBlock) _ _ t305 t308 (fun k_ => some k_ = (.slice Ao182 t309.length co182 : Value).ownBlock) _ _ t309 t312 t313 t316 _ ?side1 ?side2 A166.out).mono ?_
                 (case side1 => exact Kd.R_V (Kd.R_tight rfl (Kd.R_types (Kd.R_types (Kd.R_types (Kd.R_types (Kd.R_types (Kd.R_types (Kd.R_types (HO307.out) BK251.out (by decide)) BK252.out (by decide)) BK268.out (by decide)) BK273.out (by decide)) BK278.out (by decide)) BK284.out (by decide)) BK317.out (by decide))))
                 (case side2 => exact Kd.R_V (Kd.R_tight rfl (Kd.R_types (Kd.R_types (Kd.R_types (Kd.R_types (Kd.R_types (Kd.R_types (Kd.R_types (HO311.out) BK251.out (by decide)) BK252.out (by decide)) BK268.out (by decide)) BK273.out (by decide)) BK278.out (by decide)) BK284.out (by decide)) BK317.out (by decide))))
                 rintro e w183 ⟨v314, rfl, ho0, hb⟩
                 refine ⟨_, rfl, ?_⟩
                 have n0_ := am_ (Kd.R_elder' (rk_ HO_269001.out) (Kd.R_base ho0) hb)
                 have n1_ := am_ (Kd.R_elder' (rk_ HO_274001.out) (Kd.R_base ho0) hb)
                 have n2_ := am_ (Kd.R_elder' (rk_ HO_279001.out) (Kd.R_base ho0) hb)
                 have n3_ := am_ (Kd.R_elder' (rk_ HO_285001.out) (Kd.R_base ho0) hb)
                 have n4_ := am_ (Kd.R_elder' (rk_ HO307.out) (Kd.R_base ho0) hb)
                 have n5_ := am_ (Kd.R_elder' (rk_ HO311.out) (Kd.R_base ho0) hb)
                 have n6_ := am_ (Kd.R_lower (Kd.R_new' (Kd.R_new' (Kd.R_new' (Kd.R_new' (Kd.R_new' (Kd.R_new' (Kd.R_mono (ok' := fun k_ => True) ho0 (fun _ hk_ => trivial)) (Kd.R_lt (rk_ HO_269001.out))) (Kd.R_lt (rk_ HO_274001.out))) (Kd.R_lt (rk_ HO_279001.out))) (Kd.R_lt (rk_ HO_285001.out))) (Kd.R_lt (rk_ HO307.out))) (Kd.R_lt (rk_ HO311.out))) (below_size (bb_ HB.out)))
                 have n7_ := am_ (bw_ BK251 hb)
                 have n8_ := am_ (bw_ BK252 hb)
                 have n9_ := am_ (bw_ BK268 hb)
                 have n10_ := am_ (bw_ BK273 hb)
                 have n11_ := am_ (bw_ BK278 hb)
                 have n12_ := am_ (bw_ BK284 hb)
                 have n13_ := am_ (bw_ BK317 hb)
                 have n14_ := am_ (below_step (bb_ HB.out) hb)
                 clear HO_269001 HO_274001 HO_279001 HO_285001 HO307 HO311 BK251 BK252 BK268 BK273 BK278 BK284 BK317 HB; revert n0_ n1_ n2_ n3_ n4_ n5_ n6_ n7_ n8_ n9_ n10_ n11_ n12_ n13_ n14_; intro HO_269001 HO_274001 HO_279001 HO_285001 HO307 HO311 HO315 BK251 BK252 BK268 BK273 BK278 BK284 BK317 HB
                 (try clear hb)
                 (try clear hb2)
                 (try clear hk)
                 (try clear hi)
                 (try clear ho0)
                 refine hK.out _ _ ⟨bc_ BK251 0, bc_ BK251 1, bc_ BK252 0, bc_ BK252 1⟩ (fun hHeld => ?_)
                 clear hK K
                 refine norm_ (a' := ?_) ?_ ?_
                 rotate_left
                 ·show Act.put _ (some 99) _ = _
                  simp only [Act.put, List.setIfInBounds_toArray, List.set_cons_zero, List.set_cons_succ, i64_w, i32_w]
                  rfl
                 refine pure_ (i := 5) (N := some 94) (v := ?_) (a' := ?_) #[true, true, true, true, true, true, false, false, true, false, false] rfl rfl (any_of HT_.out (by kernel_rfl)) (fun _ _ _ h => h) (Or.inl ⟨by rfl, ?_⟩) ?_ ?_
                 rotate_left
                 ·intro w'
                  go_simp
                  with_reducible rfl
                 rotate_left
                 ·simp only [Act.put, List.setIfInBounds_toArray, List.set_cons_zero, List.set_cons_succ, i64_w, i32_w]
                  rfl
                 refine pure_ (i := 6) (N := some 100) (v := ?_) (a' := ?_) #[true, true, true, true, true, true, true, false, true, false, false] rfl rfl (any_of HT_.out (by kernel_rfl)) (fun _ _ _ h => h) (Or.inl ⟨by rfl, ?_⟩) ?_ ?_
                 rotate_left
                 ·intro w'
                  go_simp
                  with_reducible rfl
                 rotate_left
                 ·simp only [Act.put, List.setIfInBounds_toArray, List.set_cons_zero, List.set_cons_succ, i64_w, i32_w]
                  rfl
                 refine pure_ (i := 7) (N := some 101) (v := ?_) (a' := ?_) #[true, true, true, true, true, true, true, true, true, false, false] rfl rfl (any_of HT_.out (by kernel_rfl)) (fun _ _ _ h => h) (Or.inl ⟨by rfl, ?_⟩) ?_ ?_
                 rotate_left
                 ·intro w'
                  go_simp
                  with_reducible rfl
                 rotate_left
                 ·simp only [Act.put, List.setIfInBounds_toArray, List.set_cons_zero, List.set_cons_succ, i64_w, i32_w]
                  rfl
                 exact norm_ (by simp only [putAll, Act.put, List.setIfInBounds_toArray, List.set_cons_zero, List.set_cons_succ]) (hCont (.slice Ao181 t305.length co181, .slice Ao182 t309.length co182, v314, gb317) _ ⟨hHeld, (rm_ HO307.out (fun _ hk => ⟨hk.1.2, ⟨hk.2, ⟨hk.1.1.1.1.1.2, ⟨hk.1.1.1.1.2, ⟨hk.1.1.1.2, hk.1.1.2⟩⟩⟩⟩⟩)), (rm_ HO311.out (fun _ hk => ⟨hk.1.2, ⟨hk.2, ⟨hk.1.1.1.1.1.2, ⟨hk.1.1.1.1.2, ⟨hk.1.1.1.2, hk.1.1.2⟩⟩⟩⟩⟩)), (rm_ HO315.out (fun _ hk => ⟨hk.1.2, ⟨hk.2, ⟨hk.1.1.1.1.1.2, ⟨hk.1.1.1.1.2, ⟨hk.1.1.1.2, hk.1.1.2⟩⟩⟩⟩⟩)), (rm_ HO_269001.out (fun _ hk => ⟨hk.1.1.2, ⟨hk.1.2, ⟨hk.2, ⟨hk.1.1.1.1, ⟨hk.1.1.1.2.1, hk.1.1.1.2.2⟩⟩⟩⟩⟩)), (rm_ HO_274001.out (fun _ hk => ⟨hk.1.1.2, ⟨hk.1.2, ⟨hk.2, ⟨hk.1.1.1.1, ⟨hk.1.1.1.2.1, hk.1.1.1.2.2⟩⟩⟩⟩⟩)), (rm_ HO_279001.out (fun _ hk => ⟨hk.1.1.2, ⟨hk.1.2, ⟨hk.2, ⟨hk.1.1.1.1, ⟨hk.1.1.1.2.1, hk.1.1.1.2.2⟩⟩⟩⟩⟩)), (rm_ HO_285001.out (fun _ hk => ⟨hk.1.1.2, ⟨hk.1.2, ⟨hk.2, ⟨hk.1.1.1.1, ⟨hk.1.1.1.2.1, hk.1.1.1.2.2⟩⟩⟩⟩⟩)), (bk_ BK251.out), (bk_ BK252.out), (bk_ BK268.out), (bk_ BK273.out), (bk_ BK278.out), (bk_ BK284.out), (bk_ BK317.out), GW317.out, GE317.out, NB251_317.out, NB317_251.out, NB252_317.out, NB317_252.out, NB268_317.out, NB317_268.out, NB273_317.out, NB317_273.out, NB278_317.out, NB317_278.out, NB284_317.out, NB317_284.out, (bb_ HB.out)⟩)
               ·skip
                refine box_step ?hg (N := 15) ?hd (cs := #[.int .i64 0, .slice none 0 0]) (t := 26) ?hr ?_; (case hd => rfl); (case hg => rfl); (case hr => first | (go_simp; done) | (go_simp; rfl))
                intro gb317 hg w179 hbox hb
                have n0_ := am_ (Kd.R_below (rk_ HO_269001.out) hb)
                have n1_ := am_ (Kd.R_below (rk_ HO_274001.out) hb)
                have n2_ := am_ (Kd.R_below (rk_ HO_279001.out) hb)
                have n3_ := am_ (Kd.R_below (rk_ HO_285001.out) hb)
                have n4_ := am_ (Kd.R_below (rk_ HO307.out) hb)
                have n5_ := am_ (bw_ BK251 hb)
                have n6_ := am_ (bw_ BK252 hb)
                have n7_ := am_ (bw_ BK268 hb)
                have n8_ := am_ (bw_ BK273 hb)
                have n9_ := am_ (bw_ BK278 hb)
                have n10_ := am_ (bw_ BK284 hb)
                have n11_ := am_ (below_step (bb_ HB.out) hb)
                have n12_ := am_ (hbox)
                have n13_ := am_ ((by rw [hg]; exact (below_size (bb_ HB.out)) : w.heap.size ≤ gb317))
                have n14_ := am_ ((by rw [hg]; exact (below_size (bb_ HB.out)) : w.heap.size ≤ gb317))
                have n15_ := am_ (nl_ BK251 hg)
                have n16_ := am_ (ng_ BK251 hg)
                have n17_ := am_ (nl_ BK252 hg)
                have n18_ := am_ (ng_ BK252 hg)
                have n19_ := am_ (nl_ BK268 hg)
                have n20_ := am_ (ng_ BK268 hg)
                have n21_ := am_ (nl_ BK273 hg)
                have n22_ := am_ (ng_ BK273 hg)
                have n23_ := am_ (nl_ BK278 hg)
                have n24_ := am_ (ng_ BK278 hg)
                have n25_ := am_ (nl_ BK284 hg)
                have n26_ := am_ (ng_ BK284 hg)
                clear HO_269001 HO_274001 HO_279001 HO_285001 HO307 BK251 BK252 BK268 BK273 BK278 BK284 HB; revert n0_ n1_ n2_ n3_ n4_ n5_ n6_ n7_ n8_ n9_ n10_ n11_ n12_ n13_ n14_ n15_ n16_ n17_ n18_ n19_ n20_ n21_ n22_ n23_ n24_ n25_ n26_; intro HO_269001 HO_274001 HO_279001 HO_285001 HO307 BK251 BK252 BK268 BK273 BK278 BK284 HB BK317 GW317 GE317 NB251_317 NB317_251 NB252_317 NB317_252 NB268_317 NB317_268 NB273_317 NB317_273 NB278_317 NB317_278 NB284_317 NB317_284
                clear hb hbox hg
                refine hK.out _ _ ⟨bc_ BK251 0, bc_ BK251 1, bc_ BK252 0, bc_ BK252 1⟩ (fun hHeld => ?_)
                clear hK K
                refine norm_ (a' := ?_) ?_ ?_
                rotate_left
                ·show Act.put _ (some 15) _ = _
                 simp only [Act.put, List.setIfInBounds_toArray, List.set_cons_zero, List.set_cons_succ, i64_w, i32_w]
                 rfl
                refine one_ (i := 3) (N := some 98) #[true, true, true, true, false, false, false, false, true, false, false] rfl rfl (one_of HT_.out (by kernel_rfl)) (by decide) (fun K hK => ?_)
                refine goes_ Try.func7 (by kernel_rfl) rfl #[.agg #[.int .i64 a1_0, .slice A1_1 l1_1.length c1_1]] (by rfl) rfl rfl lm_ ?_
                with_reducible refine (laws_toLaurent.calls kj109 a1_0 _ _ l1_1 t308 t309 _ ?side1 ?side2 A165.out).mono ?_
                (case side1 => repeat (first | exact (Kd.C_below HR1_1.out HB.out) | (with_reducible refine Kd.C_alloc ?_ _) | (with_reducible refine Kd.C_drewN ?_ _) | (with_reducible refine Kd.C_drew ?_)))
                (case side2 => exact HC1_1.out)
                rintro e w180 ⟨v310, rfl, ho0, hb⟩
                refine ⟨_, rfl, ?_⟩
                have n0_ := am_ (Kd.R_elder' (rk_ HO_269001.out) (Kd.R_base ho0) hb)
                have n1_ := am_ (Kd.R_elder' (rk_ HO_274001.out) (Kd.R_base ho0) hb)
                have n2_ := am_ (Kd.R_elder' (rk_ HO_279001.out) (Kd.R_base ho0) hb)
                have n3_ := am_ (Kd.R_elder' (rk_ HO_285001.out) (Kd.R_base ho0) hb)
                have n4_ := am_ (Kd.R_elder' (rk_ HO307.out) (Kd.R_base ho0) hb)
                have n5_ := am_ (Kd.R_lower (Kd.R_new' (Kd.R_new' (Kd.R_new' (Kd.R_new' (Kd.R_new' ho0 (Kd.R_lt (rk_ HO_269001.out))) (Kd.R_lt (rk_ HO_274001.out))) (Kd.R_lt (rk_ HO_279001.out))) (Kd.R_lt (rk_ HO_285001.out))) (Kd.R_lt (rk_ HO307.out))) (below_size (bb_ HB.out)))
                have n6_ := am_ (bw_ BK251 hb)
                have n7_ := am_ (bw_ BK252 hb)
                have n8_ := am_ (bw_ BK268 hb)
                have n9_ := am_ (bw_ BK273 hb)
                have n10_ := am_ (bw_ BK278 hb)
                have n11_ := am_ (bw_ BK284 hb)
                have n12_ := am_ (bw_ BK317 hb)
                have n13_ := am_ (below_step (bb_ HB.out) hb)
                clear HO_269001 HO_274001 HO_279001 HO_285001 HO307 BK251 BK252 BK268 BK273 BK278 BK284 BK317 HB; revert n0_ n1_ n2_ n3_ n4_ n5_ n6_ n7_ n8_ n9_ n10_ n11_ n12_ n13_; intro HO_269001 HO_274001 HO_279001 HO_285001 HO307 HO311 BK251 BK252 BK268 BK273 BK278 BK284 BK317 HB
                (try clear hb)
                (try clear hb2)
                (try clear hk)
                (try clear hi)
                (try clear ho0)
                obtain ⟨Ao181, co181, eo181⟩ := Kd.R_slice HO307.out
                (first | subst eo181 | (injection eo181 with f1_ f2_ f3_; have f4_ := f1_.symm; have f5_ := f3_.symm; clear f1_ f2_ f3_; subst f4_; subst f5_))
                obtain ⟨Ao182, co182, eo182⟩ := Kd.R_slice HO311.out
                (first | subst eo182 | (injection eo182 with f1_ f2_ f3_; have f4_ := f1_.symm; have f5_ := f3_.symm; clear f1_ f2_ f3_; subst f4_; subst f5_))
                refine hK.out _ _ ⟨bc_ BK251 0, bc_ BK251 1, bc_ BK252 0, bc_ BK252 1⟩ (fun hHeld => ?_)
                clear hK K
                refine norm_ (a' := ?_) ?_ ?_
                rotate_left
                ·show Act.put _ (some 98) _ = _
                 simp only [Act.put, List.setIfInBounds_toArray, List.set_cons_zero, List.set_cons_succ, i64_w, i32_w]
                 rfl
                refine one_ (i := 4) (N := some 99) #[true, true, true, true, true, false, false, false, true, false, false] rfl rfl (one_of HT_.out (by kernel_rfl)) (by decide) (fun K hK => ?_)
                refine goes_ Try.func8 (by kernel_rfl) rfl #[.agg #[.int .i64 t304, .slice Ao181 t305.length co181], .agg #[.int .i64 t308, .slice Ao182 t309.length co182]] (by rfl) rfl rfl lm_ ?_
                with_reducible refine (impl_AddLaurent.calls kj109 t304 (fun k_ => some k_ = (.slice Ao181 t305.length co181 : Value).ownBlock) _ _ t305 t308 (fun k_ => some k_ = (.slice Ao182 t309.length co182 : Value).ownBlock) _ _ t309 t312 t313 t316 _ ?side1 ?side2 A166.out).mono ?_
                (case side1 => exact Kd.R_V (Kd.R_tight rfl (Kd.R_types (Kd.R_types (Kd.R_types (Kd.R_types (Kd.R_types (Kd.R_types (Kd.R_types (HO307.out) BK251.out (by decide)) BK252.out (by decide)) BK268.out (by decide)) BK273.out (by decide)) BK278.out (by decide)) BK284.out (by decide)) BK317.out (by decide))))
                (case side2 => exact Kd.R_V (Kd.R_tight rfl (Kd.R_types (Kd.R_types (Kd.R_types (Kd.R_types (Kd.R_types (Kd.R_types (Kd.R_types (HO311.out) BK251.out (by decide)) BK252.out (by decide)) BK268.out (by decide)) BK273.out (by decide)) BK278.out (by decide)) BK284.out (by decide)) BK317.out (by decide))))
                rintro e w183 ⟨v314, rfl, ho0, hb⟩
                refine ⟨_, rfl, ?_⟩
                have n0_ := am_ (Kd.R_elder' (rk_ HO_269001.out) (Kd.R_base ho0) hb)
                have n1_ := am_ (Kd.R_elder' (rk_ HO_274001.out) (Kd.R_base ho0) hb)
                have n2_ := am_ (Kd.R_elder' (rk_ HO_279001.out) (Kd.R_base ho0) hb)
                have n3_ := am_ (Kd.R_elder' (rk_ HO_285001.out) (Kd.R_base ho0) hb)
                have n4_ := am_ (Kd.R_elder' (rk_ HO307.out) (Kd.R_base ho0) hb)
                have n5_ := am_ (Kd.R_elder' (rk_ HO311.out) (Kd.R_base ho0) hb)
                have n6_ := am_ (Kd.R_lower (Kd.R_new' (Kd.R_new' (Kd.R_new' (Kd.R_new' (Kd.R_new' (Kd.R_new' (Kd.R_mono (ok' := fun k_ => True) ho0 (fun _ hk_ => trivial)) (Kd.R_lt (rk_ HO_269001.out))) (Kd.R_lt (rk_ HO_274001.out))) (Kd.R_lt (rk_ HO_279001.out))) (Kd.R_lt (rk_ HO_285001.out))) (Kd.R_lt (rk_ HO307.out))) (Kd.R_lt (rk_ HO311.out))) (below_size (bb_ HB.out)))
                have n7_ := am_ (bw_ BK251 hb)
                have n8_ := am_ (bw_ BK252 hb)
                have n9_ := am_ (bw_ BK268 hb)
                have n10_ := am_ (bw_ BK273 hb)
                have n11_ := am_ (bw_ BK278 hb)
                have n12_ := am_ (bw_ BK284 hb)
                have n13_ := am_ (bw_ BK317 hb)
                have n14_ := am_ (below_step (bb_ HB.out) hb)
                clear HO_269001 HO_274001 HO_279001 HO_285001 HO307 HO311 BK251 BK252 BK268 BK273 BK278 BK284 BK317 HB; revert n0_ n1_ n2_ n3_ n4_ n5_ n6_ n7_ n8_ n9_ n10_ n11_ n12_ n13_ n14_; intro HO_269001 HO_274001 HO_279001 HO_285001 HO307 HO311 HO315 BK251 BK252 BK268 BK273 BK278 BK284 BK317 HB
                (try clear hb)
                (try clear hb2)
                (try clear hk)
                (try clear hi)
                (try clear ho0)
                refine hK.out _ _ ⟨bc_ BK251 0, bc_ BK251 1, bc_ BK252 0, bc_ BK252 1⟩ (fun hHeld => ?_)
                clear hK K
                refine norm_ (a' := ?_) ?_ ?_
                rotate_left
                ·show Act.put _ (some 99) _ = _
                 simp only [Act.put, List.setIfInBounds_toArray, List.set_cons_zero, List.set_cons_succ, i64_w, i32_w]
                 rfl
                refine pure_ (i := 5) (N := some 94) (v := ?_) (a' := ?_) #[true, true, true, true, true, true, false, false, true, false, false] rfl rfl (any_of HT_.out (by kernel_rfl)) (fun _ _ _ h => h) (Or.inl ⟨by rfl, ?_⟩) ?_ ?_
                rotate_left
                ·intro w'
                 go_simp
                 with_reducible rfl
                rotate_left
                ·simp only [Act.put, List.setIfInBounds_toArray, List.set_cons_zero, List.set_cons_succ, i64_w, i32_w]
                 rfl
                refine pure_ (i := 6) (N := some 100) (v := ?_) (a' := ?_) #[true, true, true, true, true, true, true, false, true, false, false] rfl rfl (any_of HT_.out (by kernel_rfl)) (fun _ _ _ h => h) (Or.inl ⟨by rfl, ?_⟩) ?_ ?_
                rotate_left
                ·intro w'
                 go_simp
                 with_reducible rfl
                rotate_left
                ·simp only [Act.put, List.setIfInBounds_toArray, List.set_cons_zero, List.set_cons_succ, i64_w, i32_w]
                 rfl
                refine pure_ (i := 7) (N := some 101) (v := ?_) (a' := ?_) #[true, true, true, true, true, true, true, true, true, false, false] rfl rfl (any_of HT_.out (by kernel_rfl)) (fun _ _ _ h => h) (Or.inl ⟨by rfl, ?_⟩) ?_ ?_
                rotate_left
                ·intro w'
                 go_simp
                 with_reducible rfl
                rotate_left
                ·simp only [Act.put, List.setIfInBounds_toArray, List.set_cons_zero, List.set_cons_succ, i64_w, i32_w]
                 rfl
                exact norm_ (by simp only [putAll, Act.put, List.setIfInBounds_toArray, List.set_cons_zero, List.set_cons_succ]) (hCont (.slice Ao181 t305.length co181, .slice Ao182 t309.length co182, v314, gb317) _ ⟨hHeld, (rm_ HO307.out (fun _ hk => ⟨hk.1.2, ⟨hk.2, ⟨hk.1.1.1.1.1.2, ⟨hk.1.1.1.1.2, ⟨hk.1.1.1.2, hk.1.1.2⟩⟩⟩⟩⟩)), (rm_ HO311.out (fun _ hk => ⟨hk.1.2, ⟨hk.2, ⟨hk.1.1.1.1.1.2, ⟨hk.1.1.1.1.2, ⟨hk.1.1.1.2, hk.1.1.2⟩⟩⟩⟩⟩)), (rm_ HO315.out (fun _ hk => ⟨hk.1.2, ⟨hk.2, ⟨hk.1.1.1.1.1.2, ⟨hk.1.1.1.1.2, ⟨hk.1.1.1.2, hk.1.1.2⟩⟩⟩⟩⟩)), (rm_ HO_269001.out (fun _ hk => ⟨hk.1.1.2, ⟨hk.1.2, ⟨hk.2, ⟨hk.1.1.1.1, ⟨hk.1.1.1.2.1, hk.1.1.1.2.2⟩⟩⟩⟩⟩)), (rm_ HO_274001.out (fun _ hk => ⟨hk.1.1.2, ⟨hk.1.2, ⟨hk.2, ⟨hk.1.1.1.1, ⟨hk.1.1.1.2.1, hk.1.1.1.2.2⟩⟩⟩⟩⟩)), (rm_ HO_279001.out (fun _ hk => ⟨hk.1.1.2, ⟨hk.1.2, ⟨hk.2, ⟨hk.1.1.1.1, ⟨hk.1.1.1.2.1, hk.1.1.1.2.2⟩⟩⟩⟩⟩)), (rm_ HO_285001.out (fun _ hk => ⟨hk.1.1.2, ⟨hk.1.2, ⟨hk.2, ⟨hk.1.1.1.1, ⟨hk.1.1.1.2.1, hk.1.1.1.2.2⟩⟩⟩⟩⟩)), (bk_ BK251.out), (bk_ BK252.out), (bk_ BK268.out), (bk_ BK273.out), (bk_ BK278.out), (bk_ BK284.out), (bk_ BK317.out), GW317.out, GE317.out, NB251_317.out, NB317_251.out, NB252_317.out, NB317_252.out, NB268_317.out, NB317_268.out, NB273_317.out, NB317_273.out, NB278_317.out, NB317_278.out, NB284_317.out, NB317_284.out, (bb_ HB.out)⟩)
              ·skip
               refine box_step ?hg (N := 15) ?hd (cs := #[.int .i64 0, .slice none 0 0]) (t := 26) ?hr ?_; (case hd => rfl); (case hg => rfl); (case hr => first | (go_simp; done) | (go_simp; rfl))
               intro gb317 hg w178 hbox hb
               have n0_ := am_ (Kd.R_below (rk_ HO_269001.out) hb)
               have n1_ := am_ (Kd.R_below (rk_ HO_274001.out) hb)
               have n2_ := am_ (Kd.R_below (rk_ HO_279001.out) hb)
               have n3_ := am_ (Kd.R_below (rk_ HO_285001.out) hb)
               have n4_ := am_ (bw_ BK251 hb)
               have n5_ := am_ (bw_ BK252 hb)
               have n6_ := am_ (bw_ BK268 hb)
               have n7_ := am_ (bw_ BK273 hb)
               have n8_ := am_ (bw_ BK278 hb)
               have n9_ := am_ (bw_ BK284 hb)
               have n10_ := am_ (below_step (bb_ HB.out) hb)
               have n11_ := am_ (hbox)
               have n12_ := am_ ((by rw [hg]; exact (below_size (bb_ HB.out)) : w.heap.size ≤ gb317))
               have n13_ := am_ ((by rw [hg]; exact (below_size (bb_ HB.out)) : w.heap.size ≤ gb317))
               have n14_ := am_ (nl_ BK251 hg)
               have n15_ := am_ (ng_ BK251 hg)
               have n16_ := am_ (nl_ BK252 hg)
               have n17_ := am_ (ng_ BK252 hg)
               have n18_ := am_ (nl_ BK268 hg)
               have n19_ := am_ (ng_ BK268 hg)
               have n20_ := am_ (nl_ BK273 hg)
               have n21_ := am_ (ng_ BK273 hg)
               have n22_ := am_ (nl_ BK278 hg)
               have n23_ := am_ (ng_ BK278 hg)
               have n24_ := am_ (nl_ BK284 hg)
               have n25_ := am_ (ng_ BK284 hg)
               clear HO_269001 HO_274001 HO_279001 HO_285001 BK251 BK252 BK268 BK273 BK278 BK284 HB; revert n0_ n1_ n2_ n3_ n4_ n5_ n6_ n7_ n8_ n9_ n10_ n11_ n12_ n13_ n14_ n15_ n16_ n17_ n18_ n19_ n20_ n21_ n22_ n23_ n24_ n25_; intro HO_269001 HO_274001 HO_279001 HO_285001 BK251 BK252 BK268 BK273 BK278 BK284 HB BK317 GW317 GE317 NB251_317 NB317_251 NB252_317 NB317_252 NB268_317 NB317_268 NB273_317 NB317_273 NB278_317 NB317_278 NB284_317 NB317_284
               clear hb hbox hg
               refine hK.out _ _ ⟨bc_ BK251 0, bc_ BK251 1, bc_ BK252 0, bc_ BK252 1⟩ (fun hHeld => ?_)
               clear hK K
               refine norm_ (a' := ?_) ?_ ?_
               rotate_left
               ·show Act.put _ (some 15) _ = _
                simp only [Act.put, List.setIfInBounds_toArray, List.set_cons_zero, List.set_cons_succ, i64_w, i32_w]
                rfl
               refine one_ (i := 1) (N := some 96) #[true, true, true, false, false, false, false, false, true, false, false] rfl rfl (one_of HT_.out (by kernel_rfl)) (by decide) (fun K hK => ?_)
               refine goes_ Try.func7 (by kernel_rfl) rfl #[.agg #[.int .i64 a0_0, .slice A0_1 l0_1.length c0_1]] (by rfl) rfl rfl lm_ ?_
               with_reducible refine (laws_toLaurent.calls kj109 a0_0 _ _ l0_1 t304 t305 _ ?side1 ?side2 A164.out).mono ?_
               (case side1 => repeat (first | exact (Kd.C_below HR0_1.out HB.out) | (with_reducible refine Kd.C_alloc ?_ _) | (with_reducible refine Kd.C_drewN ?_ _) | (with_reducible refine Kd.C_drew ?_)))
               (case side2 => exact HC0_1.out)
               rintro e w179 ⟨v306, rfl, ho0, hb⟩
               refine ⟨_, rfl, ?_⟩
               have n0_ := am_ (Kd.R_elder' (rk_ HO_269001.out) (Kd.R_base ho0) hb)
               have n1_ := am_ (Kd.R_elder' (rk_ HO_274001.out) (Kd.R_base ho0) hb)
               have n2_ := am_ (Kd.R_elder' (rk_ HO_279001.out) (Kd.R_base ho0) hb)
               have n3_ := am_ (Kd.R_elder' (rk_ HO_285001.out) (Kd.R_base ho0) hb)
               have n4_ := am_ (Kd.R_lower (Kd.R_new' (Kd.R_new' (Kd.R_new' (Kd.R_new' ho0 (Kd.R_lt (rk_ HO_269001.out))) (Kd.R_lt (rk_ HO_274001.out))) (Kd.R_lt (rk_ HO_279001.out))) (Kd.R_lt (rk_ HO_285001.out))) (below_size (bb_ HB.out)))
               have n5_ := am_ (bw_ BK251 hb)
               have n6_ := am_ (bw_ BK252 hb)
               have n7_ := am_ (bw_ BK268 hb)
               have n8_ := am_ (bw_ BK273 hb)
               have n9_ := am_ (bw_ BK278 hb)
               have n10_ := am_ (bw_ BK284 hb)
               have n11_ := am_ (bw_ BK317 hb)
               have n12_ := am_ (below_step (bb_ HB.out) hb)
               clear HO_269001 HO_274001 HO_279001 HO_285001 BK251 BK252 BK268 BK273 BK278 BK284 BK317 HB; revert n0_ n1_ n2_ n3_ n4_ n5_ n6_ n7_ n8_ n9_ n10_ n11_ n12_; intro HO_269001 HO_274001 HO_279001 HO_285001 HO307 BK251 BK252 BK268 BK273 BK278 BK284 BK317 HB
               (try clear hb)
               (try clear hb2)
               (try clear hk)
               (try clear hi)
               (try clear ho0)
               refine hK.out _ _ ⟨bc_ BK251 0, bc_ BK251 1, bc_ BK252 0, bc_ BK252 1⟩ (fun hHeld => ?_)
               clear hK K
               refine norm_ (a' := ?_) ?_ ?_
               rotate_left
               ·show Act.put _ (some 96) _ = _
                simp only [Act.put, List.setIfInBounds_toArray, List.set_cons_zero, List.set_cons_succ, i64_w, i32_w]
                rfl
               refine one_ (i := 3) (N := some 98) #[true, true, true, true, false, false, false, false, true, false, false] rfl rfl (one_of HT_.out (by kernel_rfl)) (by decide) (fun K hK => ?_)
               refine goes_ Try.func7 (by kernel_rfl) rfl #[.agg #[.int .i64 a1_0, .slice A1_1 l1_1.length c1_1]] (by rfl) rfl rfl lm_ ?_
               with_reducible refine (laws_toLaurent.calls kj109 a1_0 _ _ l1_1 t308 t309 _ ?side1 ?side2 A165.out).mono ?_
               (case side1 => repeat (first | exact (Kd.C_below HR1_1.out HB.out) | (with_reducible refine Kd.C_alloc ?_ _) | (with_reducible refine Kd.C_drewN ?_ _) | (with_reducible refine Kd.C_drew ?_)))
               (case side2 => exact HC1_1.out)
               rintro e w180 ⟨v310, rfl, ho0, hb⟩
               refine ⟨_, rfl, ?_⟩
               have n0_ := am_ (Kd.R_elder' (rk_ HO_269001.out) (Kd.R_base ho0) hb)
               have n1_ := am_ (Kd.R_elder' (rk_ HO_274001.out) (Kd.R_base ho0) hb)
               have n2_ := am_ (Kd.R_elder' (rk_ HO_279001.out) (Kd.R_base ho0) hb)
               have n3_ := am_ (Kd.R_elder' (rk_ HO_285001.out) (Kd.R_base ho0) hb)
               have n4_ := am_ (Kd.R_elder' (rk_ HO307.out) (Kd.R_base ho0) hb)
               have n5_ := am_ (Kd.R_lower (Kd.R_new' (Kd.R_new' (Kd.R_new' (Kd.R_new' (Kd.R_new' ho0 (Kd.R_lt (rk_ HO_269001.out))) (Kd.R_lt (rk_ HO_274001.out))) (Kd.R_lt (rk_ HO_279001.out))) (Kd.R_lt (rk_ HO_285001.out))) (Kd.R_lt (rk_ HO307.out))) (below_size (bb_ HB.out)))
               have n6_ := am_ (bw_ BK251 hb)
               have n7_ := am_ (bw_ BK252 hb)
               have n8_ := am_ (bw_ BK268 hb)
               have n9_ := am_ (bw_ BK273 hb)
               have n10_ := am_ (bw_ BK278 hb)
               have n11_ := am_ (bw_ BK284 hb)
               have n12_ := am_ (bw_ BK317 hb)
               have n13_ := am_ (below_step (bb_ HB.out) hb)
               clear HO_269001 HO_274001 HO_279001 HO_285001 HO307 BK251 BK252 BK268 BK273 BK278 BK284 BK317 HB; revert n0_ n1_ n2_ n3_ n4_ n5_ n6_ n7_ n8_ n9_ n10_ n11_ n12_ n13_; intro HO_269001 HO_274001 HO_279001 HO_285001 HO307 HO311 BK251 BK252 BK268 BK273 BK278 BK284 BK317 HB
               (try clear hb)
               (try clear hb2)
               (try clear hk)
               (try clear hi)
               (try clear ho0)
               obtain ⟨Ao181, co181, eo181⟩ := Kd.R_slice HO307.out
               (first | subst eo181 | (injection eo181 with f1_ f2_ f3_; have f4_ := f1_.symm; have f5_ := f3_.symm; clear f1_ f2_ f3_; subst f4_; subst f5_))
               obtain ⟨Ao182, co182, eo182⟩ := Kd.R_slice HO311.out
               (first | subst eo182 | (injection eo182 with f1_ f2_ f3_; have f4_ := f1_.symm; have f5_ := f3_.symm; clear f1_ f2_ f3_; subst f4_; subst f5_))
               refine hK.out _ _ ⟨bc_ BK251 0, bc_ BK251 1, bc_ BK252 0, bc_ BK252 1⟩ (fun hHeld => ?_)
               clear hK K
               refine norm_ (a' := ?_) ?_ ?_
               rotate_left
               ·show Act.put _ (some 98) _ = _
                simp only [Act.put, List.setIfInBounds_toArray, List.set_cons_zero, List.set_cons_succ, i64_w, i32_w]
                rfl
               refine one_ (i := 4) (N := some 99) #[true, true, true, true, true, false, false, false, true, false, false] rfl rfl (one_of HT_.out (by kernel_rfl)) (by decide) (fun K hK => ?_)
               refine goes_ Try.func8 (by kernel_rfl) rfl #[.agg #[.int .i64 t304, .slice Ao181 t305.length co181], .agg #[.int .i64 t308, .slice Ao182 t309.length co182]] (by rfl) rfl rfl lm_ ?_
               with_reducible refine (impl_AddLaurent.calls kj109 t304 (fun k_ => some k_ = (.slice Ao181 t305.length co181 : Value).ownBlock) _ _ t305 t308 (fun k_ => some k_ = (.slice Ao182 t309.length co182 : Value).ownBlock) _ _ t309 t312 t313 t316 _ ?side1 ?side2 A166.out).mono ?_
               (case side1 => exact Kd.R_V (Kd.R_tight rfl (Kd.R_types (Kd.R_types (Kd.R_types (Kd.R_types (Kd.R_types (Kd.R_types (Kd.R_types (HO307.out) BK251.out (by decide)) BK252.out (by decide)) BK268.out (by decide)) BK273.out (by decide)) BK278.out (by decide)) BK284.out (by decide)) BK317.out (by decide))))
               (case side2 => exact Kd.R_V (Kd.R_tight rfl (Kd.R_types (Kd.R_types (Kd.R_types (Kd.R_types (Kd.R_types (Kd.R_types (Kd.R_types (HO311.out) BK251.out (by decide)) BK252.out (by decide)) BK268.out (by decide)) BK273.out (by decide)) BK278.out (by decide)) BK284.out (by decide)) BK317.out (by decide))))
               rintro e w183 ⟨v314, rfl, ho0, hb⟩
               refine ⟨_, rfl, ?_⟩
               have n0_ := am_ (Kd.R_elder' (rk_ HO_269001.out) (Kd.R_base ho0) hb)
               have n1_ := am_ (Kd.R_elder' (rk_ HO_274001.out) (Kd.R_base ho0) hb)
               have n2_ := am_ (Kd.R_elder' (rk_ HO_279001.out) (Kd.R_base ho0) hb)
               have n3_ := am_ (Kd.R_elder' (rk_ HO_285001.out) (Kd.R_base ho0) hb)
               have n4_ := am_ (Kd.R_elder' (rk_ HO307.out) (Kd.R_base ho0) hb)
               have n5_ := am_ (Kd.R_elder' (rk_ HO311.out) (Kd.R_base ho0) hb)
               have n6_ := am_ (Kd.R_lower (Kd.R_new' (Kd.R_new' (Kd.R_new' (Kd.R_new' (Kd.R_new' (Kd.R_new' (Kd.R_mono (ok' := fun k_ => True) ho0 (fun _ hk_ => trivial)) (Kd.R_lt (rk_ HO_269001.out))) (Kd.R_lt (rk_ HO_274001.out))) (Kd.R_lt (rk_ HO_279001.out))) (Kd.R_lt (rk_ HO_285001.out))) (Kd.R_lt (rk_ HO307.out))) (Kd.R_lt (rk_ HO311.out))) (below_size (bb_ HB.out)))
               have n7_ := am_ (bw_ BK251 hb)
               have n8_ := am_ (bw_ BK252 hb)
               have n9_ := am_ (bw_ BK268 hb)
               have n10_ := am_ (bw_ BK273 hb)
               have n11_ := am_ (bw_ BK278 hb)
               have n12_ := am_ (bw_ BK284 hb)
               have n13_ := am_ (bw_ BK317 hb)
               have n14_ := am_ (below_step (bb_ HB.out) hb)
               clear HO_269001 HO_274001 HO_279001 HO_285001 HO307 HO311 BK251 BK252 BK268 BK273 BK278 BK284 BK317 HB; revert n0_ n1_ n2_ n3_ n4_ n5_ n6_ n7_ n8_ n9_ n10_ n11_ n12_ n13_ n14_; intro HO_269001 HO_274001 HO_279001 HO_285001 HO307 HO311 HO315 BK251 BK252 BK268 BK273 BK278 BK284 BK317 HB
               (try clear hb)
               (try clear hb2)
               (try clear hk)
               (try clear hi)
               (try clear ho0)
               refine hK.out _ _ ⟨bc_ BK251 0, bc_ BK251 1, bc_ BK252 0, bc_ BK252 1⟩ (fun hHeld => ?_)
               clear hK K
               refine norm_ (a' := ?_) ?_ ?_
               rotate_left
               ·show Act.put _ (some 99) _ = _
                simp only [Act.put, List.setIfInBounds_toArray, List.set_cons_zero, List.set_cons_succ, i64_w, i32_w]
                rfl
               refine pure_ (i := 5) (N := some 94) (v := ?_) (a' := ?_) #[true, true, true, true, true, true, false, false, true, false, false] rfl rfl (any_of HT_.out (by kernel_rfl)) (fun _ _ _ h => h) (Or.inl ⟨by rfl, ?_⟩) ?_ ?_
               rotate_left
               ·intro w'
                go_simp
                with_reducible rfl
               rotate_left
               ·simp only [Act.put, List.setIfInBounds_toArray, List.set_cons_zero, List.set_cons_succ, i64_w, i32_w]
                rfl
               refine pure_ (i := 6) (N := some 100) (v := ?_) (a' := ?_) #[true, true, true, true, true, true, true, false, true, false, false] rfl rfl (any_of HT_.out (by kernel_rfl)) (fun _ _ _ h => h) (Or.inl ⟨by rfl, ?_⟩) ?_ ?_
               rotate_left
               ·intro w'
                go_simp
                with_reducible rfl
               rotate_left
               ·simp only [Act.put, List.setIfInBounds_toArray, List.set_cons_zero, List.set_cons_succ, i64_w, i32_w]
                rfl
               refine pure_ (i := 7) (N := some 101) (v := ?_) (a' := ?_) #[true, true, true, true, true, true, true, true, true, false, false] rfl rfl (any_of HT_.out (by kernel_rfl)) (fun _ _ _ h => h) (Or.inl ⟨by rfl, ?_⟩) ?_ ?_
               rotate_left
               ·intro w'
                go_simp
                with_reducible rfl
               rotate_left
               ·simp only [Act.put, List.setIfInBounds_toArray, List.set_cons_zero, List.set_cons_succ, i64_w, i32_w]
                rfl
               exact norm_ (by simp only [putAll, Act.put, List.setIfInBounds_toArray, List.set_cons_zero, List.set_cons_succ]) (hCont (.slice Ao181 t305.length co181, .slice Ao182 t309.length co182, v314, gb317) _ ⟨hHeld, (rm_ HO307.out (fun _ hk => ⟨hk.1.2, ⟨hk.2, ⟨hk.1.1.1.1.1.2, ⟨hk.1.1.1.1.2, ⟨hk.1.1.1.2, hk.1.1.2⟩⟩⟩⟩⟩)), (rm_ HO311.out (fun _ hk => ⟨hk.1.2, ⟨hk.2, ⟨hk.1.1.1.1.1.2, ⟨hk.1.1.1.1.2, ⟨hk.1.1.1.2, hk.1.1.2⟩⟩⟩⟩⟩)), (rm_ HO315.out (fun _ hk => ⟨hk.1.2, ⟨hk.2, ⟨hk.1.1.1.1.1.2, ⟨hk.1.1.1.1.2, ⟨hk.1.1.1.2, hk.1.1.2⟩⟩⟩⟩⟩)), (rm_ HO_269001.out (fun _ hk => ⟨hk.1.1.2, ⟨hk.1.2, ⟨hk.2, ⟨hk.1.1.1.1, ⟨hk.1.1.1.2.1, hk.1.1.1.2.2⟩⟩⟩⟩⟩)), (rm_ HO_274001.out (fun _ hk => ⟨hk.1.1.2, ⟨hk.1.2, ⟨hk.2, ⟨hk.1.1.1.1, ⟨hk.1.1.1.2.1, hk.1.1.1.2.2⟩⟩⟩⟩⟩)), (rm_ HO_279001.out (fun _ hk => ⟨hk.1.1.2, ⟨hk.1.2, ⟨hk.2, ⟨hk.1.1.1.1, ⟨hk.1.1.1.2.1, hk.1.1.1.2.2⟩⟩⟩⟩⟩)), (rm_ HO_285001.out (fun _ hk => ⟨hk.1.1.2, ⟨hk.1.2, ⟨hk.2, ⟨hk.1.1.1.1, ⟨hk.1.1.1.2.1, hk.1.1.1.2.2⟩⟩⟩⟩⟩)), (bk_ BK251.out), (bk_ BK252.out), (bk_ BK268.out), (bk_ BK273.out), (bk_ BK278.out), (bk_ BK284.out), (bk_ BK317.out), GW317.out, GE317.out, NB251_317.out, NB317_251.out, NB252_317.out, NB317_252.out, NB268_317.out, NB317_268.out, NB273_317.out, NB317_273.out, NB278_317.out, NB317_278.out, NB284_317.out, NB317_284.out, (bb_ HB.out)⟩)
             rintro ⟨v306, v310, v314, gb317⟩ w184 ⟨hS_, h0_, h1_, h2_, h3_, h4_, h5_, h6_, h7_, h8_, h9_, h10_, h11_, h12_, h13_, h14_, h15_, h16_, h17_, h18_, h19_, h20_, h21_, h22_, h23_, h24_, h25_, h26_, h27_, h28_⟩
             have n0_ : Aside0 (Kd.R (Kd.int .i64) 2 w184 w.heap.size (fun k_ => some k_ ≠ (v310 : Value).ownBlock ∧ some k_ ≠ (v314 : Value).ownBlock ∧ some k_ ≠ (.slice Ao42 t264.length co42 : Value).ownBlock ∧ some k_ ≠ (.slice Ao52 t297.length co52 : Value).ownBlock ∧ some k_ ≠ (.slice Ao62 t299.length co62 : Value).ownBlock ∧ some k_ ≠ (.slice Ao74 t280.length co74 : Value).ownBlock) v306 t305) := ⟨h0_⟩
             have n1_ : Aside0 (Kd.R (Kd.int .i64) 2 w184 w.heap.size (fun k_ => some k_ ≠ (v306 : Value).ownBlock ∧ some k_ ≠ (v314 : Value).ownBlock ∧ some k_ ≠ (.slice Ao42 t264.length co42 : Value).ownBlock ∧ some k_ ≠ (.slice Ao52 t297.length co52 : Value).ownBlock ∧ some k_ ≠ (.slice Ao62 t299.length co62 : Value).ownBlock ∧ some k_ ≠ (.slice Ao74 t280.length co74 : Value).ownBlock) v310 t309) := ⟨h1_⟩
             have n2_ : Aside0 (Kd.R (Kd.int .i64) 2 w184 w.heap.size (fun k_ => some k_ ≠ (v306 : Value).ownBlock ∧ some k_ ≠ (v310 : Value).ownBlock ∧ some k_ ≠ (.slice Ao42 t264.length co42 : Value).ownBlock ∧ some k_ ≠ (.slice Ao52 t297.length co52 : Value).ownBlock ∧ some k_ ≠ (.slice Ao62 t299.length co62 : Value).ownBlock ∧ some k_ ≠ (.slice Ao74 t280.length co74 : Value).ownBlock) v314 t313) := ⟨h2_⟩
             have n3_ : Aside0 (Kd.R (Kd.int .i64) 2 w184 w.heap.size (fun k_ => some k_ ≠ (v306 : Value).ownBlock ∧ some k_ ≠ (v310 : Value).ownBlock ∧ some k_ ≠ (v314 : Value).ownBlock ∧ some k_ ≠ (.slice Ao52 t297.length co52 : Value).ownBlock ∧ some k_ ≠ (.slice Ao62 t299.length co62 : Value).ownBlock ∧ some k_ ≠ (.slice Ao74 t280.length co74 : Value).ownBlock) (.slice Ao42 t264.length co42) t264) := ⟨h3_⟩
             have n4_ : Aside0 (Kd.R (Kd.int .i64) 2 w184 w.heap.size (fun k_ => some k_ ≠ (v306 : Value).ownBlock ∧ some k_ ≠ (v310 : Value).ownBlock ∧ some k_ ≠ (v314 : Value).ownBlock ∧ some k_ ≠ (.slice Ao42 t264.length co42 : Value).ownBlock ∧ some k_ ≠ (.slice Ao62 t299.length co62 : Value).ownBlock ∧ some k_ ≠ (.slice Ao74 t280.length co74 : Value).ownBlock) (.slice Ao52 t297.length co52) t297) := ⟨h4_⟩
             have n5_ : Aside0 (Kd.R (Kd.int .i64) 2 w184 w.heap.size (fun k_ => some k_ ≠ (v306 : Value).ownBlock ∧ some k_ ≠ (v310 : Value).ownBlock ∧ some k_ ≠ (v314 : Value).ownBlock ∧ some k_ ≠ (.slice Ao42 t264.length co42 : Value).ownBlock ∧ some k_ ≠ (.slice Ao52 t297.length co52 : Value).ownBlock ∧ some k_ ≠ (.slice Ao74 t280.length co74 : Value).ownBlock) (.slice Ao62 t299.length co62) t299) := ⟨h5_⟩
             have n6_ : Aside0 (Kd.R (Kd.int .i64) 2 w184 w.heap.size (fun k_ => some k_ ≠ (v306 : Value).ownBlock ∧ some k_ ≠ (v310 : Value).ownBlock ∧ some k_ ≠ (v314 : Value).ownBlock ∧ some k_ ≠ (.slice Ao42 t264.length co42 : Value).ownBlock ∧ some k_ ≠ (.slice Ao52 t297.length co52 : Value).ownBlock ∧ some k_ ≠ (.slice Ao62 t299.length co62 : Value).ownBlock) (.slice Ao74 t280.length co74) t302) := ⟨h6_⟩
             have n7_ : Aside0 (w184.heap[gb251]? = some (.cells #[.int .i64 a0_0, .slice A0_1 l0_1.length c0_1] 24 (0, 0))) := ⟨h7_⟩
             have n8_ : Aside0 (w184.heap[gb252]? = some (.cells #[.int .i64 a1_0, .slice A1_1 l1_1.length c1_1] 24 (0, 0))) := ⟨h8_⟩
             have n9_ : Aside0 (w184.heap[gb268]? = some (.cells #[.int .i64 t263, .slice Ao42 t264.length co42] 26 (0, 0))) := ⟨h9_⟩
             have n10_ : Aside0 (w184.heap[gb273]? = some (.cells #[.int .i64 t269, .slice Ao52 t297.length co52] 26 (0, 0))) := ⟨h10_⟩
             have n11_ : Aside0 (w184.heap[gb278]? = some (.cells #[.int .i64 t274, .slice Ao62 t299.length co62] 26 (0, 0))) := ⟨h11_⟩
             have n12_ : Aside0 (w184.heap[gb284]? = some (.cells #[.int .i64 t279, .slice Ao74 t280.length co74] 26 (0, 0))) := ⟨h12_⟩
             have n13_ : Aside0 (w184.heap[gb317]? = some (.cells #[.int .i64 0, .slice none 0 0] 26 (0, 0))) := ⟨h13_⟩
             have n14_ : Aside0 (w.heap.size ≤ gb317) := ⟨h14_⟩
             have n15_ : Aside0 (w.heap.size ≤ gb317) := ⟨h15_⟩
             have n16_ : Aside0 (gb251 ≠ gb317) := ⟨h16_⟩
             have n17_ : Aside0 (gb317 ≠ gb251) := ⟨h17_⟩
             have n18_ : Aside0 (gb252 ≠ gb317) := ⟨h18_⟩
             have n19_ : Aside0 (gb317 ≠ gb252) := ⟨h19_⟩
             have n20_ : Aside0 (gb268 ≠ gb317) := ⟨h20_⟩
             have n21_ : Aside0 (gb317 ≠ gb268) := ⟨h21_⟩
             have n22_ : Aside0 (gb273 ≠ gb317) := ⟨h22_⟩
             have n23_ : Aside0 (gb317 ≠ gb273) := ⟨h23_⟩
             have n24_ : Aside0 (gb278 ≠ gb317) := ⟨h24_⟩
             have n25_ : Aside0 (gb317 ≠ gb278) := ⟨h25_⟩
             have n26_ : Aside0 (gb284 ≠ gb317) := ⟨h26_⟩
             have n27_ : Aside0 (gb317 ≠ gb284) := ⟨h27_⟩
             have n28_ : Aside0 (Below w.heap.size w w184) := ⟨h28_⟩
             clear HO_269001
             clear HO_274001
             clear HO_279001
             clear HO_285001
             clear BK251
             clear BK252
             clear BK268
             clear BK273
             clear BK278
             clear BK284
             clear HB
             clear h0_ h1_ h2_ h3_ h4_ h5_ h6_ h7_ h8_ h9_ h10_ h11_ h12_ h13_ h14_ h15_ h16_ h17_ h18_ h19_ h20_ h21_ h22_ h23_ h24_ h25_ h26_ h27_ h28_
             have HO307 := n0_
             have HO311 := n1_
             have HO315 := n2_
             have HO_269001 := n3_
             have HO_274001 := n4_
             have HO_279001 := n5_
             have HO_285001 := n6_
             have BK251 := n7_
             have BK252 := n8_
             have BK268 := n9_
             have BK273 := n10_
             have BK278 := n11_
             have BK284 := n12_
             have BK317 := n13_
             have GW317 := n14_
             have GE317 := n15_
             have NB251_317 := n16_
             have NB317_251 := n17_
             have NB252_317 := n18_
             have NB317_252 := n19_
             have NB268_317 := n20_
             have NB317_268 := n21_
             have NB273_317 := n22_
             have NB317_273 := n23_
             have NB278_317 := n24_
             have NB317_278 := n25_
             have NB284_317 := n26_
             have NB317_284 := n27_
             have HB := n28_
             clear n0_ n1_ n2_ n3_ n4_ n5_ n6_ n7_ n8_ n9_ n10_ n11_ n12_ n13_ n14_ n15_ n16_ n17_ n18_ n19_ n20_ n21_ n22_ n23_ n24_ n25_ n26_ n27_ n28_
             have hHeld : w184.cell? ⟨gb251, 0, none⟩ = some (.int .i64 a0_0) ∧ w184.cell? ⟨gb251, 1, none⟩ = some (.slice A0_1 l0_1.length c0_1) ∧ w184.cell? ⟨gb252, 0, none⟩ = some (.int .i64 a1_0) ∧ w184.cell? ⟨gb252, 1, none⟩ = some (.slice A1_1 l1_1.length c1_1) := hS_
             obtain ⟨Ao186, co186, eo186⟩ := Kd.R_slice HO315.out
             (first | subst eo186 | (injection eo186 with f1_ f2_ f3_; have f4_ := f1_.symm; have f5_ := f3_.symm; clear f1_ f2_ f3_; subst f4_; subst f5_))
             refine norm_ (a' := ?_) ?_ ?_
             rotate_left
             ·simp only [putAll, Act.put, List.setIfInBounds_toArray, List.set_cons_zero, List.set_cons_succ]
              rfl
             refine one_ (i := 9) (N := none) #[true, true, true, true, true, true, true, true, true, true, false] rfl rfl (one_of HT_.out (by kernel_rfl)) (by decide) (fun K hK => ?_)
             have hs185 : w184.cell? ⟨gb317, 0, none⟩ = some (.int .i64 0) := bc_ BK317 0
             have hfs185 := blk_frozen BK317.out 0
             have hns185_0 := NB251_317.out
             have hns185_1 := NB252_317.out
             have hns185_2 := NB268_317.out
             have hns185_3 := NB273_317.out
             have hns185_4 := NB278_317.out
             have hns185_5 := NB284_317.out
             have hms185_0 := NB317_251.out
             have hms185_1 := NB317_252.out
             have hms185_2 := NB317_268.out
             have hms185_3 := NB317_273.out
             have hms185_4 := NB317_278.out
             have hms185_5 := NB317_284.out
             have hs187 : w184.cell? ⟨gb317, 1, none⟩ = some (.slice none 0 0) := bc_ BK317 1
             have hfs187 := blk_frozen BK317.out 1
             have hns187_0 := NB251_317.out
             have hns187_1 := NB252_317.out
             have hns187_2 := NB268_317.out
             have hns187_3 := NB273_317.out
             have hns187_4 := NB278_317.out
             have hns187_5 := NB284_317.out
             have hms187_0 := NB317_251.out
             have hms187_1 := NB317_252.out
             have hms187_2 := NB317_268.out
             have hms187_3 := NB317_273.out
             have hms187_4 := NB317_278.out
             have hms187_5 := NB317_284.out
             refine skip_ (w1 := ?_) (by rfl) rfl ?_ ?_
             rotate_left
             ·go_simp
              rfl
             refine hK.out _ _ ⟨((cell_far (p := ⟨gb317, _, none⟩) NB251_317.out _).trans (((cell_far (p := ⟨gb317, _, none⟩) NB251_317.out _).trans (hHeld.1)))), ((cell_far (p := ⟨gb317, _, none⟩) NB251_317.out _).trans (((cell_far (p := ⟨gb317, _, none⟩) NB251_317.out _).trans (hHeld.2.1)))), ((cell_far (p := ⟨gb317, _, none⟩) NB252_317.out _).trans (((cell_far (p := ⟨gb317, _, none⟩) NB252_317.out _).trans (hHeld.2.2.1)))), ((cell_far (p := ⟨gb317, _, none⟩) NB252_317.out _).trans (((cell_far (p := ⟨gb317, _, none⟩) NB252_317.out _).trans (hHeld.2.2.2))))⟩ (fun hHeld => ?_)
             clear hK K
             refine pure_ (i := 10) (N := some 16) (v := ?_) (a' := ?_) #[true, true, true, true, true, true, true, true, true, true, true] rfl rfl (any_of HT_.out (by kernel_rfl)) (fun _ _ _ h => h) (Or.inl ⟨by rfl, ?_⟩) ?_ ?_
             rotate_left
             ·intro w'
              go_simp
              with_reducible rfl
             rotate_left
             ·simp only [Act.put, List.setIfInBounds_toArray, List.set_cons_zero, List.set_cons_succ, i64_w, i32_w]
              rfl
             refine done_ (done_of HT_.out (by kernel_rfl)) ?_
             go_upto_region 32 with (fail)
             go_cut [110] (fun v110 wc => ∃ (kq : Nat) (x110_166 : Bool), v110 = .bool x110_166 ∧ Aside0 (laws_FnExactAddLaurent.j2 kq t301 x110_166 t279 t302 = some r) ∧ Aside0 (kq ≤ kj109) ∧ Aside0 (Kd.R (Kd.int .i64) 2 wc w.heap.size (fun k_ => some k_ ≠ ((.slice Ao52 t297.length co52) : Value).ownBlock ∧ some k_ ≠ ((.slice Ao62 t299.length co62) : Value).ownBlock ∧ some k_ ≠ ((.slice Ao74 t280.length co74) : Value).ownBlock ∧ some k_ ≠ ((.slice Ao186 t313.length co186) : Value).ownBlock) (.slice Ao42 t264.length co42) t264) ∧ Aside0 (Kd.R (Kd.int .i64) 2 wc w.heap.size (fun k_ => some k_ ≠ ((.slice Ao42 t264.length co42) : Value).ownBlock ∧ some k_ ≠ ((.slice Ao62 t299.length co62) : Value).ownBlock ∧ some k_ ≠ ((.slice Ao74 t280.length co74) : Value).ownBlock ∧ some k_ ≠ ((.slice Ao186 t313.length co186) : Value).ownBlock) (.slice Ao52 t297.length co52) t297) ∧ Aside0 (Kd.R (Kd.int .i64) 2 wc w.heap.size (fun k_ => some k_ ≠ ((.slice Ao42 t264.length co42) : Value).ownBlock ∧ some k_ ≠ ((.slice Ao52 t297.length co52) : Value).ownBlock ∧ some k_ ≠ ((.slice Ao74 t280.length co74) : Value).ownBlock ∧ some k_ ≠ ((.slice Ao186 t313.length co186) : Value).ownBlock) (.slice Ao62 t299.length co62) t299) ∧ Aside0 (Kd.R (Kd.int .i64) 2 wc w.heap.size (fun k_ => some k_ ≠ ((.slice Ao42 t264.length co42) : Value).ownBlock ∧ some k_ ≠ ((.slice Ao52 t297.length co52) : Value).ownBlock ∧ some k_ ≠ ((.slice Ao62 t299.length co62) : Value).ownBlock ∧ some k_ ≠ ((.slice Ao186 t313.length co186) : Value).ownBlock) (.slice Ao74 t280.length co74) t302) ∧ Aside0 (Kd.R (Kd.int .i64) 2 wc w.heap.size (fun k_ => some k_ ≠ ((.slice Ao42 t264.length co42) : Value).ownBlock ∧ some k_ ≠ ((.slice Ao52 t297.length co52) : Value).ownBlock ∧ some k_ ≠ ((.slice Ao62 t299.length co62) : Value).ownBlock ∧ some k_ ≠ ((.slice Ao74 t280.length co74) : Value).ownBlock) (.slice Ao186 t313.length co186) t313) ∧ Aside0 (wc.heap[gb251]? = some (.cells #[.int .i64 a0_0, (.slice A0_1 l0_1.length c0_1)] 24 (0, 0))) ∧ Aside0 (wc.heap[gb252]? = some (.cells #[.int .i64 a1_0, (.slice A1_1 l1_1.length c1_1)] 24 (0, 0))) ∧ Aside0 (wc.heap[gb268]? = some (.cells #[.int .i64 t263, (.slice Ao42 t264.length co42)] 26 (0, 0))) ∧ Aside0 (wc.heap[gb273]? = some (.cells #[.int .i64 t269, (.slice Ao52 t297.length co52)] 26 (0, 0))) ∧ Aside0 (wc.heap[gb278]? = some (.cells #[.int .i64 t274, (.slice Ao62 t299.length co62)] 26 (0, 0))) ∧ Aside0 (wc.heap[gb284]? = some (.cells #[.int .i64 t279, (.slice Ao74 t280.length co74)] 26 (0, 0))) ∧ Aside0 (wc.heap[gb317]? = some (.cells #[.int .i64 t312, (.slice Ao186 t313.length co186)] 26 (0, 0))) ∧ Aside0 (Below w.heap.size w wc))
             case first =>
              have H := HC167.out
              clear HC167
              replace H := Option.bind_eq_some_iff.mp H
              obtain ⟨t318, A1880, H⟩ := H
              replace H : (if t318 = true then (laws_FnExactAddLaurent.j2 kj109 t301 (t316 != t267) t279 t302) else (laws_FnExactAddLaurent.j2 kj109 t301 true t279 t302)) = some r := H
              have A188 := am_ A1880
              clear A1880
              by_cases c189 : t318 = true
              ·subst c189
               have H1 : (laws_FnExactAddLaurent.j2 kj109 t301 (t316 != t267) t279 t302) = some r := by rw [if_pos rfl] at H; exact H
               clear H
               have H := H1
               clear H1
               have H' := am_ H
               clear H
               have hnb190 := NB317_251.out
               have hnc190 := NB251_317.out
               have hnb191 := NB317_252.out
               have hnc191 := NB252_317.out
               have hnb192 := NB317_268.out
               have hnc192 := NB268_317.out
               have hnb193 := NB317_273.out
               have hnc193 := NB273_317.out
               have hnb194 := NB317_278.out
               have hnc194 := NB278_317.out
               have hnb195 := NB317_284.out
               have hnc195 := NB284_317.out
               obtain ⟨hcz196_0, hcz196_1, hfz196_0, hfz196_1⟩ := bx2_ BK317
               have hnb197 := NB268_251.out
               have hnc197 := NB251_268.out
               have hnb198 := NB268_252.out
               have hnc198 := NB252_268.out
               have hnb199 := NB268_273.out
               have hnc199 := NB273_268.out
               have hnb200 := NB268_278.out
               have hnc200 := NB278_268.out
               have hnb201 := NB268_284.out
               have hnc201 := NB284_268.out
               obtain ⟨hcz202_0, hcz202_1, hfz202_0, hfz202_1⟩ := bx2_ BK268
               go_wp2_with (first | ((with_reducible refine gate_callee (f := 9) rfl ?_); refine goesL_ (some 104) rfl rfl Try.func9 (by kernel_rfl) rfl #[.agg #[.int .i64 t312, .slice Ao186 t313.length co186], .agg #[.int .i64 t263, .slice Ao42 t264.length co42]] rfl lm_ ?_; (with_reducible refine (laws_eqLaurent.calls kj109 t312 _ _ t313 t263 _ _ t264 true _ ?side1 ?side2 ?side3 ?side4 A188.out).mono ?_); (case side1 => refine (Kd.R_reads' (e := 2) (base := w.heap.size) (ok := fun k_ => (some k_ ≠ (v306 : Value).ownBlock ∧ (some k_ ≠ (v310 : Value).ownBlock ∧ (some k_ ≠ (.slice Ao42 t264.length co42 : Value).ownBlock ∧ (some k_ ≠ (.slice Ao52 t297.length co52 : Value).ownBlock ∧ (some k_ ≠ (.slice Ao62 t299.length co62 : Value).ownBlock ∧ some k_ ≠ (.slice Ao74 t280.length co74 : Value).ownBlock)))))) (n := t313.length) (c := co186) ?_).2.2; exact ((rm_ (Kd.R_far (p := ⟨gb317, 1, none⟩) (Kd.R_far (p := ⟨gb317, 0, none⟩) (Kd.R_types HO315.out BK317.out (by decide)) (fun _ hk => hk.2) (.int .i64 t312)) (fun _ hk => hk.2) (.slice Ao186 t313.length co186)) (fun _ h_ => h_.1)))); (case side2 => exact (Kd.R_reads' HO315.out).2.1); (case side3 => refine (Kd.R_reads' (e := 2) (base := w.heap.size) (ok := fun k_ => (some k_ ≠ (v306 : Value).ownBlock ∧ (some k_ ≠ (v310 : Value).ownBlock ∧ (some k_ ≠ (.slice Ao186 t313.length co186 : Value).ownBlock ∧ (some k_ ≠ (.slice Ao52 t297.length co52 : Value).ownBlock ∧ (some k_ ≠ (.slice Ao62 t299.length co62 : Value).ownBlock ∧ some k_ ≠ (.slice Ao74 t280.length co74 : Value).ownBlock)))))) (n := t264.length) (c := co42) ?_).2.2; exact ((rm_ (Kd.R_far (p := ⟨gb317, 1, none⟩) (Kd.R_far (p := ⟨gb317, 0, none⟩) (Kd.R_types HO_269001.out BK317.out (by decide)) (fun _ hk => hk.2) (.int .i64 t312)) (fun _ hk => hk.2) (.slice Ao186 t313.length co186)) (fun _ h_ => h_.1)))); (case side4 => exact (Kd.R_reads' HO_269001.out).2.1); rintro e w203 ⟨rfl, hb⟩; refine ⟨_, rfl, ?_⟩; have n0_ := am_ (Kd.R_below ((rm_ (Kd.R_far (p := ⟨gb317, 1, none⟩) (Kd.R_far (p := ⟨gb317, 0, none⟩) (Kd.R_types HO_269001.out BK317.out (by decide)) (fun _ hk => hk.2) (.int .i64 t312)) (fun _ hk => hk.2) (.slice Ao186 t313.length co186)) (fun _ h_ => h_.1))) hb); have n1_ := am_ (Kd.R_below ((rm_ (Kd.R_far (p := ⟨gb317, 1, none⟩) (Kd.R_far (p := ⟨gb317, 0, none⟩) (Kd.R_types HO_274001.out BK317.out (by decide)) (fun _ hk => hk.2) (.int .i64 t312)) (fun _ hk => hk.2) (.slice Ao186 t313.length co186)) (fun _ h_ => h_.1))) hb); have n2_ := am_ (Kd.R_below ((rm_ (Kd.R_far (p := ⟨gb317, 1, none⟩) (Kd.R_far (p := ⟨gb317, 0, none⟩) (Kd.R_types HO_279001.out BK317.out (by decide)) (fun _ hk => hk.2) (.int .i64 t312)) (fun _ hk => hk.2) (.slice Ao186 t313.length co186)) (fun _ h_ => h_.1))) hb); have n3_ := am_ (Kd.R_below ((rm_ (Kd.R_far (p := ⟨gb317, 1, none⟩) (Kd.R_far (p := ⟨gb317, 0, none⟩) (Kd.R_types HO_285001.out BK317.out (by decide)) (fun _ hk => hk.2) (.int .i64 t312)) (fun _ hk => hk.2) (.slice Ao186 t313.length co186)) (fun _ h_ => h_.1))) hb); have n4_ := am_ (Kd.R_below ((rm_ (Kd.R_far (p := ⟨gb317, 1, none⟩) (Kd.R_far (p := ⟨gb317, 0, none⟩) (Kd.R_types HO307.out BK317.out (by decide)) (fun _ hk => hk.2) (.int .i64 t312)) (fun _ hk => hk.2) (.slice Ao186 t313.length co186)) (fun _ h_ => h_.1))) hb); have n5_ := am_ (Kd.R_below ((rm_ (Kd.R_far (p := ⟨gb317, 1, none⟩) (Kd.R_far (p := ⟨gb317, 0, none⟩) (Kd.R_types HO311.out BK317.out (by decide)) (fun _ hk => hk.2) (.int .i64 t312)) (fun _ hk => hk.2) (.slice Ao186 t313.length co186)) (fun _ h_ => h_.1))) hb); have n6_ := am_ (Kd.R_below ((rm_ (Kd.R_far (p := ⟨gb317, 1, none⟩) (Kd.R_far (p := ⟨gb317, 0, none⟩) (Kd.R_types HO315.out BK317.out (by decide)) (fun _ hk => hk.2) (.int .i64 t312)) (fun _ hk => hk.2) (.slice Ao186 t313.length co186)) (fun _ h_ => h_.1))) hb); have n7_ := am_ (bw_ BK251 hb); have n8_ := am_ (bw_ BK252 hb); have n9_ := am_ (bw_ BK268 hb); have n10_ := am_ (bw_ BK273 hb); have n11_ := am_ (bw_ BK278 hb); have n12_ := am_ (bw_ BK284 hb); have n13_ := am_ (blk_below (g := gb317) (o := .cells #[.int .i64 t312, .slice Ao186 t313.length co186] 26 (0, 0)) (by (with_reducible repeat (first | refine blk_drewN ?_ _ | refine blk_drew ?_ | refine blk_alloc ?_ _)); refine blk_put (cs := #[.int .i64 t312, .slice none 0 0]) ?_ 1 _ rfl; (with_reducible repeat (first | refine blk_drewN ?_ _ | refine blk_drew ?_ | refine blk_alloc ?_ _)); refine blk_put (cs := #[.int .i64 0, .slice none 0 0]) ?_ 0 _ rfl; (with_reducible repeat (first | refine blk_drewN ?_ _ | refine blk_drew ?_ | refine blk_alloc ?_ _)); exact BK317.out) hb); have n14_ := am_ (below_step (bb_ HB.out) hb); clear HO_269001 HO_274001 HO_279001 HO_285001 HO307 HO311 HO315 BK251 BK252 BK268 BK273 BK278 BK284 BK317 HB; revert n0_ n1_ n2_ n3_ n4_ n5_ n6_ n7_ n8_ n9_ n10_ n11_ n12_ n13_ n14_; intro HO_269001 HO_274001 HO_279001 HO_285001 HO307 HO311 HO315 BK251 BK252 BK268 BK273 BK278 BK284 BK317 HB; (try clear hb); (try clear hb2); (try clear hk); (try clear hi)))
               go_meet
               case rel => exact ⟨_, ((t316 != t267)), (by first | rfl | (simp; done) | (simp [*]; done)), H', ⟨by have := HJ24.out; have := HJ109.out; first | omega | exact Nat.le_refl _⟩, ⟨by (try simp only [hl274001_109]); (try simp only [hl279001_109]); (with_reducible repeat (first | apply Kd.R_alloc | apply Kd.R_drewN | apply Kd.R_drew)); exact Kd.R_mono HO_269001.out (fun _ hk => ⟨hk.2.2.2.1, ⟨hk.2.2.2.2.1, ⟨hk.2.2.2.2.2, hk.2.2.1⟩⟩⟩)⟩, ⟨by (try simp only [hl274001_109]); (try simp only [hl279001_109]); (with_reducible repeat (first | apply Kd.R_alloc | apply Kd.R_drewN | apply Kd.R_drew)); exact Kd.R_mono HO_274001.out (fun _ hk => ⟨hk.2.2.2.1, ⟨hk.2.2.2.2.1, ⟨hk.2.2.2.2.2, hk.2.2.1⟩⟩⟩)⟩, ⟨by (try simp only [hl274001_109]); (try simp only [hl279001_109]); (with_reducible repeat (first | apply Kd.R_alloc | apply Kd.R_drewN | apply Kd.R_drew)); exact Kd.R_mono HO_279001.out (fun _ hk => ⟨hk.2.2.2.1, ⟨hk.2.2.2.2.1, ⟨hk.2.2.2.2.2, hk.2.2.1⟩⟩⟩)⟩, ⟨by (try simp only [hl274001_109]); (try simp only [hl279001_109]); (with_reducible repeat (first | apply Kd.R_alloc | apply Kd.R_drewN | apply Kd.R_drew)); exact Kd.R_mono HO_285001.out (fun _ hk => ⟨hk.2.2.2.1, ⟨hk.2.2.2.2.1, ⟨hk.2.2.2.2.2, hk.2.2.1⟩⟩⟩)⟩, ⟨by (try simp only [hl274001_109]); (try simp only [hl279001_109]); (with_reducible repeat (first | apply Kd.R_alloc | apply Kd.R_drewN | apply Kd.R_drew)); exact Kd.R_mono HO315.out (fun _ hk => ⟨hk.2.2.1, ⟨hk.2.2.2.1, ⟨hk.2.2.2.2.1, hk.2.2.2.2.2⟩⟩⟩)⟩, ⟨by (try simp only [hl274001_109]); (try simp only [hl279001_109]); (with_reducible repeat (first | refine blk_drewN ?_ _ | refine blk_drew ?_ | refine blk_alloc ?_ _)); exact BK251.out⟩, ⟨by (try simp only [hl274001_109]); (try simp only [hl279001_109]); (with_reducible repeat (first | refine blk_drewN ?_ _ | refine blk_drew ?_ | refine blk_alloc ?_ _)); exact BK252.out⟩, ⟨by (try simp only [hl274001_109]); (try simp only [hl279001_109]); (with_reducible repeat (first | refine blk_drewN ?_ _ | refine blk_drew ?_ | refine blk_alloc ?_ _)); exact BK268.out⟩, ⟨by (try simp only [hl274001_109]); (try simp only [hl279001_109]); (with_reducible repeat (first | refine blk_drewN ?_ _ | refine blk_drew ?_ | refine blk_alloc ?_ _)); exact BK273.out⟩, ⟨by (try simp only [hl274001_109]); (try simp only [hl279001_109]); (with_reducible repeat (first | refine blk_drewN ?_ _ | refine blk_drew ?_ | refine blk_alloc ?_ _)); exact BK278.out⟩, ⟨by (try simp only [hl274001_109]); (try simp only [hl279001_109]); (with_reducible repeat (first | refine blk_drewN ?_ _ | refine blk_drew ?_ | refine blk_alloc ?_ _)); exact BK284.out⟩, ⟨by (try simp only [hl274001_109]); (try simp only [hl279001_109]); (with_reducible repeat (first | refine blk_drewN ?_ _ | refine blk_drew ?_ | refine blk_alloc ?_ _)); exact BK317.out⟩, ⟨bb_ HB.out⟩⟩
              ·replace c189 := Bool.eq_false_iff.mpr c189
               subst c189
               have H1 : (laws_FnExactAddLaurent.j2 kj109 t301 true t279 t302) = some r := by rw [if_neg (show ¬ (false = true) by decide)] at H; exact H
               clear H
               have H := H1
               clear H1
               have H' := am_ H
               clear H
               have hnb204 := NB317_251.out
               have hnc204 := NB251_317.out
               have hnb205 := NB317_252.out
               have hnc205 := NB252_317.out
               have hnb206 := NB317_268.out
               have hnc206 := NB268_317.out
               have hnb207 := NB317_273.out
               have hnc207 := NB273_317.out
               have hnb208 := NB317_278.out
               have hnc208 := NB278_317.out
               have hnb209 := NB317_284.out
               have hnc209 := NB284_317.out
               obtain ⟨hcz210_0, hcz210_1, hfz210_0, hfz210_1⟩ := bx2_ BK317
               have hnb211 := NB268_251.out
               have hnc211 := NB251_268.out
               have hnb212 := NB268_252.out
               have hnc212 := NB252_268.out
               have hnb213 := NB268_273.out
               have hnc213 := NB273_268.out
               have hnb214 := NB268_278.out
               have hnc214 := NB278_268.out
               have hnb215 := NB268_284.out
               have hnc215 := NB284_268.out
               obtain ⟨hcz216_0, hcz216_1, hfz216_0, hfz216_1⟩ := bx2_ BK268
               go_wp2_with (first | ((with_reducible refine gate_callee (f := 9) rfl ?_); refine goesL_ (some 104) rfl rfl Try.func9 (by kernel_rfl) rfl #[.agg #[.int .i64 t312, .slice Ao186 t313.length co186], .agg #[.int .i64 t263, .slice Ao42 t264.length co42]] rfl lm_ ?_; (with_reducible refine (laws_eqLaurent.calls kj109 t312 _ _ t313 t263 _ _ t264 false _ ?side1 ?side2 ?side3 ?side4 A188.out).mono ?_); (case side1 => refine (Kd.R_reads' (e := 2) (base := w.heap.size) (ok := fun k_ => (some k_ ≠ (v306 : Value).ownBlock ∧ (some k_ ≠ (v310 : Value).ownBlock ∧ (some k_ ≠ (.slice Ao42 t264.length co42 : Value).ownBlock ∧ (some k_ ≠ (.slice Ao52 t297.length co52 : Value).ownBlock ∧ (some k_ ≠ (.slice Ao62 t299.length co62 : Value).ownBlock ∧ some k_ ≠ (.slice Ao74 t280.length co74 : Value).ownBlock)))))) (n := t313.length) (c := co186) ?_).2.2; exact ((rm_ (Kd.R_far (p := ⟨gb317, 1, none⟩) (Kd.R_far (p := ⟨gb317, 0, none⟩) (Kd.R_types HO315.out BK317.out (by decide)) (fun _ hk => hk.2) (.int .i64 t312)) (fun _ hk => hk.2) (.slice Ao186 t313.length co186)) (fun _ h_ => h_.1)))); (case side2 => exact (Kd.R_reads' HO315.out).2.1); (case side3 => refine (Kd.R_reads' (e := 2) (base := w.heap.size) (ok := fun k_ => (some k_ ≠ (v306 : Value).ownBlock ∧ (some k_ ≠ (v310 : Value).ownBlock ∧ (some k_ ≠ (.slice Ao186 t313.length co186 : Value).ownBlock ∧ (some k_ ≠ (.slice Ao52 t297.length co52 : Value).ownBlock ∧ (some k_ ≠ (.slice Ao62 t299.length co62 : Value).ownBlock ∧ some k_ ≠ (.slice Ao74 t280.length co74 : Value).ownBlock)))))) (n := t264.length) (c := co42) ?_).2.2; exact ((rm_ (Kd.R_far (p := ⟨gb317, 1, none⟩) (Kd.R_far (p := ⟨gb317, 0, none⟩) (Kd.R_types HO_269001.out BK317.out (by decide)) (fun _ hk => hk.2) (.int .i64 t312)) (fun _ hk => hk.2) (.slice Ao186 t313.length co186)) (fun _ h_ => h_.1)))); (case side4 => exact (Kd.R_reads' HO_269001.out).2.1); rintro e w217 ⟨rfl, hb⟩; refine ⟨_, rfl, ?_⟩; have n0_ := am_ (Kd.R_below ((rm_ (Kd.R_far (p := ⟨gb317, 1, none⟩) (Kd.R_far (p := ⟨gb317, 0, none⟩) (Kd.R_types HO_269001.out BK317.out (by decide)) (fun _ hk => hk.2) (.int .i64 t312)) (fun _ hk => hk.2) (.slice Ao186 t313.length co186)) (fun _ h_ => h_.1))) hb); have n1_ := am_ (Kd.R_below ((rm_ (Kd.R_far (p := ⟨gb317, 1, none⟩) (Kd.R_far (p := ⟨gb317, 0, none⟩) (Kd.R_types HO_274001.out BK317.out (by decide)) (fun _ hk => hk.2) (.int .i64 t312)) (fun _ hk => hk.2) (.slice Ao186 t313.length co186)) (fun _ h_ => h_.1))) hb); have n2_ := am_ (Kd.R_below ((rm_ (Kd.R_far (p := ⟨gb317, 1, none⟩) (Kd.R_far (p := ⟨gb317, 0, none⟩) (Kd.R_types HO_279001.out BK317.out (by decide)) (fun _ hk => hk.2) (.int .i64 t312)) (fun _ hk => hk.2) (.slice Ao186 t313.length co186)) (fun _ h_ => h_.1))) hb); have n3_ := am_ (Kd.R_below ((rm_ (Kd.R_far (p := ⟨gb317, 1, none⟩) (Kd.R_far (p := ⟨gb317, 0, none⟩) (Kd.R_types HO_285001.out BK317.out (by decide)) (fun _ hk => hk.2) (.int .i64 t312)) (fun _ hk => hk.2) (.slice Ao186 t313.length co186)) (fun _ h_ => h_.1))) hb); have n4_ := am_ (Kd.R_below ((rm_ (Kd.R_far (p := ⟨gb317, 1, none⟩) (Kd.R_far (p := ⟨gb317, 0, none⟩) (Kd.R_types HO307.out BK317.out (by decide)) (fun _ hk => hk.2) (.int .i64 t312)) (fun _ hk => hk.2) (.slice Ao186 t313.length co186)) (fun _ h_ => h_.1))) hb); have n5_ := am_ (Kd.R_below ((rm_ (Kd.R_far (p := ⟨gb317, 1, none⟩) (Kd.R_far (p := ⟨gb317, 0, none⟩) (Kd.R_types HO311.out BK317.out (by decide)) (fun _ hk => hk.2) (.int .i64 t312)) (fun _ hk => hk.2) (.slice Ao186 t313.length co186)) (fun _ h_ => h_.1))) hb); have n6_ := am_ (Kd.R_below ((rm_ (Kd.R_far (p := ⟨gb317, 1, none⟩) (Kd.R_far (p := ⟨gb317, 0, none⟩) (Kd.R_types HO315.out BK317.out (by decide)) (fun _ hk => hk.2) (.int .i64 t312)) (fun _ hk => hk.2) (.slice Ao186 t313.length co186)) (fun _ h_ => h_.1))) hb); have n7_ := am_ (bw_ BK251 hb); have n8_ := am_ (bw_ BK252 hb); have n9_ := am_ (bw_ BK268 hb); have n10_ := am_ (bw_ BK273 hb); have n11_ := am_ (bw_ BK278 hb); have n12_ := am_ (bw_ BK284 hb); have n13_ := am_ (blk_below (g := gb317) (o := .cells #[.int .i64 t312, .slice Ao186 t313.length co186] 26 (0, 0)) (by (with_reducible repeat (first | refine blk_drewN ?_ _ | refine blk_drew ?_ | refine blk_alloc ?_ _)); refine blk_put (cs := #[.int .i64 t312, .slice none 0 0]) ?_ 1 _ rfl; (with_reducible repeat (first | refine blk_drewN ?_ _ | refine blk_drew ?_ | refine blk_alloc ?_ _)); refine blk_put (cs := #[.int .i64 0, .slice none 0 0]) ?_ 0 _ rfl; (with_reducible repeat (first | refine blk_drewN ?_ _ | refine blk_drew ?_ | refine blk_alloc ?_ _)); exact BK317.out) hb); have n14_ := am_ (below_step (bb_ HB.out) hb); clear HO_269001 HO_274001 HO_279001 HO_285001 HO307 HO311 HO315 BK251 BK252 BK268 BK273 BK278 BK284 BK317 HB; revert n0_ n1_ n2_ n3_ n4_ n5_ n6_ n7_ n8_ n9_ n10_ n11_ n12_ n13_ n14_; intro HO_269001 HO_274001 HO_279001 HO_285001 HO307 HO311 HO315 BK251 BK252 BK268 BK273 BK278 BK284 BK317 HB; (try clear hb); (try clear hb2); (try clear hk); (try clear hi)))
               go_meet
               case rel => exact ⟨_, (true), (by first | rfl | (simp; done) | (simp [*]; done)), H', ⟨by have := HJ24.out; have := HJ109.out; first | omega | exact Nat.le_refl _⟩, ⟨by (try simp only [hl274001_109]); (try simp only [hl279001_109]); (with_reducible repeat (first | apply Kd.R_alloc | apply Kd.R_drewN | apply Kd.R_drew)); exact Kd.R_mono HO_269001.out (fun _ hk => ⟨hk.2.2.2.1, ⟨hk.2.2.2.2.1, ⟨hk.2.2.2.2.2, hk.2.2.1⟩⟩⟩)⟩, ⟨by (try simp only [hl274001_109]); (try simp only [hl279001_109]); (with_reducible repeat (first | apply Kd.R_alloc | apply Kd.R_drewN | apply Kd.R_drew)); exact Kd.R_mono HO_274001.out (fun _ hk => ⟨hk.2.2.2.1, ⟨hk.2.2.2.2.1, ⟨hk.2.2.2.2.2, hk.2.2.1⟩⟩⟩)⟩, ⟨by (try simp only [hl274001_109]); (try simp only [hl279001_109]); (with_reducible repeat (first | apply Kd.R_alloc | apply Kd.R_drewN | apply Kd.R_drew)); exact Kd.R_mono HO_279001.out (fun _ hk => ⟨hk.2.2.2.1, ⟨hk.2.2.2.2.1, ⟨hk.2.2.2.2.2, hk.2.2.1⟩⟩⟩)⟩, ⟨by (try simp only [hl274001_109]); (try simp only [hl279001_109]); (with_reducible repeat (first | apply Kd.R_alloc | apply Kd.R_drewN | apply Kd.R_drew)); exact Kd.R_mono HO_285001.out (fun _ hk => ⟨hk.2.2.2.1, ⟨hk.2.2.2.2.1, ⟨hk.2.2.2.2.2, hk.2.2.1⟩⟩⟩)⟩, ⟨by (try simp only [hl274001_109]); (try simp only [hl279001_109]); (with_reducible repeat (first | apply Kd.R_alloc | apply Kd.R_drewN | apply Kd.R_drew)); exact Kd.R_mono HO315.out (fun _ hk => ⟨hk.2.2.1, ⟨hk.2.2.2.1, ⟨hk.2.2.2.2.1, hk.2.2.2.2.2⟩⟩⟩)⟩, ⟨by (try simp only [hl274001_109]); (try simp only [hl279001_109]); (with_reducible repeat (first | refine blk_drewN ?_ _ | refine blk_drew ?_ | refine blk_alloc ?_ _)); exact BK251.out⟩, ⟨by (try simp only [hl274001_109]); (try simp only [hl279001_109]); (with_reducible repeat (first | refine blk_drewN ?_ _ | refine blk_drew ?_ | refine blk_alloc ?_ _)); exact BK252.out⟩, ⟨by (try simp only [hl274001_109]); (try simp only [hl279001_109]); (with_reducible repeat (first | refine blk_drewN ?_ _ | refine blk_drew ?_ | refine blk_alloc ?_ _)); exact BK268.out⟩, ⟨by (try simp only [hl274001_109]); (try simp only [hl279001_109]); (with_reducible repeat (first | refine blk_drewN ?_ _ | refine blk_drew ?_ | refine blk_alloc ?_ _)); exact BK273.out⟩, ⟨by (try simp only [hl274001_109]); (try simp only [hl279001_109]); (with_reducible repeat (first | refine blk_drewN ?_ _ | refine blk_drew ?_ | refine blk_alloc ?_ _)); exact BK278.out⟩, ⟨by (try simp only [hl274001_109]); (try simp only [hl279001_109]); (with_reducible repeat (first | refine blk_drewN ?_ _ | refine blk_drew ?_ | refine blk_alloc ?_ _)); exact BK284.out⟩, ⟨by (try simp only [hl274001_109]); (try simp only [hl279001_109]); (with_reducible repeat (first | refine blk_drewN ?_ _ | refine blk_drew ?_ | refine blk_alloc ?_ _)); exact BK317.out⟩, ⟨bb_ HB.out⟩⟩
             case rest =>
              clear HC167
              try clear c1
              try clear c2
              try clear p2
              try clear c7
              try clear c8
              try clear c9
              try clear c18
              try clear c19
              try clear c20
              try clear c21
              try clear c189
              try clear c190
              try clear c191
              try clear c192
              try clear c193
              try clear c194
              try clear c195
              try clear c197
              try clear c198
              try clear c199
              try clear c200
              try clear c201
              try clear c204
              try clear c205
              try clear c206
              try clear c207
              try clear c208
              try clear c209
              try clear c211
              try clear c212
              try clear c213
              try clear c214
              try clear c215
              try clear hcz196_0
              try clear hcz196_1
              try clear hcz202_0
              try clear hcz202_1
              try clear hcz210_0
              try clear hcz210_1
              try clear hcz216_0
              try clear hcz216_1
              try clear hfz196_0
              try clear hfz196_1
              try clear hfz202_0
              try clear hfz202_1
              try clear hfz210_0
              try clear hfz210_1
              try clear hfz216_0
              try clear hfz216_1
              obtain ⟨kq, x110_166, rfl, HA, HJ166, HO_269001, HO_274001, HO_279001, HO_285001, HO_318001, BK251, BK252, BK268, BK273, BK278, BK284, BK317, HB⟩ := hcut
              have hl285001_166 := (Kd.R_reads' HO_285001.out).1
              rw [hl285001_166] at HO_285001
              (try simp only [hl285001_166])
              (try simp only [hl285001_166] at BK251)
              (try simp only [hl285001_166] at BK252)
              (try simp only [hl285001_166] at BK268)
              (try simp only [hl285001_166] at BK273)
              (try simp only [hl285001_166] at BK278)
              (try simp only [hl285001_166] at BK284)
              (try simp only [hl285001_166] at BK317)
              (try simp only [hl285001_166] at HO_269001)
              (try simp only [hl285001_166] at HO_274001)
              (try simp only [hl285001_166] at HO_279001)
              (try simp only [hl285001_166] at HO_318001)
              cases kq with
              | zero => exact absurd HA.out (by simp [laws_FnExactAddLaurent.j2])
              | succ kj166 =>
               have H := HA.out
               clear HA
               simp only [laws_FnExactAddLaurent.j2] at H
               by_cases c218 : x110_166 = true
               ·subst c218
                have H1 : (some false) = some r := by rw [if_pos rfl] at H; exact H
                clear H
                have H := H1
                clear H1
                exact absurd ((Option.some.inj H).trans HTRUE_.out) (by simp)
               ·replace c218 := Bool.eq_false_iff.mpr c218
                subst c218
                have H1 : ((laws_heldLaurent.f kj166 t279 t302 1).bind fun t319 => (if t319 < 0 then (some false) else (if t319 = t301 then (some true) else (some false)))) = some r := by rw [if_neg (show ¬ (false = true) by decide)] at H; exact H
                clear H
                have H := H1
                clear H1
                replace H := Option.bind_eq_some_iff.mp H
                obtain ⟨t319, A2190, H⟩ := H
                replace H : (if t319 < 0 then (some false) else (if t319 = t301 then (some true) else (some false))) = some r := H
                have A219 := am_ A2190
                clear A2190
                by_cases c220 : t319 < 0
                ·rw [if_pos c220] at H
                 have c220b0 : decide (t319 < 0) = true := decide_eq_true c220
                 clear c220
                 exact absurd ((Option.some.inj H).trans HTRUE_.out) (by simp)
                ·rw [if_neg c220] at H
                 have c220b0 : decide (t319 < 0) = false := decide_eq_false c220
                 clear c220
                 by_cases c221 : t319 = t301
                 ·rw [if_pos c221] at H
                  have c221b0 : (t319 == t301) = true := beq_iff_eq.mpr c221
                  have c221b1 : (t319 != t301) = false := bne_eq_false_iff_eq.mpr c221
                  clear c221
                  obtain rfl := Option.some.inj H
                  have hnb222 := NB284_251.out
                  have hnc222 := NB251_284.out
                  have hnb223 := NB284_252.out
                  have hnc223 := NB252_284.out
                  have hnb224 := NB284_268.out
                  have hnc224 := NB268_284.out
                  have hnb225 := NB284_273.out
                  have hnc225 := NB273_284.out
                  have hnb226 := NB284_278.out
                  have hnc226 := NB278_284.out
                  have hnb227 := NB284_317.out
                  have hnc227 := NB317_284.out
                  obtain ⟨hcz228_0, hcz228_1, hfz228_0, hfz228_1⟩ := bx2_ BK284
                  go_wp2_with (first | ((with_reducible refine gate_callee (f := 11) rfl ?_); refine goesL_ (some 113) rfl rfl Try.func11 (by kernel_rfl) rfl #[.agg #[.int .i64 t279, .slice Ao74 t302.length co74], .int .i64 1] rfl lm_ ?_; (with_reducible refine (laws_heldLaurent.calls kj166 t279 _ _ t302 1 t319 _ ?side1 ?side2 A219.out).mono ?_); (case side1 => repeat (first | exact (Kd.R_reads' HO_285001.out).2.2 | (with_reducible refine Kd.C_alloc ?_ _) | (with_reducible refine Kd.C_drewN ?_ _) | (with_reducible refine Kd.C_drew ?_))); (case side2 => exact (Kd.R_reads' HO_285001.out).2.1); rintro e w229 ⟨rfl, hb⟩; refine ⟨_, rfl, ?_⟩; have n0_ := am_ (Kd.R_below (rk_ HO_269001.out) hb); have n1_ := am_ (Kd.R_below (rk_ HO_274001.out) hb); have n2_ := am_ (Kd.R_below (rk_ HO_279001.out) hb); have n3_ := am_ (Kd.R_below (rk_ HO_285001.out) hb); have n4_ := am_ (Kd.R_below (rk_ HO_318001.out) hb); have n5_ := am_ (bw_ BK251 hb); have n6_ := am_ (bw_ BK252 hb); have n7_ := am_ (bw_ BK268 hb); have n8_ := am_ (bw_ BK273 hb); have n9_ := am_ (bw_ BK278 hb); have n10_ := am_ (bw_ BK284 hb); have n11_ := am_ (bw_ BK317 hb); have n12_ := am_ (below_step (bb_ HB.out) hb); clear HO_269001 HO_274001 HO_279001 HO_285001 HO_318001 BK251 BK252 BK268 BK273 BK278 BK284 BK317 HB; revert n0_ n1_ n2_ n3_ n4_ n5_ n6_ n7_ n8_ n9_ n10_ n11_ n12_; intro HO_269001 HO_274001 HO_279001 HO_285001 HO_318001 BK251 BK252 BK268 BK273 BK278 BK284 BK317 HB; (try clear hb); (try clear hb2); (try clear hk); (try clear hi)))
                  go_ret
                  exact ⟨by first | rfl | (simp [errW_none, errW_some] <;> rfl) | (simp [*, errW_none, errW_some] <;> rfl), bb_ HB.out⟩
                 ·rw [if_neg c221] at H
                  have c221b0 : (t319 == t301) = false := beq_eq_false_iff_ne.mpr c221
                  have c221b1 : (t319 != t301) = true := bne_iff_ne.mpr c221
                  exact absurd ((Option.some.inj H).trans HTRUE_.out) (by simp)
            ·rw [if_neg c163] at H
             have c163b0 : (t303 == t301) = false := beq_eq_false_iff_ne.mpr c163
             have c163b1 : (t303 != t301) = true := bne_iff_ne.mpr c163
             exact absurd ((Option.some.inj H).trans HTRUE_.out) (by simp)
       ·replace c107 := Bool.eq_false_iff.mpr c107
        subst c107
        have H1 : (some false) = some r := by rw [if_neg (show ¬ (false = true) by decide)] at H; exact H
        clear H
        have H := H1
        clear H1
        exact absurd ((Option.some.inj H).trans HTRUE_.out) (by simp)
      ·replace c104 := Bool.eq_false_iff.mpr c104
       subst c104
       have H1 : (some false) = some r := by rw [if_neg (show ¬ (false = true) by decide)] at H; exact H
       clear H
       have H := H1
       clear H1
       exact absurd ((Option.some.inj H).trans HTRUE_.out) (by simp)

end Go.Proofs.Ytpkocglndlmhkaa.PFnExactAddLaurent
