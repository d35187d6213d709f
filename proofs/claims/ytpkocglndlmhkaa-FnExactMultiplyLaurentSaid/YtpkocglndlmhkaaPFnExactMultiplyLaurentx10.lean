/- Written by this session's program out of the kit's print and this session's contracts. -/
import Derived.Test.YtpkocglndlmhkaaPFnExactMultiplyLaurentx0
import Derived.Test.YtpkocglndlmhkaaPFnExactMultiplyLaurentx1
import Derived.Test.YtpkocglndlmhkaaPFnExactMultiplyLaurentx5
import Derived.Test.YtpkocglndlmhkaaPFnExactMultiplyLaurentx9
namespace Go.Proofs.Ytpkocglndlmhkaa.PFnExactMultiplyLaurent
open Go.RowKit Go.Proofs.YtpkocglndlmhkaaW.PrintWords Go.Proofs.YtpkocglndlmhkaaW.PrintLast Go.Proofs.YtpkocglndlmhkaaW.PrintMore
attribute [local go_sem] max2_int min2_int max_two min_two max_three min_three max_four min_four   -- for this text's walks alone
set_option linter.unusedVariables false
set_option linter.unusedSimpArgs false

/-! ### laws_FnExactMultiplyLaurent: function 4 -/
mutual
def laws_FnExactMultiplyLaurent.j0 : Nat → Int → Int → Bool → Int → List Int → Int → List Int → Int → List Int → Int → List Int → Int → List Int → Int → List Int → Option (Bool)
 | 0, _, _, _, _, _, _, _, _, _, _, _, _, _, _, _ => none
 | k + 1, x7, x11, x53, x254000, x254001, x255000, x255001, x271000, x271001, x276000, x276001, x281000, x281001, x287000, x287001 => if x53 = true then (some false) else ((laws_toLaurent.f k x254000 x254001).bind fun bt288 => ((laws_eqLaurent.f k x276000 x276001 bt288.1 bt288.2).bind fun t292 => (if t292 = true then ((laws_toLaurent.f k x255000 x255001).bind fun bt293 => ((laws_eqLaurent.f k x281000 x281001 bt293.1 bt293.2).bind fun t297 => (if t297 = true then ((laws_markLaurent.f k x276000 x276001 1).bind fun bt298 => ((laws_markLaurent.f k x281000 x281001 bt298.1).bind fun bt300 => (if bt300.1 < 0 then (laws_FnExactMultiplyLaurent.j1 k x7 true x254000 x254001 x255000 x255001 x271000 x271001 x287000 x287001) else ((laws_eqLaurent.f k x287000 x287001 x271000 x271001).bind fun t302 => (if t302 = true then (laws_FnExactMultiplyLaurent.j1 k x7 (x11 != x7) x254000 x254001 x255000 x255001 x271000 x271001 x287000 x287001) else (laws_FnExactMultiplyLaurent.j1 k x7 true x254000 x254001 x255000 x255001 x271000 x271001 x287000 x287001)))))) else (some false)))) else (some false))))
def laws_FnExactMultiplyLaurent.j1 : Nat → Int → Bool → Int → List Int → Int → List Int → Int → List Int → Int → List Int → Option (Bool)
 | 0, _, _, _, _, _, _, _, _, _, _ => none
 | k + 1, x7, x82, x254000, x254001, x255000, x255001, x271000, x271001, x287000, x287001 => if x82 = true then (some false) else ((laws_markLaurent.f k x287000 x287001 1).bind fun bt303 => ((laws_heldLaurent.f k x287000 bt303.2 1).bind fun t305 => (if t305 < 0 then (some false) else (if t305 = bt303.1 then ((laws_toLaurent.f k x254000 x254001).bind fun bt306 => ((laws_toLaurent.f k x255000 x255001).bind fun bt310 => ((impl_MultiplyLaurent.f k bt306.1 bt306.2 bt310.1 bt310.2).bind fun bt314 => ((laws_eqLaurent.f k bt314.1 bt314.2.1 x271000 x271001).bind fun t320 => (if t320 = true then (laws_FnExactMultiplyLaurent.j2 k bt303.1 (bt314.2.2 != x7) x287000 bt303.2) else (laws_FnExactMultiplyLaurent.j2 k bt303.1 true x287000 bt303.2)))))) else (some false)))))
def laws_FnExactMultiplyLaurent.j2 : Nat → Int → Bool → Int → List Int → Option (Bool)
 | 0, _, _, _, _ => none
 | k + 1, x13, x110, x287000, x287001 => if x110 = true then (some false) else ((laws_heldLaurent.f k x287000 x287001 1).bind fun t321 => (if t321 < 0 then (some false) else (if t321 = x13 then (some true) else (some false))))
end
def laws_FnExactMultiplyLaurent.f (k : Nat) (a0_0 : Int) (l0_1 : List Int) (a1_0 : Int) (l1_1 : List Int) : Option (Bool) := (laws_szLaurent.f a0_0 l0_1 1048576).bind fun t255 => (if t255 < 0 then (some true) else ((laws_szLaurent.f a1_0 l1_1 t255).bind fun t256 => (if t256 < 0 then (some true) else ((laws_toLaurent.f k a0_0 l0_1).bind fun bt257 => ((laws_toLaurent.f k a1_0 l1_1).bind fun bt261 => ((spec_MultiplyLaurent.f k bt257.1 bt257.2 bt261.1 bt261.2).bind fun bt265 => ((laws_toLaurent.f k a0_0 l0_1).bind fun bt271 => ((laws_toLaurent.f k a1_0 l1_1).bind fun bt276 => ((impl_MultiplyLaurent.f k bt271.1 bt271.2 bt276.1 bt276.2).bind fun bt281 => ((laws_eqLaurent.f k bt281.1 bt281.2.1 bt265.1 bt265.2.1).bind fun t287 => (if t287 = true then (laws_FnExactMultiplyLaurent.j0 k bt265.2.2 bt281.2.2 (bt281.2.2 != bt265.2.2) a0_0 l0_1 a1_0 l1_1 bt265.1 bt265.2.1 bt271.1 bt271.2 bt276.1 bt276.2 bt281.1 bt281.2.1) else (laws_FnExactMultiplyLaurent.j0 k bt265.2.2 bt281.2.2 true a0_0 l0_1 a1_0 l1_1 bt265.1 bt265.2.1 bt271.1 bt271.2 bt276.1 bt276.2 bt281.1 bt281.2.1))))))))))))
theorem laws_FnExactMultiplyLaurent.mono_l : ∀ k, (∀ y0 y1 y2 y3 y4 y5 y6 y7 y8 y9 y10 y11 y12 y13 y14, LeO (laws_FnExactMultiplyLaurent.j0 k y0 y1 y2 y3 y4 y5 y6 y7 y8 y9 y10 y11 y12 y13 y14) (laws_FnExactMultiplyLaurent.j0 (k + 1) y0 y1 y2 y3 y4 y5 y6 y7 y8 y9 y10 y11 y12 y13 y14)) ∧ (∀ y0 y1 y2 y3 y4 y5 y6 y7 y8 y9, LeO (laws_FnExactMultiplyLaurent.j1 k y0 y1 y2 y3 y4 y5 y6 y7 y8 y9) (laws_FnExactMultiplyLaurent.j1 (k + 1) y0 y1 y2 y3 y4 y5 y6 y7 y8 y9)) ∧ (∀ y0 y1 y2 y3, LeO (laws_FnExactMultiplyLaurent.j2 k y0 y1 y2 y3) (laws_FnExactMultiplyLaurent.j2 (k + 1) y0 y1 y2 y3))
 | 0 => ⟨fun _ _ _ _ _ _ _ _ _ _ _ _ _ _ _ r h => by simp [laws_FnExactMultiplyLaurent.j0] at h, fun _ _ _ _ _ _ _ _ _ _ r h => by simp [laws_FnExactMultiplyLaurent.j1] at h, fun _ _ _ _ r h => by simp [laws_FnExactMultiplyLaurent.j2] at h⟩
 | k + 1 => by
  obtain ⟨ih0, ih1, ih2⟩ := laws_FnExactMultiplyLaurent.mono_l k
  refine ⟨?_, ?_, ?_⟩
  ·intro y0 y1 y2 y3 y4 y5 y6 y7 y8 y9 y10 y11 y12 y13 y14
   unfold laws_FnExactMultiplyLaurent.j0
   repeat' first
   | (with_reducible exact ih0 _ _ _ _ _ _ _ _ _ _ _ _ _ _ _)
   | (with_reducible exact ih1 _ _ _ _ _ _ _ _ _ _)
   | (with_reducible exact ih2 _ _ _ _)
   | (with_reducible exact impl_MultiplyLaurent.mono _ _ _ _ _)
   | (with_reducible exact laws_eqLaurent.mono _ _ _ _ _)
   | (with_reducible exact laws_heldLaurent.mono _ _ _ _)
   | (with_reducible exact laws_markLaurent.mono _ _ _ _)
   | (with_reducible exact laws_toLaurent.mono _ _ _)
   | (with_reducible exact spec_MultiplyLaurent.mono _ _ _ _ _)
   | (with_reducible exact LeO.refl _)
   | (with_reducible exact LeO.none _)
   | (with_reducible refine LeO.ite ?_ ?_)
   | (with_reducible refine LeO.bind ?_ (fun _ => ?_))
   | exact ih0 _ _ _ _ _ _ _ _ _ _ _ _ _ _ _
   | exact ih1 _ _ _ _ _ _ _ _ _ _
   | exact ih2 _ _ _ _
   | exact impl_MultiplyLaurent.mono _ _ _ _ _
   | exact laws_eqLaurent.mono _ _ _ _ _
   | exact laws_heldLaurent.mono _ _ _ _
   | exact laws_markLaurent.mono _ _ _ _
   | exact laws_toLaurent.mono _ _ _
   | exact spec_MultiplyLaurent.mono _ _ _ _ _
   | exact LeO.none _
   | refine LeO.ite ?_ ?_
   | refine LeO.bind ?_ (fun _ => ?_)
  ·intro y0 y1 y2 y3 y4 y5 y6 y7 y8 y9
   unfold laws_FnExactMultiplyLaurent.j1
   repeat' first
   | (with_reducible exact ih0 _ _ _ _ _ _ _ _ _ _ _ _ _ _ _)
   | (with_reducible exact ih1 _ _ _ _ _ _ _ _ _ _)
   | (with_reducible exact ih2 _ _ _ _)
   | (with_reducible exact impl_MultiplyLaurent.mono _ _ _ _ _)
   | (with_reducible exact laws_eqLaurent.mono _ _ _ _ _)
   | (with_reducible exact laws_heldLaurent.mono _ _ _ _)
   | (with_reducible exact laws_markLaurent.mono _ _ _ _)
   | (with_reducible exact laws_toLaurent.mono _ _ _)
   | (with_reducible exact spec_MultiplyLaurent.mono _ _ _ _ _)
   | (with_reducible exact LeO.refl _)
   | (with_reducible exact LeO.none _)
   | (with_reducible refine LeO.ite ?_ ?_)
   | (with_reducible refine LeO.bind ?_ (fun _ => ?_))
   | exact ih0 _ _ _ _ _ _ _ _ _ _ _ _ _ _ _
   | exact ih1 _ _ _ _ _ _ _ _ _ _
   | exact ih2 _ _ _ _
   | exact impl_MultiplyLaurent.mono _ _ _ _ _
   | exact laws_eqLaurent.mono _ _ _ _ _
   | exact laws_heldLaurent.mono _ _ _ _
   | exact laws_markLaurent.mono _ _ _ _
   | exact laws_toLaurent.mono _ _ _
   | exact spec_MultiplyLaurent.mono _ _ _ _ _
   | exact LeO.none _
   | refine LeO.ite ?_ ?_
   | refine LeO.bind ?_ (fun _ => ?_)
  ·intro y0 y1 y2 y3
   unfold laws_FnExactMultiplyLaurent.j2
   repeat' first
   | (with_reducible exact ih0 _ _ _ _ _ _ _ _ _ _ _ _ _ _ _)
   | (with_reducible exact ih1 _ _ _ _ _ _ _ _ _ _)
   | (with_reducible exact ih2 _ _ _ _)
   | (with_reducible exact impl_MultiplyLaurent.mono _ _ _ _ _)
   | (with_reducible exact laws_eqLaurent.mono _ _ _ _ _)
   | (with_reducible exact laws_heldLaurent.mono _ _ _ _)
   | (with_reducible exact laws_markLaurent.mono _ _ _ _)
   | (with_reducible exact laws_toLaurent.mono _ _ _)
   | (with_reducible exact spec_MultiplyLaurent.mono _ _ _ _ _)
   | (with_reducible exact LeO.refl _)
   | (with_reducible exact LeO.none _)
   | (with_reducible refine LeO.ite ?_ ?_)
   | (with_reducible refine LeO.bind ?_ (fun _ => ?_))
   | exact ih0 _ _ _ _ _ _ _ _ _ _ _ _ _ _ _
   | exact ih1 _ _ _ _ _ _ _ _ _ _
   | exact ih2 _ _ _ _
   | exact impl_MultiplyLaurent.mono _ _ _ _ _
   | exact laws_eqLaurent.mono _ _ _ _ _
   | exact laws_heldLaurent.mono _ _ _ _
   | exact laws_markLaurent.mono _ _ _ _
   | exact laws_toLaurent.mono _ _ _
   | exact spec_MultiplyLaurent.mono _ _ _ _ _
   | exact LeO.none _
   | refine LeO.ite ?_ ?_
   | refine LeO.bind ?_ (fun _ => ?_)
theorem laws_FnExactMultiplyLaurent.mono : ∀ a0 a1 a2 a3 k, LeO (laws_FnExactMultiplyLaurent.f k a0 a1 a2 a3) (laws_FnExactMultiplyLaurent.f (k + 1) a0 a1 a2 a3) := by
 intro a0 a1 a2 a3 k
 obtain ⟨ih0, ih1, ih2⟩ := laws_FnExactMultiplyLaurent.mono_l k
 unfold laws_FnExactMultiplyLaurent.f
 repeat' first
   | (with_reducible exact ih0 _ _ _ _ _ _ _ _ _ _ _ _ _ _ _)
   | (with_reducible exact ih1 _ _ _ _ _ _ _ _ _ _)
   | (with_reducible exact ih2 _ _ _ _)
   | (with_reducible exact impl_MultiplyLaurent.mono _ _ _ _ _)
   | (with_reducible exact laws_eqLaurent.mono _ _ _ _ _)
   | (with_reducible exact laws_heldLaurent.mono _ _ _ _)
   | (with_reducible exact laws_markLaurent.mono _ _ _ _)
   | (with_reducible exact laws_toLaurent.mono _ _ _)
   | (with_reducible exact spec_MultiplyLaurent.mono _ _ _ _ _)
   | (with_reducible exact LeO.refl _)
   | (with_reducible exact LeO.none _)
   | (with_reducible refine LeO.ite ?_ ?_)
   | (with_reducible refine LeO.bind ?_ (fun _ => ?_))
   | exact ih0 _ _ _ _ _ _ _ _ _ _ _ _ _ _ _
   | exact ih1 _ _ _ _ _ _ _ _ _ _
   | exact ih2 _ _ _ _
   | exact impl_MultiplyLaurent.mono _ _ _ _ _
   | exact laws_eqLaurent.mono _ _ _ _ _
   | exact laws_heldLaurent.mono _ _ _ _
   | exact laws_markLaurent.mono _ _ _ _
   | exact laws_toLaurent.mono _ _ _
   | exact spec_MultiplyLaurent.mono _ _ _ _ _
   | exact LeO.none _
   | refine LeO.ite ?_ ?_
   | refine LeO.bind ?_ (fun _ => ?_)
def laws_FnExactMultiplyLaurent.T8 : Bool × List (List Nat × List Nat) := (true, [([], []), ([0], [0]), ([], []), ([2, 1], [2]), ([1, 3, 3], [1, 3]), ([4], [4]), ([5], [5]), ([5], [5]), ([], []), ([8, 6, 4, 0, 1, 2, 3, 4, 5, 6, 8], [6, 8]), ([7, 9, 0, 1, 2, 3, 4, 5, 6, 7, 8, 9], [7])])
def laws_FnExactMultiplyLaurent.B8 : List Nat := [0, 1, 0, 7, 15, 31, 63, 63, 0, 383, 1023]
theorem laws_FnExactMultiplyLaurent.tab8 : rtab .any (opsOf Try.f4 8) = laws_FnExactMultiplyLaurent.T8 := by kernel_rfl
theorem laws_FnExactMultiplyLaurent.bits8 : waitsOk laws_FnExactMultiplyLaurent.T8.2 laws_FnExactMultiplyLaurent.B8 = true := by kernel_rfl
def laws_FnExactMultiplyLaurent.T31 : Bool × List (List Nat × List Nat) := (true, [([], []), ([0], [0]), ([], []), ([2, 1], [2]), ([1, 3, 3], [1, 3]), ([4], [4]), ([5], [5]), ([5], [5]), ([], []), ([8, 6, 4, 0, 1, 2, 3, 4, 5, 6, 8], [6, 8]), ([7, 9, 0, 1, 2, 3, 4, 5, 6, 7, 8, 9], [7])])
def laws_FnExactMultiplyLaurent.B31 : List Nat := [0, 1, 0, 7, 15, 31, 63, 63, 0, 383, 1023]
theorem laws_FnExactMultiplyLaurent.tab31 : rtab .any (opsOf Try.f4 31) = laws_FnExactMultiplyLaurent.T31 := by kernel_rfl
theorem laws_FnExactMultiplyLaurent.bits31 : waitsOk laws_FnExactMultiplyLaurent.T31.2 laws_FnExactMultiplyLaurent.B31 = true := by kernel_rfl
set_option maxHeartbeats 8000000 in
set_option maxRecDepth 100000 in
theorem laws_FnExactMultiplyLaurent.calls (k : Nat) (a0_0 : Int) (A0_1 : Option Addr) (c0_1 : Nat) (l0_1 : List Int) (a1_0 : Int) (A1_1 : Option Addr) (c1_1 : Nat) (l1_1 : List Int) (r : Bool) (w : World) (hr0_1 : Kd.C (Kd.int .i64) w A0_1 l0_1.length l0_1) (hc0_1 : l0_1.length ≤ c0_1) (hr1_1 : Kd.C (Kd.int .i64) w A1_1 l1_1.length l1_1) (hc1_1 : l1_1.length ≤ c1_1) (h : laws_FnExactMultiplyLaurent.f k a0_0 l0_1 a1_0 l1_1 = some r) (HTRUE_ : Aside0 (r = true)) :
  Calls Try.prog 4 #[.agg #[.int .i64 a0_0, .slice A0_1 l0_1.length c0_1], .agg #[.int .i64 a1_0, .slice A1_1 l1_1.length c1_1]] w fun e w' => e = .returned (.bool r) ∧ Below w.heap.size w w' := by
 have hu24 := Try.underlying24
 have hu26 := Try.underlying26
 have HR0_1 := am_ hr0_1
 have HC0_1 := am_ hc0_1
 clear hr0_1 hc0_1
 have HR1_1 := am_ hr1_1
 have HC1_1 := am_ hc1_1
 clear hr1_1 hc1_1
 have HB := am_ (Below.refl w.heap.size w)
 have H : ((laws_szLaurent.f a0_0 l0_1 1048576).bind fun t255 => (if t255 < 0 then (some true) else ((laws_szLaurent.f a1_0 l1_1 t255).bind fun t256 => (if t256 < 0 then (some true) else ((laws_toLaurent.f k a0_0 l0_1).bind fun bt257 => ((laws_toLaurent.f k a1_0 l1_1).bind fun bt261 => ((spec_MultiplyLaurent.f k bt257.1 bt257.2 bt261.1 bt261.2).bind fun bt265 => ((laws_toLaurent.f k a0_0 l0_1).bind fun bt271 => ((laws_toLaurent.f k a1_0 l1_1).bind fun bt276 => ((impl_MultiplyLaurent.f k bt271.1 bt271.2 bt276.1 bt276.2).bind fun bt281 => ((laws_eqLaurent.f k bt281.1 bt281.2.1 bt265.1 bt265.2.1).bind fun t287 => (if t287 = true then (laws_FnExactMultiplyLaurent.j0 k bt265.2.2 bt281.2.2 (bt281.2.2 != bt265.2.2) a0_0 l0_1 a1_0 l1_1 bt265.1 bt265.2.1 bt271.1 bt271.2 bt276.1 bt276.2 bt281.1 bt281.2.1) else (laws_FnExactMultiplyLaurent.j0 k bt265.2.2 bt281.2.2 true a0_0 l0_1 a1_0 l1_1 bt265.1 bt265.2.1 bt271.1 bt271.2 bt276.1 bt276.2 bt281.1 bt281.2.1))))))))))))) = some r := h
 clear h
 replace H := Option.bind_eq_some_iff.mp H
 obtain ⟨t255, A30, H⟩ := H
 replace H : (if t255 < 0 then (some true) else ((laws_szLaurent.f a1_0 l1_1 t255).bind fun t256 => (if t256 < 0 then (some true) else ((laws_toLaurent.f k a0_0 l0_1).bind fun bt257 => ((laws_toLaurent.f k a1_0 l1_1).bind fun bt261 => ((spec_MultiplyLaurent.f k bt257.1 bt257.2 bt261.1 bt261.2).bind fun bt265 => ((laws_toLaurent.f k a0_0 l0_1).bind fun bt271 => ((laws_toLaurent.f k a1_0 l1_1).bind fun bt276 => ((impl_MultiplyLaurent.f k bt271.1 bt271.2 bt276.1 bt276.2).bind fun bt281 => ((laws_eqLaurent.f k bt281.1 bt281.2.1 bt265.1 bt265.2.1).bind fun t287 => (if t287 = true then (laws_FnExactMultiplyLaurent.j0 k bt265.2.2 bt281.2.2 (bt281.2.2 != bt265.2.2) a0_0 l0_1 a1_0 l1_1 bt265.1 bt265.2.1 bt271.1 bt271.2 bt276.1 bt276.2 bt281.1 bt281.2.1) else (laws_FnExactMultiplyLaurent.j0 k bt265.2.2 bt281.2.2 true a0_0 l0_1 a1_0 l1_1 bt265.1 bt265.2.1 bt271.1 bt271.2 bt276.1 bt276.2 bt281.1 bt281.2.1)))))))))))) = some r := H
 have A3 := am_ A30
 clear A30
 by_cases c4 : t255 < 0
 ·rw [if_pos c4] at H
  have c4b0 : decide (t255 < 0) = true := decide_eq_true c4
  clear c4
  obtain rfl := Option.some.inj H
  go_enter Try.func4, Try.ntmps4
  go_wp2_with (first | ((with_reducible refine gate_dst (N := 2) rfl ?_); refine box_event ?hg (N := 2) ?hd (cs := #[.int .i64 a0_0, .slice A0_1 l0_1.length c0_1]) (t := 24) ?hr ?_; (case hd => rfl); (case hg => rfl); (case hr => first | (go_simp; done) | (go_simp; rfl)); intro gb253 hg w5 hbox hb; have n0_ := am_ (below_step (bb_ HB.out) hb); have n1_ := am_ (hbox); have n2_ := am_ ((by rw [hg]; exact (below_size (bb_ HB.out)) : w.heap.size ≤ gb253)); have n3_ := am_ ((by rw [hg]; exact (below_size (bb_ HB.out)) : w.heap.size ≤ gb253)); clear HB; revert n0_ n1_ n2_ n3_; intro HB BK253 GW253 GE253; clear hb hbox hg) | ((with_reducible refine gate_dst (N := 3) rfl ?_); refine box_event ?hg (N := 3) ?hd (cs := #[.int .i64 a1_0, .slice A1_1 l1_1.length c1_1]) (t := 24) ?hr ?_; (case hd => rfl); (case hg => rfl); (case hr => first | (go_simp; done) | (go_simp; rfl)); intro gb254 hg w6 hbox hb; have n0_ := am_ (bw_ BK253 hb); have n1_ := am_ (below_step (bb_ HB.out) hb); have n2_ := am_ (hbox); have n3_ := am_ ((by rw [hg]; exact (below_size (bb_ HB.out)) : w.heap.size ≤ gb254)); have n4_ := am_ ((by rw [hg]; exact (below_size (bb_ HB.out)) : w.heap.size ≤ gb254)); have n5_ := am_ ((by rw [hg]; exact Nat.ne_of_lt (bl_ BK253) : gb253 ≠ gb254)); have n6_ := am_ ((by rw [hg]; exact Nat.ne_of_gt (bl_ BK253) : gb254 ≠ gb253)); clear BK253 HB; revert n0_ n1_ n2_ n3_ n4_ n5_ n6_; intro BK253 HB BK254 GW254 GE254 NB253_254 NB254_253; clear hb hbox hg; have hnb7 := NB253_254.out; have hnc7 := NB254_253.out; have hcz8_0 : w6.cell? ⟨gb253, 0, none⟩ = some (.int .i64 a0_0) := bc_ BK253 0; have hcz8_1 : w6.cell? ⟨gb253, 1, none⟩ = some (.slice A0_1 l0_1.length c0_1) := bc_ BK253 1; have hfz8_0 := blk_frozen BK253.out 0; have hfz8_1 := blk_frozen BK253.out 1) | ((with_reducible refine gate_callee (f := 5) rfl ?_); refine goesL_ (some 19) rfl rfl Try.func5 (by kernel_rfl) rfl #[.agg #[.int .i64 a0_0, .slice A0_1 l0_1.length c0_1], .int .i64 1048576] rfl lm_ ?_; (with_reducible refine (laws_szLaurent.calls a0_0 _ _ l0_1 1048576 t255 _ ?side1 ?side2 A3.out).mono ?_); (case side1 => repeat (first | exact (Kd.C_below HR0_1.out HB.out) | (with_reducible refine Kd.C_alloc ?_ _) | (with_reducible refine Kd.C_drewN ?_ _) | (with_reducible refine Kd.C_drew ?_))); (case side2 => exact HC0_1.out); rintro e w9 ⟨rfl, hb⟩; refine ⟨_, rfl, ?_⟩; have n0_ := am_ (bw_ BK253 hb); have n1_ := am_ (bw_ BK254 hb); have n2_ := am_ (below_step (bb_ HB.out) hb); clear BK253 BK254 HB; revert n0_ n1_ n2_; intro BK253 BK254 HB; (try clear hb); (try clear hb2); (try clear hk); (try clear hi)))
  go_ret
  exact ⟨by first | rfl | (simp [errW_none, errW_some] <;> rfl) | (simp [*, errW_none, errW_some] <;> rfl), by repeat (first | (with_reducible first | exact HB.out | apply below_alloc | apply pw_below_drewN | apply below_drew1 | refine below_set ?_ GE253.out | refine below_set ?_ GE254.out) | exact HB.out)⟩
 ·rw [if_neg c4] at H
  have c4b0 : decide (t255 < 0) = false := decide_eq_false c4
  clear c4
  replace H := Option.bind_eq_some_iff.mp H
  obtain ⟨t256, A100, H⟩ := H
  replace H : (if t256 < 0 then (some true) else ((laws_toLaurent.f k a0_0 l0_1).bind fun bt257 => ((laws_toLaurent.f k a1_0 l1_1).bind fun bt261 => ((spec_MultiplyLaurent.f k bt257.1 bt257.2 bt261.1 bt261.2).bind fun bt265 => ((laws_toLaurent.f k a0_0 l0_1).bind fun bt271 => ((laws_toLaurent.f k a1_0 l1_1).bind fun bt276 => ((impl_MultiplyLaurent.f k bt271.1 bt271.2 bt276.1 bt276.2).bind fun bt281 => ((laws_eqLaurent.f k bt281.1 bt281.2.1 bt265.1 bt265.2.1).bind fun t287 => (if t287 = true then (laws_FnExactMultiplyLaurent.j0 k bt265.2.2 bt281.2.2 (bt281.2.2 != bt265.2.2) a0_0 l0_1 a1_0 l1_1 bt265.1 bt265.2.1 bt271.1 bt271.2 bt276.1 bt276.2 bt281.1 bt281.2.1) else (laws_FnExactMultiplyLaurent.j0 k bt265.2.2 bt281.2.2 true a0_0 l0_1 a1_0 l1_1 bt265.1 bt265.2.1 bt271.1 bt271.2 bt276.1 bt276.2 bt281.1 bt281.2.1)))))))))) = some r := H
  have A10 := am_ A100
  clear A100
  by_cases c11 : t256 < 0
  ·rw [if_pos c11] at H
   have c11b0 : decide (t256 < 0) = true := decide_eq_true c11
   clear c11
   obtain rfl := Option.some.inj H
   go_enter Try.func4, Try.ntmps4
   go_wp2_with (first | ((with_reducible refine gate_dst (N := 2) rfl ?_); refine box_event ?hg (N := 2) ?hd (cs := #[.int .i64 a0_0, .slice A0_1 l0_1.length c0_1]) (t := 24) ?hr ?_; (case hd => rfl); (case hg => rfl); (case hr => first | (go_simp; done) | (go_simp; rfl)); intro gb253 hg w12 hbox hb; have n0_ := am_ (below_step (bb_ HB.out) hb); have n1_ := am_ (hbox); have n2_ := am_ ((by rw [hg]; exact (below_size (bb_ HB.out)) : w.heap.size ≤ gb253)); have n3_ := am_ ((by rw [hg]; exact (below_size (bb_ HB.out)) : w.heap.size ≤ gb253)); clear HB; revert n0_ n1_ n2_ n3_; intro HB BK253 GW253 GE253; clear hb hbox hg) | ((with_reducible refine gate_dst (N := 3) rfl ?_); refine box_event ?hg (N := 3) ?hd (cs := #[.int .i64 a1_0, .slice A1_1 l1_1.length c1_1]) (t := 24) ?hr ?_; (case hd => rfl); (case hg => rfl); (case hr => first | (go_simp; done) | (go_simp; rfl)); intro gb254 hg w13 hbox hb; have n0_ := am_ (bw_ BK253 hb); have n1_ := am_ (below_step (bb_ HB.out) hb); have n2_ := am_ (hbox); have n3_ := am_ ((by rw [hg]; exact (below_size (bb_ HB.out)) : w.heap.size ≤ gb254)); have n4_ := am_ ((by rw [hg]; exact (below_size (bb_ HB.out)) : w.heap.size ≤ gb254)); have n5_ := am_ ((by rw [hg]; exact Nat.ne_of_lt (bl_ BK253) : gb253 ≠ gb254)); have n6_ := am_ ((by rw [hg]; exact Nat.ne_of_gt (bl_ BK253) : gb254 ≠ gb253)); clear BK253 HB; revert n0_ n1_ n2_ n3_ n4_ n5_ n6_; intro BK253 HB BK254 GW254 GE254 NB253_254 NB254_253; clear hb hbox hg; have hnb14 := NB253_254.out; have hnc14 := NB254_253.out; have hcz15_0 : w13.cell? ⟨gb253, 0, none⟩ = some (.int .i64 a0_0) := bc_ BK253 0; have hcz15_1 : w13.cell? ⟨gb253, 1, none⟩ = some (.slice A0_1 l0_1.length c0_1) := bc_ BK253 1; have hfz15_0 := blk_frozen BK253.out 0; have hfz15_1 := blk_frozen BK253.out 1) | ((with_reducible refine gate_callee (f := 5) rfl ?_); refine goesL_ (some 19) rfl rfl Try.func5 (by kernel_rfl) rfl #[.agg #[.int .i64 a0_0, .slice A0_1 l0_1.length c0_1], .int .i64 1048576] rfl lm_ ?_; (with_reducible refine (laws_szLaurent.calls a0_0 _ _ l0_1 1048576 t255 _ ?side1 ?side2 A3.out).mono ?_); (case side1 => repeat (first | exact (Kd.C_below HR0_1.out HB.out) | (with_reducible refine Kd.C_alloc ?_ _) | (with_reducible refine Kd.C_drewN ?_ _) | (with_reducible refine Kd.C_drew ?_))); (case side2 => exact HC0_1.out); rintro e w16 ⟨rfl, hb⟩; refine ⟨_, rfl, ?_⟩; have n0_ := am_ (bw_ BK253 hb); have n1_ := am_ (bw_ BK254 hb); have n2_ := am_ (below_step (bb_ HB.out) hb); clear BK253 BK254 HB; revert n0_ n1_ n2_; intro BK253 BK254 HB; (try clear hb); (try clear hb2); (try clear hk); (try clear hi); have hcz17_0 : w16.cell? ⟨gb254, 0, none⟩ = some (.int .i64 a1_0) := bc_ BK254 0; have hcz17_1 : w16.cell? ⟨gb254, 1, none⟩ = some (.slice A1_1 l1_1.length c1_1) := bc_ BK254 1; have hfz17_0 := blk_frozen BK254.out 0; have hfz17_1 := blk_frozen BK254.out 1) | ((with_reducible refine gate_callee (f := 5) rfl ?_); refine goesL_ (some 24) rfl rfl Try.func5 (by kernel_rfl) rfl #[.agg #[.int .i64 a1_0, .slice A1_1 l1_1.length c1_1], .int .i64 t255] rfl lm_ ?_; (with_reducible refine (laws_szLaurent.calls a1_0 _ _ l1_1 t255 t256 _ ?side1 ?side2 A10.out).mono ?_); (case side1 => repeat (first | exact (Kd.C_below HR1_1.out HB.out) | (with_reducible refine Kd.C_alloc ?_ _) | (with_reducible refine Kd.C_drewN ?_ _) | (with_reducible refine Kd.C_drew ?_))); (case side2 => exact HC1_1.out); rintro e w18 ⟨rfl, hb⟩; refine ⟨_, rfl, ?_⟩; have n0_ := am_ (bw_ BK253 hb); have n1_ := am_ (bw_ BK254 hb); have n2_ := am_ (below_step (bb_ HB.out) hb); clear BK253 BK254 HB; revert n0_ n1_ n2_; intro BK253 BK254 HB; (try clear hb); (try clear hb2); (try clear hk); (try clear hi)))
   go_ret
   exact ⟨by first | rfl | (simp [errW_none, errW_some] <;> rfl) | (simp [*, errW_none, errW_some] <;> rfl), by repeat (first | (with_reducible first | exact HB.out | apply below_alloc | apply pw_below_drewN | apply below_drew1 | refine below_set ?_ GE253.out | refine below_set ?_ GE254.out) | exact HB.out)⟩
  ·rw [if_neg c11] at H
   have c11b0 : decide (t256 < 0) = false := decide_eq_false c11
   clear c11
   replace H := Option.bind_eq_some_iff.mp H
   obtain ⟨⟨t257, t258⟩, A190, H⟩ := H
   replace H : ((laws_toLaurent.f k a1_0 l1_1).bind fun bt261 => ((spec_MultiplyLaurent.f k t257 t258 bt261.1 bt261.2).bind fun bt265 => ((laws_toLaurent.f k a0_0 l0_1).bind fun bt271 => ((laws_toLaurent.f k a1_0 l1_1).bind fun bt276 => ((impl_MultiplyLaurent.f k bt271.1 bt271.2 bt276.1 bt276.2).bind fun bt281 => ((laws_eqLaurent.f k bt281.1 bt281.2.1 bt265.1 bt265.2.1).bind fun t287 => (if t287 = true then (laws_FnExactMultiplyLaurent.j0 k bt265.2.2 bt281.2.2 (bt281.2.2 != bt265.2.2) a0_0 l0_1 a1_0 l1_1 bt265.1 bt265.2.1 bt271.1 bt271.2 bt276.1 bt276.2 bt281.1 bt281.2.1) else (laws_FnExactMultiplyLaurent.j0 k bt265.2.2 bt281.2.2 true a0_0 l0_1 a1_0 l1_1 bt265.1 bt265.2.1 bt271.1 bt271.2 bt276.1 bt276.2 bt281.1 bt281.2.1)))))))) = some r := H
   have A19 := am_ A190
   clear A190
   replace H := Option.bind_eq_some_iff.mp H
   obtain ⟨⟨t261, t262⟩, A200, H⟩ := H
   replace H : ((spec_MultiplyLaurent.f k t257 t258 t261 t262).bind fun bt265 => ((laws_toLaurent.f k a0_0 l0_1).bind fun bt271 => ((laws_toLaurent.f k a1_0 l1_1).bind fun bt276 => ((impl_MultiplyLaurent.f k bt271.1 bt271.2 bt276.1 bt276.2).bind fun bt281 => ((laws_eqLaurent.f k bt281.1 bt281.2.1 bt265.1 bt265.2.1).bind fun t287 => (if t287 = true then (laws_FnExactMultiplyLaurent.j0 k bt265.2.2 bt281.2.2 (bt281.2.2 != bt265.2.2) a0_0 l0_1 a1_0 l1_1 bt265.1 bt265.2.1 bt271.1 bt271.2 bt276.1 bt276.2 bt281.1 bt281.2.1) else (laws_FnExactMultiplyLaurent.j0 k bt265.2.2 bt281.2.2 true a0_0 l0_1 a1_0 l1_1 bt265.1 bt265.2.1 bt271.1 bt271.2 bt276.1 bt276.2 bt281.1 bt281.2.1))))))) = some r := H
   have A20 := am_ A200
   clear A200
   replace H := Option.bind_eq_some_iff.mp H
   obtain ⟨⟨t265, t266, t269⟩, A210, H⟩ := H
   replace H : ((laws_toLaurent.f k a0_0 l0_1).bind fun bt271 => ((laws_toLaurent.f k a1_0 l1_1).bind fun bt276 => ((impl_MultiplyLaurent.f k bt271.1 bt271.2 bt276.1 bt276.2).bind fun bt281 => ((laws_eqLaurent.f k bt281.1 bt281.2.1 t265 t266).bind fun t287 => (if t287 = true then (laws_FnExactMultiplyLaurent.j0 k t269 bt281.2.2 (bt281.2.2 != t269) a0_0 l0_1 a1_0 l1_1 t265 t266 bt271.1 bt271.2 bt276.1 bt276.2 bt281.1 bt281.2.1) else (laws_FnExactMultiplyLaurent.j0 k t269 bt281.2.2 true a0_0 l0_1 a1_0 l1_1 t265 t266 bt271.1 bt271.2 bt276.1 bt276.2 bt281.1 bt281.2.1)))))) = some r := H
   have A21 := am_ A210
   clear A210
   replace H := Option.bind_eq_some_iff.mp H
   obtain ⟨⟨t271, t272⟩, A220, H⟩ := H
   replace H : ((laws_toLaurent.f k a1_0 l1_1).bind fun bt276 => ((impl_MultiplyLaurent.f k t271 t272 bt276.1 bt276.2).bind fun bt281 => ((laws_eqLaurent.f k bt281.1 bt281.2.1 t265 t266).bind fun t287 => (if t287 = true then (laws_FnExactMultiplyLaurent.j0 k t269 bt281.2.2 (bt281.2.2 != t269) a0_0 l0_1 a1_0 l1_1 t265 t266 t271 t272 bt276.1 bt276.2 bt281.1 bt281.2.1) else (laws_FnExactMultiplyLaurent.j0 k t269 bt281.2.2 true a0_0 l0_1 a1_0 l1_1 t265 t266 t271 t272 bt276.1 bt276.2 bt281.1 bt281.2.1))))) = some r := H
   have A22 := am_ A220
   clear A220
   replace H := Option.bind_eq_some_iff.mp H
   obtain ⟨⟨t276, t277⟩, A230, H⟩ := H
   replace H : ((impl_MultiplyLaurent.f k t271 t272 t276 t277).bind fun bt281 => ((laws_eqLaurent.f k bt281.1 bt281.2.1 t265 t266).bind fun t287 => (if t287 = true then (laws_FnExactMultiplyLaurent.j0 k t269 bt281.2.2 (bt281.2.2 != t269) a0_0 l0_1 a1_0 l1_1 t265 t266 t271 t272 t276 t277 bt281.1 bt281.2.1) else (laws_FnExactMultiplyLaurent.j0 k t269 bt281.2.2 true a0_0 l0_1 a1_0 l1_1 t265 t266 t271 t272 t276 t277 bt281.1 bt281.2.1)))) = some r := H
   have A23 := am_ A230
   clear A230
   replace H := Option.bind_eq_some_iff.mp H
   obtain ⟨⟨t281, t282, t285⟩, A240, H⟩ := H
   replace H : ((laws_eqLaurent.f k t281 t282 t265 t266).bind fun t287 => (if t287 = true then (laws_FnExactMultiplyLaurent.j0 k t269 t285 (t285 != t269) a0_0 l0_1 a1_0 l1_1 t265 t266 t271 t272 t276 t277 t281 t282) else (laws_FnExactMultiplyLaurent.j0 k t269 t285 true a0_0 l0_1 a1_0 l1_1 t265 t266 t271 t272 t276 t277 t281 t282))) = some r := H
   have A24 := am_ A240
   clear A240
   have HC25 := am_ H
   clear H
   go_enter Try.func4, Try.ntmps4
   try go_wp2_with (first | ((with_reducible refine gate_dst (N := 2) rfl ?_); refine box_event ?hg (N := 2) ?hd (cs := #[.int .i64 a0_0, .slice A0_1 l0_1.length c0_1]) (t := 24) ?hr ?_; (case hd => rfl); (case hg => rfl); (case hr => first | (go_simp; done) | (go_simp; rfl)); intro gb253 hg w26 hbox hb; have n0_ := am_ (below_step (bb_ HB.out) hb); have n1_ := am_ (hbox); have n2_ := am_ ((by rw [hg]; exact (below_size (bb_ HB.out)) : w.heap.size ≤ gb253)); have n3_ := am_ ((by rw [hg]; exact (below_size (bb_ HB.out)) : w.heap.size ≤ gb253)); clear HB; revert n0_ n1_ n2_ n3_; intro HB BK253 GW253 GE253; clear hb hbox hg) | ((with_reducible refine gate_dst (N := 3) rfl ?_); refine box_event ?hg (N := 3) ?hd (cs := #[.int .i64 a1_0, .slice A1_1 l1_1.length c1_1]) (t := 24) ?hr ?_; (case hd => rfl); (case hg => rfl); (case hr => first | (go_simp; done) | (go_simp; rfl)); intro gb254 hg w27 hbox hb; have n0_ := am_ (bw_ BK253 hb); have n1_ := am_ (below_step (bb_ HB.out) hb); have n2_ := am_ (hbox); have n3_ := am_ ((by rw [hg]; exact (below_size (bb_ HB.out)) : w.heap.size ≤ gb254)); have n4_ := am_ ((by rw [hg]; exact (below_size (bb_ HB.out)) : w.heap.size ≤ gb254)); have n5_ := am_ ((by rw [hg]; exact Nat.ne_of_lt (bl_ BK253) : gb253 ≠ gb254)); have n6_ := am_ ((by rw [hg]; exact Nat.ne_of_gt (bl_ BK253) : gb254 ≠ gb253)); clear BK253 HB; revert n0_ n1_ n2_ n3_ n4_ n5_ n6_; intro BK253 HB BK254 GW254 GE254 NB253_254 NB254_253; clear hb hbox hg; have hnb28 := NB253_254.out; have hnc28 := NB254_253.out; have hcz29_0 : w27.cell? ⟨gb253, 0, none⟩ = some (.int .i64 a0_0) := bc_ BK253 0; have hcz29_1 : w27.cell? ⟨gb253, 1, none⟩ = some (.slice A0_1 l0_1.length c0_1) := bc_ BK253 1; have hfz29_0 := blk_frozen BK253.out 0; have hfz29_1 := blk_frozen BK253.out 1) | ((with_reducible refine gate_callee (f := 5) rfl ?_); refine goesL_ (some 19) rfl rfl Try.func5 (by kernel_rfl) rfl #[.agg #[.int .i64 a0_0, .slice A0_1 l0_1.length c0_1], .int .i64 1048576] rfl lm_ ?_; (with_reducible refine (laws_szLaurent.calls a0_0 _ _ l0_1 1048576 t255 _ ?side1 ?side2 A3.out).mono ?_); (case side1 => repeat (first | exact (Kd.C_below HR0_1.out HB.out) | (with_reducible refine Kd.C_alloc ?_ _) | (with_reducible refine Kd.C_drewN ?_ _) | (with_reducible refine Kd.C_drew ?_))); (case side2 => exact HC0_1.out); rintro e w30 ⟨rfl, hb⟩; refine ⟨_, rfl, ?_⟩; have n0_ := am_ (bw_ BK253 hb); have n1_ := am_ (bw_ BK254 hb); have n2_ := am_ (below_step (bb_ HB.out) hb); clear BK253 BK254 HB; revert n0_ n1_ n2_; intro BK253 BK254 HB; (try clear hb); (try clear hb2); (try clear hk); (try clear hi); have hcz31_0 : w30.cell? ⟨gb254, 0, none⟩ = some (.int .i64 a1_0) := bc_ BK254 0; have hcz31_1 : w30.cell? ⟨gb254, 1, none⟩ = some (.slice A1_1 l1_1.length c1_1) := bc_ BK254 1; have hfz31_0 := blk_frozen BK254.out 0; have hfz31_1 := blk_frozen BK254.out 1) | ((with_reducible refine gate_callee (f := 5) rfl ?_); refine goesL_ (some 24) rfl rfl Try.func5 (by kernel_rfl) rfl #[.agg #[.int .i64 a1_0, .slice A1_1 l1_1.length c1_1], .int .i64 t255] rfl lm_ ?_; (with_reducible refine (laws_szLaurent.calls a1_0 _ _ l1_1 t255 t256 _ ?side1 ?side2 A10.out).mono ?_); (case side1 => repeat (first | exact (Kd.C_below HR1_1.out HB.out) | (with_reducible refine Kd.C_alloc ?_ _) | (with_reducible refine Kd.C_drewN ?_ _) | (with_reducible refine Kd.C_drew ?_))); (case side2 => exact HC1_1.out); rintro e w32 ⟨rfl, hb⟩; refine ⟨_, rfl, ?_⟩; have n0_ := am_ (bw_ BK253 hb); have n1_ := am_ (bw_ BK254 hb); have n2_ := am_ (below_step (bb_ HB.out) hb); clear BK253 BK254 HB; revert n0_ n1_ n2_; intro BK253 BK254 HB; (try clear hb); (try clear hb2); (try clear hk); (try clear hi)))
   have n0_ := am_ (blk_drew BK253.out)
   have n1_ := am_ (blk_drew BK254.out)
   have n2_ := am_ (below_drew1 HB.out)
   clear BK253 BK254 HB; revert n0_ n1_ n2_; intro BK253 BK254 HB
   refine start_ (n := 11) (S := fun w' => w'.cell? ⟨gb253, 0, none⟩ = some (.int .i64 a0_0) ∧ w'.cell? ⟨gb253, 1, none⟩ = some (.slice A0_1 l0_1.length c0_1) ∧ w'.cell? ⟨gb254, 0, none⟩ = some (.int .i64 a1_0) ∧ w'.cell? ⟨gb254, 1, none⟩ = some (.slice A1_1 l1_1.length c1_1)) (ds := []) #[false, false, false, false, false, false, false, false, false, false, false] (by kernel_rfl) rfl rfl ⟨bc_ BK253 0, bc_ BK253 1, bc_ BK254 0, bc_ BK254 1⟩ (fun hHeld => ?_); refine with_tabW laws_FnExactMultiplyLaurent.tab8 laws_FnExactMultiplyLaurent.bits8 (fun HT_ HW_ => ?_)
   generalize w32.drew = w33 at BK253 BK254 HB hHeld ⊢
   refine take_ (i := 0) (N := some 28) (v := ?_) (a' := ?_) #[true, false, false, false, false, false, false, false, false, false, false] rfl rfl (take_ofW HT_.out HW_.out (by kernel_rfl)) (fun _ _ _ h => h) (Or.inl ⟨by rfl, ?_⟩) hHeld ?_ ?_
   rotate_left
   ·rintro w' ⟨s0, s1, s2, s3⟩
    go_simp
    with_reducible rfl
   rotate_left
   ·simp only [Act.put, List.setIfInBounds_toArray, List.set_cons_zero, List.set_cons_succ, i64_w, i32_w]
    rfl
   refine take_ (i := 2) (N := some 30) (v := ?_) (a' := ?_) #[true, false, true, false, false, false, false, false, false, false, false] rfl rfl (take_ofW HT_.out HW_.out (by kernel_rfl)) (fun _ _ _ h => h) (Or.inl ⟨by rfl, ?_⟩) hHeld ?_ ?_
   rotate_left
   ·rintro w' ⟨s0, s1, s2, s3⟩
    go_simp
    with_reducible rfl
   rotate_left
   ·simp only [Act.put, List.setIfInBounds_toArray, List.set_cons_zero, List.set_cons_succ, i64_w, i32_w]
    rfl
   refine join_ (σ := Value × Value × Value × Nat) 2 #[true, true, true, true, true, true, true, true, true, false, false] (fun s_ => [(29, .agg #[.int .i64 t257, s_.1]), (31, .agg #[.int .i64 t261, s_.2.1]), (32, .tuple #[.agg #[.int .i64 t265, s_.2.2.1], .int .i64 t269]), (6, .pointer (some ⟨s_.2.2.2, 0, none⟩)), (27, .tuple #[.agg #[.int .i64 t265, s_.2.2.1], .int .i64 t269]), (33, .agg #[.int .i64 t265, s_.2.2.1]), (34, .int .i64 t269)]) (fun s_ w' => (w'.cell? ⟨gb253, 0, none⟩ = some (.int .i64 a0_0) ∧ w'.cell? ⟨gb253, 1, none⟩ = some (.slice A0_1 l0_1.length c0_1) ∧ w'.cell? ⟨gb254, 0, none⟩ = some (.int .i64 a1_0) ∧ w'.cell? ⟨gb254, 1, none⟩ = some (.slice A1_1 l1_1.length c1_1)) ∧ (Kd.R (Kd.int .i64) 2 w' w.heap.size (fun k_ => some k_ ≠ (s_.2.1 : Value).ownBlock ∧ some k_ ≠ (s_.2.2.1 : Value).ownBlock) s_.1 t258) ∧ (Kd.R (Kd.int .i64) 2 w' w.heap.size (fun k_ => some k_ ≠ (s_.1 : Value).ownBlock ∧ some k_ ≠ (s_.2.2.1 : Value).ownBlock) s_.2.1 t262) ∧ (Kd.R (Kd.int .i64) 2 w' w.heap.size (fun k_ => some k_ ≠ (s_.1 : Value).ownBlock ∧ some k_ ≠ (s_.2.1 : Value).ownBlock) s_.2.2.1 t266) ∧ (w'.heap[gb253]? = some (.cells #[.int .i64 a0_0, .slice A0_1 l0_1.length c0_1] 24 (0, 0))) ∧ (w'.heap[gb254]? = some (.cells #[.int .i64 a1_0, .slice A1_1 l1_1.length c1_1] 24 (0, 0))) ∧ (w'.heap[s_.2.2.2]? = some (.cells #[.int .i64 0, .slice none 0 0] 26 (0, 0))) ∧ (w.heap.size ≤ s_.2.2.2) ∧ (w.heap.size ≤ s_.2.2.2) ∧ (gb253 ≠ s_.2.2.2) ∧ (s_.2.2.2 ≠ gb253) ∧ (gb254 ≠ s_.2.2.2) ∧ (s_.2.2.2 ≠ gb254) ∧ (Below w.heap.size w w')) ?_ ?_
   rotate_left
   ·intro hCont
    refine two_ (i := 1) (j := 8) (Ni := some 29) (Nj := some 6) #[true, true, true, false, false, false, false, false, false, false, false] #[true, false, true, false, false, false, false, false, true, false, false] rfl rfl rfl rfl (two_of HT_.out (by kernel_rfl)) (by decide) (by decide) (fun K hK => ?_) (fun K hK => ?_)
    ·skip
     refine goes_ Try.func7 (by kernel_rfl) rfl #[.agg #[.int .i64 a0_0, .slice A0_1 l0_1.length c0_1]] (by rfl) rfl rfl lm_ ?_
     with_reducible refine (laws_toLaurent.calls k a0_0 _ _ l0_1 t257 t258 _ ?side1 ?side2 A19.out).mono ?_
     (case side1 => repeat (first | exact (Kd.C_below HR0_1.out HB.out) | (with_reducible refine Kd.C_alloc ?_ _) | (with_reducible refine Kd.C_drewN ?_ _) | (with_reducible refine Kd.C_drew ?_)))
     (case side2 => exact HC0_1.out)
     rintro e w34 ⟨v259, rfl, ho0, hb⟩
     refine ⟨_, rfl, ?_⟩
     have n0_ := am_ (Kd.R_lower ho0 (below_size (bb_ HB.out)))
     have n1_ := am_ (bw_ BK253 hb)
     have n2_ := am_ (bw_ BK254 hb)
     have n3_ := am_ (below_step (bb_ HB.out) hb)
     clear BK253 BK254 HB; revert n0_ n1_ n2_ n3_; intro HO260 BK253 BK254 HB
     (try clear hb)
     (try clear hb2)
     (try clear hk)
     (try clear hi)
     (try clear ho0)
     refine hK.out _ _ ⟨bc_ BK253 0, bc_ BK253 1, bc_ BK254 0, bc_ BK254 1⟩ (fun hHeld => ?_)
     clear hK K
     refine norm_ (a' := ?_) ?_ ?_
     rotate_left
     ·show Act.put _ (some 29) _ = _
      simp only [Act.put, List.setIfInBounds_toArray, List.set_cons_zero, List.set_cons_succ, i64_w, i32_w]
      rfl
     refine two_ (i := 3) (j := 8) (Ni := some 31) (Nj := some 6) #[true, true, true, true, false, false, false, false, false, false, false] #[true, true, true, false, false, false, false, false, true, false, false] rfl rfl rfl rfl (two_of HT_.out (by kernel_rfl)) (by decide) (by decide) (fun K hK => ?_) (fun K hK => ?_)
     ·skip
      refine goes_ Try.func7 (by kernel_rfl) rfl #[.agg #[.int .i64 a1_0, .slice A1_1 l1_1.length c1_1]] (by rfl) rfl rfl lm_ ?_
      with_reducible refine (laws_toLaurent.calls k a1_0 _ _ l1_1 t261 t262 _ ?side1 ?side2 A20.out).mono ?_
      (case side1 => repeat (first | exact (Kd.C_below HR1_1.out HB.out) | (with_reducible refine Kd.C_alloc ?_ _) | (with_reducible refine Kd.C_drewN ?_ _) | (with_reducible refine Kd.C_drew ?_)))
      (case side2 => exact HC1_1.out)
      rintro e w35 ⟨v263, rfl, ho0, hb⟩
      refine ⟨_, rfl, ?_⟩
      have n0_ := am_ (Kd.R_elder' (rk_ HO260.out) (Kd.R_base ho0) hb)
      have n1_ := am_ (Kd.R_lower (Kd.R_new' ho0 (Kd.R_lt (rk_ HO260.out))) (below_size (bb_ HB.out)))
      have n2_ := am_ (bw_ BK253 hb)
      have n3_ := am_ (bw_ BK254 hb)
      have n4_ := am_ (below_step (bb_ HB.out) hb)
      clear HO260 BK253 BK254 HB; revert n0_ n1_ n2_ n3_ n4_; intro HO260 HO264 BK253 BK254 HB
      (try clear hb)
      (try clear hb2)
      (try clear hk)
      (try clear hi)
      (try clear ho0)
      obtain ⟨Ao36, co36, eo36⟩ := Kd.R_slice HO260.out
      (first | subst eo36 | (injection eo36 with f1_ f2_ f3_; have f4_ := f1_.symm; have f5_ := f3_.symm; clear f1_ f2_ f3_; subst f4_; subst f5_))
      obtain ⟨Ao37, co37, eo37⟩ := Kd.R_slice HO264.out
      (first | subst eo37 | (injection eo37 with f1_ f2_ f3_; have f4_ := f1_.symm; have f5_ := f3_.symm; clear f1_ f2_ f3_; subst f4_; subst f5_))
      refine hK.out _ _ ⟨bc_ BK253 0, bc_ BK253 1, bc_ BK254 0, bc_ BK254 1⟩ (fun hHeld => ?_)
      clear hK K
      refine norm_ (a' := ?_) ?_ ?_
      rotate_left
      ·show Act.put _ (some 31) _ = _
       simp only [Act.put, List.setIfInBounds_toArray, List.set_cons_zero, List.set_cons_succ, i64_w, i32_w]
       rfl
      refine two_ (i := 4) (j := 8) (Ni := some 32) (Nj := some 6) #[true, true, true, true, true, false, false, false, false, false, false] #[true, true, true, true, false, false, false, false, true, false, false] rfl rfl rfl rfl (two_of HT_.out (by kernel_rfl)) (by decide) (by decide) (fun K hK => ?_) (fun K hK => ?_)
      ·skip
       refine goes_ Try.func12 (by kernel_rfl) rfl #[.agg #[.int .i64 t257, .slice Ao36 t258.length co36], .agg #[.int .i64 t261, .slice Ao37 t262.length co37]] (by rfl) rfl rfl lm_ ?_
       with_reducible refine (spec_MultiplyLaurent.calls k t257 _ _ t258 t261 _ _ t262 t265 t266 t269 _ ?side1 ?side2 ?side3 ?side4 A21.out).mono ?_
       (case side1 => repeat (first | exact (Kd.R_reads' HO260.out).2.2 | (with_reducible refine Kd.C_alloc ?_ _) | (with_reducible refine Kd.C_drewN ?_ _) | (with_reducible refine Kd.C_drew ?_)))
       (case side2 => exact (Kd.R_reads' HO260.out).2.1)
       (case side3 => repeat (first | exact (Kd.R_reads' HO264.out).2.2 | (with_reducible refine Kd.C_alloc ?_ _) | (with_reducible refine Kd.C_drewN ?_ _) | (with_reducible refine Kd.C_drew ?_)))
       (case side4 => exact (Kd.R_reads' HO264.out).2.1)
       rintro e w38 ⟨v267, rfl, ho0, hb⟩
       refine ⟨_, rfl, ?_⟩
       have n0_ := am_ (Kd.R_elder' (rk_ HO260.out) (Kd.R_base ho0) hb)
       have n1_ := am_ (Kd.R_elder' (rk_ HO264.out) (Kd.R_base ho0) hb)
       have n2_ := am_ (Kd.R_lower (Kd.R_new' (Kd.R_new' ho0 (Kd.R_lt (rk_ HO260.out))) (Kd.R_lt (rk_ HO264.out))) (below_size (bb_ HB.out)))
       have n3_ := am_ (bw_ BK253 hb)
       have n4_ := am_ (bw_ BK254 hb)
       have n5_ := am_ (below_step (bb_ HB.out) hb)
       clear HO260 HO264 BK253 BK254 HB; revert n0_ n1_ n2_ n3_ n4_ n5_; intro HO260 HO264 HO268 BK253 BK254 HB
       (try clear hb)
       (try clear hb2)
       (try clear hk)
       (try clear hi)
       (try clear ho0)
       refine hK.out _ _ ⟨bc_ BK253 0, bc_ BK253 1, bc_ BK254 0, bc_ BK254 1⟩ (fun hHeld => ?_)
       clear hK K
       refine norm_ (a' := ?_) ?_ ?_
       rotate_left
       ·show Act.put _ (some 32) _ = _
        simp only [Act.put, List.setIfInBounds_toArray, List.set_cons_zero, List.set_cons_succ, i64_w, i32_w]
        rfl
       refine pure_ (i := 5) (N := some 27) (v := ?_) (a' := ?_) #[true, true, true, true, true, true, false, false, false, false, false] rfl rfl (any_of HT_.out (by kernel_rfl)) (fun _ _ _ h => h) (Or.inl ⟨by rfl, ?_⟩) ?_ ?_
       rotate_left
       ·intro w'
        go_simp
        with_reducible rfl
       rotate_left
       ·simp only [Act.put, List.setIfInBounds_toArray, List.set_cons_zero, List.set_cons_succ, i64_w, i32_w]
        rfl
       refine pure_ (i := 6) (N := some 33) (v := ?_) (a' := ?_) #[true, true, true, true, true, true, true, false, false, false, false] rfl rfl (any_of HT_.out (by kernel_rfl)) (fun _ _ _ h => h) (Or.inl ⟨by rfl, ?_⟩) ?_ ?_
       rotate_left
       ·intro w'
        go_simp
        with_reducible rfl
       rotate_left
       ·simp only [Act.put, List.setIfInBounds_toArray, List.set_cons_zero, List.set_cons_succ, i64_w, i32_w]
        rfl
       refine pure_ (i := 7) (N := some 34) (v := ?_) (a' := ?_) #[true, true, true, true, true, true, true, true, false, false, false] rfl rfl (any_of HT_.out (by kernel_rfl)) (fun _ _ _ h => h) (Or.inl ⟨by rfl, ?_⟩) ?_ ?_
       rotate_left
       ·intro w'
        go_simp
        with_reducible rfl
       rotate_left
       ·simp only [Act.put, List.setIfInBounds_toArray, List.set_cons_zero, List.set_cons_succ, i64_w, i32_w]
        rfl
       refine one_ (i := 8) (N := some 6) #[true, true, true, true, true, true, true, true, true, false, false] rfl rfl (one_of HT_.out (by kernel_rfl)) (by decide) (fun K hK => ?_)
       refine box_step ?hg (N := 6) ?hd (cs := #[.int .i64 0, .slice none 0 0]) (t := 26) ?hr ?_; (case hd => rfl); (case hg => rfl); (case hr => first | (go_simp; done) | (go_simp; rfl))
       intro gb270 hg w39 hbox hb
       have n0_ := am_ (Kd.R_below (rk_ HO260.out) hb)
       have n1_ := am_ (Kd.R_below (rk_ HO264.out) hb)
       have n2_ := am_ (Kd.R_below (rk_ HO268.out) hb)
       have n3_ := am_ (bw_ BK253 hb)
       have n4_ := am_ (bw_ BK254 hb)
       have n5_ := am_ (below_step (bb_ HB.out) hb)
       have n6_ := am_ (hbox)
       have n7_ := am_ ((by rw [hg]; exact (below_size (bb_ HB.out)) : w.heap.size ≤ gb270))
       have n8_ := am_ ((by rw [hg]; exact (below_size (bb_ HB.out)) : w.heap.size ≤ gb270))
       have n9_ := am_ ((by rw [hg]; exact Nat.ne_of_lt (bl_ BK253) : gb253 ≠ gb270))
       have n10_ := am_ ((by rw [hg]; exact Nat.ne_of_gt (bl_ BK253) : gb270 ≠ gb253))
       have n11_ := am_ ((by rw [hg]; exact Nat.ne_of_lt (bl_ BK254) : gb254 ≠ gb270))
       have n12_ := am_ ((by rw [hg]; exact Nat.ne_of_gt (bl_ BK254) : gb270 ≠ gb254))
       clear HO260 HO264 HO268 BK253 BK254 HB; revert n0_ n1_ n2_ n3_ n4_ n5_ n6_ n7_ n8_ n9_ n10_ n11_ n12_; intro HO260 HO264 HO268 BK253 BK254 HB BK270 GW270 GE270 NB253_270 NB270_253 NB254_270 NB270_254
       clear hb hbox hg
       refine hK.out _ _ ⟨bc_ BK253 0, bc_ BK253 1, bc_ BK254 0, bc_ BK254 1⟩ (fun hHeld => ?_)
       clear hK K
       refine norm_ (a' := ?_) ?_ ?_
       rotate_left
       ·show Act.put _ (some 6) _ = _
        simp only [Act.put, List.setIfInBounds_toArray, List.set_cons_zero, List.set_cons_succ, i64_w, i32_w]
        rfl
       exact norm_ (by simp only [putAll, Act.put, List.setIfInBounds_toArray, List.set_cons_zero, List.set_cons_succ]) (hCont (.slice Ao36 t258.length co36, .slice Ao37 t262.length co37, v267, gb270) _ ⟨hHeld, (rm_ HO260.out (fun _ hk => by first | exact ⟨hk.1.2, hk.2⟩ | simp only [hk, and_self, ne_eq, not_false_eq_true, true_and, and_true])), (rm_ HO264.out (fun _ hk => by first | exact ⟨hk.1.2, hk.2⟩ | simp only [hk, and_self, ne_eq, not_false_eq_true, true_and, and_true])), (rm_ HO268.out (fun _ hk => by first | exact ⟨hk.1.2, hk.2⟩ | simp only [hk, and_self, ne_eq, not_false_eq_true, true_and, and_true])), (bk_ BK253.out), (bk_ BK254.out), (bk_ BK270.out), GW270.out, GE270.out, NB253_270.out, NB270_253.out, NB254_270.out, NB270_254.out, (bb_ HB.out)⟩)
      ·skip
       refine box_step ?hg (N := 6) ?hd (cs := #[.int .i64 0, .slice none 0 0]) (t := 26) ?hr ?_; (case hd => rfl); (case hg => rfl); (case hr => first | (go_simp; done) | (go_simp; rfl))
       intro gb270 hg w36 hbox hb
       have n0_ := am_ (Kd.R_below (rk_ HO260.out) hb)
       have n1_ := am_ (Kd.R_below (rk_ HO264.out) hb)
       have n2_ := am_ (bw_ BK253 hb)
       have n3_ := am_ (bw_ BK254 hb)
       have n4_ := am_ (below_step (bb_ HB.out) hb)
       have n5_ := am_ (hbox)
       have n6_ := am_ ((by rw [hg]; exact (below_size (bb_ HB.out)) : w.heap.size ≤ gb270))
       have n7_ := am_ ((by rw [hg]; exact (below_size (bb_ HB.out)) : w.heap.size ≤ gb270))
       have n8_ := am_ ((by rw [hg]; exact Nat.ne_of_lt (bl_ BK253) : gb253 ≠ gb270))
       have n9_ := am_ ((by rw [hg]; exact Nat.ne_of_gt (bl_ BK253) : gb270 ≠ gb253))
       have n10_ := am_ ((by rw [hg]; exact Nat.ne_of_lt (bl_ BK254) : gb254 ≠ gb270))
       have n11_ := am_ ((by rw [hg]; exact Nat.ne_of_gt (bl_ BK254) : gb270 ≠ gb254))
       clear HO260 HO264 BK253 BK254 HB; revert n0_ n1_ n2_ n3_ n4_ n5_ n6_ n7_ n8_ n9_ n10_ n11_; intro HO260 HO264 BK253 BK254 HB BK270 GW270 GE270 NB253_270 NB270_253 NB254_270 NB270_254
       clear hb hbox hg
       obtain ⟨Ao37, co37, eo37⟩ := Kd.R_slice HO260.out
       (first | subst eo37 | (injection eo37 with f1_ f2_ f3_; have f4_ := f1_.symm; have f5_ := f3_.symm; clear f1_ f2_ f3_; subst f4_; subst f5_))
       obtain ⟨Ao38, co38, eo38⟩ := Kd.R_slice HO264.out
       (first | subst eo38 | (injection eo38 with f1_ f2_ f3_; have f4_ := f1_.symm; have f5_ := f3_.symm; clear f1_ f2_ f3_; subst f4_; subst f5_))
       refine hK.out _ _ ⟨bc_ BK253 0, bc_ BK253 1, bc_ BK254 0, bc_ BK254 1⟩ (fun hHeld => ?_)
       clear hK K
       refine norm_ (a' := ?_) ?_ ?_
       rotate_left
       ·show Act.put _ (some 6) _ = _
        simp only [Act.put, List.setIfInBounds_toArray, List.set_cons_zero, List.set_cons_succ, i64_w, i32_w]
        rfl
       refine one_ (i := 4) (N := some 32) #[true, true, true, true, true, false, false, false, true, false, false] rfl rfl (one_of HT_.out (by kernel_rfl)) (by decide) (fun K hK => ?_)
       refine goes_ Try.func12 (by kernel_rfl) rfl #[.agg #[.int .i64 t257, .slice Ao37 t258.length co37], .agg #[.int .i64 t261, .slice Ao38 t262.length co38]] (by rfl) rfl rfl lm_ ?_
       with_reducible refine (spec_MultiplyLaurent.calls k t257 _ _ t258 t261 _ _ t262 t265 t266 t269 _ ?side1 ?side2 ?side3 ?side4 A21.out).mono ?_
       (case side1 => repeat (first | exact (Kd.R_reads' HO260.out).2.2 | (with_reducible refine Kd.C_alloc ?_ _) | (with_reducible refine Kd.C_drewN ?_ _) | (with_reducible refine Kd.C_drew ?_)))
       (case side2 => exact (Kd.R_reads' HO260.out).2.1)
       (case side3 => repeat (first | exact (Kd.R_reads' HO264.out).2.2 | (with_reducible refine Kd.C_alloc ?_ _) | (with_reducible refine Kd.C_drewN ?_ _) | (with_reducible refine Kd.C_drew ?_)))
       (case side4 => exact (Kd.R_reads' HO264.out).2.1)
       rintro e w39 ⟨v267, rfl, ho0, hb⟩
       refine ⟨_, rfl, ?_⟩
       have n0_ := am_ (Kd.R_elder' (rk_ HO260.out) (Kd.R_base ho0) hb)
       have n1_ := am_ (Kd.R_elder' (rk_ HO264.out) (Kd.R_base ho0) hb)
       have n2_ := am_ (Kd.R_lower (Kd.R_new' (Kd.R_new' ho0 (Kd.R_lt (rk_ HO260.out))) (Kd.R_lt (rk_ HO264.out))) (below_size (bb_ HB.out)))
       have n3_ := am_ (bw_ BK253 hb)
       have n4_ := am_ (bw_ BK254 hb)
       have n5_ := am_ (bw_ BK270 hb)
       have n6_ := am_ (below_step (bb_ HB.out) hb)
       clear HO260 HO264 BK253 BK254 BK270 HB; revert n0_ n1_ n2_ n3_ n4_ n5_ n6_; intro HO260 HO264 HO268 BK253 BK254 BK270 HB
       (try clear hb)
       (try clear hb2)
       (try clear hk)
       (try clear hi)
       (try clear ho0)
       refine hK.out _ _ ⟨bc_ BK253 0, bc_ BK253 1, bc_ BK254 0, bc_ BK254 1⟩ (fun hHeld => ?_)
       clear hK K
       refine norm_ (a' := ?_) ?_ ?_
       rotate_left
       ·show Act.put _ (some 32) _ = _
        simp only [Act.put, List.setIfInBounds_toArray, List.set_cons_zero, List.set_cons_succ, i64_w, i32_w]
        rfl
       refine pure_ (i := 5) (N := some 27) (v := ?_) (a' := ?_) #[true, true, true, true, true, true, false, false, true, false, false] rfl rfl (any_of HT_.out (by kernel_rfl)) (fun _ _ _ h => h) (Or.inl ⟨by rfl, ?_⟩) ?_ ?_
       rotate_left
       ·intro w'
        go_simp
        with_reducible rfl
       rotate_left
       ·simp only [Act.put, List.setIfInBounds_toArray, List.set_cons_zero, List.set_cons_succ, i64_w, i32_w]
        rfl
       refine pure_ (i := 6) (N := some 33) (v := ?_) (a' := ?_) #[true, true, true, true, true, true, true, false, true, false, false] rfl rfl (any_of HT_.out (by kernel_rfl)) (fun _ _ _ h => h) (Or.inl ⟨by rfl, ?_⟩) ?_ ?_
       rotate_left
       ·intro w'
        go_simp
        with_reducible rfl
       rotate_left
       ·simp only [Act.put, List.setIfInBounds_toArray, List.set_cons_zero, List.set_cons_succ, i64_w, i32_w]
        rfl
       refine pure_ (i := 7) (N := some 34) (v := ?_) (a' := ?_) #[true, true, true, true, true, true, true, true, true, false, false] rfl rfl (any_of HT_.out (by kernel_rfl)) (fun _ _ _ h => h) (Or.inl ⟨by rfl, ?_⟩) ?_ ?_
       rotate_left
       ·intro w'
        go_simp
        with_reducible rfl
       rotate_left
       ·simp only [Act.put, List.setIfInBounds_toArray, List.set_cons_zero, List.set_cons_succ, i64_w, i32_w]
        rfl
       exact norm_ (by simp only [putAll, Act.put, List.setIfInBounds_toArray, List.set_cons_zero, List.set_cons_succ]) (hCont (.slice Ao37 t258.length co37, .slice Ao38 t262.length co38, v267, gb270) _ ⟨hHeld, (rm_ HO260.out (fun _ hk => by first | exact ⟨hk.1.2, hk.2⟩ | simp only [hk, and_self, ne_eq, not_false_eq_true, true_and, and_true])), (rm_ HO264.out (fun _ hk => by first | exact ⟨hk.1.2, hk.2⟩ | simp only [hk, and_self, ne_eq, not_false_eq_true, true_and, and_true])), (rm_ HO268.out (fun _ hk => by first | exact ⟨hk.1.2, hk.2⟩ | simp only [hk, and_self, ne_eq, not_false_eq_true, true_and, and_true])), (bk_ BK253.out), (bk_ BK254.out), (bk_ BK270.out), GW270.out, GE270.out, NB253_270.out, NB270_253.out, NB254_270.out, NB270_254.out, (bb_ HB.out)⟩)
     ·skip
      refine box_step ?hg (N := 6) ?hd (cs := #[.int .i64 0, .slice none 0 0]) (t := 26) ?hr ?_; (case hd => rfl); (case hg => rfl); (case hr => first | (go_simp; done) | (go_simp; rfl))
      intro gb270 hg w35 hbox hb
      have n0_ := am_ (Kd.R_below (rk_ HO260.out) hb)
      have n1_ := am_ (bw_ BK253 hb)
      have n2_ := am_ (bw_ BK254 hb)
      have n3_ := am_ (below_step (bb_ HB.out) hb)
      have n4_ := am_ (hbox)
      have n5_ := am_ ((by rw [hg]; exact (below_size (bb_ HB.out)) : w.heap.size ≤ gb270))
      have n6_ := am_ ((by rw [hg]; exact (below_size (bb_ HB.out)) : w.heap.size ≤ gb270))
      have n7_ := am_ ((by rw [hg]; exact Nat.ne_of_lt (bl_ BK253) : gb253 ≠ gb270))
      have n8_ := am_ ((by rw [hg]; exact Nat.ne_of_gt (bl_ BK253) : gb270 ≠ gb253))
      have n9_ := am_ ((by rw [hg]; exact Nat.ne_of_lt (bl_ BK254) : gb254 ≠ gb270))
      have n10_ := am_ ((by rw [hg]; exact Nat.ne_of_gt (bl_ BK254) : gb270 ≠ gb254))
      clear HO260 BK253 BK254 HB; revert n0_ n1_ n2_ n3_ n4_ n5_ n6_ n7_ n8_ n9_ n10_; intro HO260 BK253 BK254 HB BK270 GW270 GE270 NB253_270 NB270_253 NB254_270 NB270_254
      clear hb hbox hg
      refine hK.out _ _ ⟨bc_ BK253 0, bc_ BK253 1, bc_ BK254 0, bc_ BK254 1⟩ (fun hHeld => ?_)
      clear hK K
      refine norm_ (a' := ?_) ?_ ?_
      rotate_left
      ·show Act.put _ (some 6) _ = _
       simp only [Act.put, List.setIfInBounds_toArray, List.set_cons_zero, List.set_cons_succ, i64_w, i32_w]
       rfl
      refine one_ (i := 3) (N := some 31) #[true, true, true, true, false, false, false, false, true, false, false] rfl rfl (one_of HT_.out (by kernel_rfl)) (by decide) (fun K hK => ?_)
      refine goes_ Try.func7 (by kernel_rfl) rfl #[.agg #[.int .i64 a1_0, .slice A1_1 l1_1.length c1_1]] (by rfl) rfl rfl lm_ ?_
      with_reducible refine (laws_toLaurent.calls k a1_0 _ _ l1_1 t261 t262 _ ?side1 ?side2 A20.out).mono ?_
      (case side1 => repeat (first | exact (Kd.C_below HR1_1.out HB.out) | (with_reducible refine Kd.C_alloc ?_ _) | (with_reducible refine Kd.C_drewN ?_ _) | (with_reducible refine Kd.C_drew ?_)))
      (case side2 => exact HC1_1.out)
      rintro e w36 ⟨v263, rfl, ho0, hb⟩
      refine ⟨_, rfl, ?_⟩
      have n0_ := am_ (Kd.R_elder' (rk_ HO260.out) (Kd.R_base ho0) hb)
      have n1_ := am_ (Kd.R_lower (Kd.R_new' ho0 (Kd.R_lt (rk_ HO260.out))) (below_size (bb_ HB.out)))
      have n2_ := am_ (bw_ BK253 hb)
      have n3_ := am_ (bw_ BK254 hb)
      have n4_ := am_ (bw_ BK270 hb)
      have n5_ := am_ (below_step (bb_ HB.out) hb)
      clear HO260 BK253 BK254 BK270 HB; revert n0_ n1_ n2_ n3_ n4_ n5_; intro HO260 HO264 BK253 BK254 BK270 HB
      (try clear hb)
      (try clear hb2)
      (try clear hk)
      (try clear hi)
      (try clear ho0)
      obtain ⟨Ao37, co37, eo37⟩ := Kd.R_slice HO260.out
      (first | subst eo37 | (injection eo37 with f1_ f2_ f3_; have f4_ := f1_.symm; have f5_ := f3_.symm; clear f1_ f2_ f3_; subst f4_; subst f5_))
      obtain ⟨Ao38, co38, eo38⟩ := Kd.R_slice HO264.out
      (first | subst eo38 | (injection eo38 with f1_ f2_ f3_; have f4_ := f1_.symm; have f5_ := f3_.symm; clear f1_ f2_ f3_; subst f4_; subst f5_))
      refine hK.out _ _ ⟨bc_ BK253 0, bc_ BK253 1, bc_ BK254 0, bc_ BK254 1⟩ (fun hHeld => ?_)
      clear hK K
      refine norm_ (a' := ?_) ?_ ?_
      rotate_left
      ·show Act.put _ (some 31) _ = _
       simp only [Act.put, List.setIfInBounds_toArray, List.set_cons_zero, List.set_cons_succ, i64_w, i32_w]
       rfl
      refine one_ (i := 4) (N := some 32) #[true, true, true, true, true, false, false, false, true, false, false] rfl rfl (one_of HT_.out (by kernel_rfl)) (by decide) (fun K hK => ?_)
      refine goes_ Try.func12 (by kernel_rfl) rfl #[.agg #[.int .i64 t257, .slice Ao37 t258.length co37], .agg #[.int .i64 t261, .slice Ao38 t262.length co38]] (by rfl) rfl rfl lm_ ?_
      with_reducible refine (spec_MultiplyLaurent.calls k t257 _ _ t258 t261 _ _ t262 t265 t266 t269 _ ?side1 ?side2 ?side3 ?side4 A21.out).mono ?_
      (case side1 => repeat (first | exact (Kd.R_reads' HO260.out).2.2 | (with_reducible refine Kd.C_alloc ?_ _) | (with_reducible refine Kd.C_drewN ?_ _) | (with_reducible refine Kd.C_drew ?_)))
      (case side2 => exact (Kd.R_reads' HO260.out).2.1)
      (case side3 => repeat (first | exact (Kd.R_reads' HO264.out).2.2 | (with_reducible refine Kd.C_alloc ?_ _) | (with_reducible refine Kd.C_drewN ?_ _) | (with_reducible refine Kd.C_drew ?_)))
      (case side4 => exact (Kd.R_reads' HO264.out).2.1)
      rintro e w39 ⟨v267, rfl, ho0, hb⟩
      refine ⟨_, rfl, ?_⟩
      have n0_ := am_ (Kd.R_elder' (rk_ HO260.out) (Kd.R_base ho0) hb)
      have n1_ := am_ (Kd.R_elder' (rk_ HO264.out) (Kd.R_base ho0) hb)
      have n2_ := am_ (Kd.R_lower (Kd.R_new' (Kd.R_new' ho0 (Kd.R_lt (rk_ HO260.out))) (Kd.R_lt (rk_ HO264.out))) (below_size (bb_ HB.out)))
      have n3_ := am_ (bw_ BK253 hb)
      have n4_ := am_ (bw_ BK254 hb)
      have n5_ := am_ (bw_ BK270 hb)
      have n6_ := am_ (below_step (bb_ HB.out) hb)
      clear HO260 HO264 BK253 BK254 BK270 HB; revert n0_ n1_ n2_ n3_ n4_ n5_ n6_; intro HO260 HO264 HO268 BK253 BK254 BK270 HB
      (try clear hb)
      (try clear hb2)
      (try clear hk)
      (try clear hi)
      (try clear ho0)
      refine hK.out _ _ ⟨bc_ BK253 0, bc_ BK253 1, bc_ BK254 0, bc_ BK254 1⟩ (fun hHeld => ?_)
      clear hK K
      refine norm_ (a' := ?_) ?_ ?_
      rotate_left
      ·show Act.put _ (some 32) _ = _
       simp only [Act.put, List.setIfInBounds_toArray, List.set_cons_zero, List.set_cons_succ, i64_w, i32_w]
       rfl
      refine pure_ (i := 5) (N := some 27) (v := ?_) (a' := ?_) #[true, true, true, true, true, true, false, false, true, false, false] rfl rfl (any_of HT_.out (by kernel_rfl)) (fun _ _ _ h => h) (Or.inl ⟨by rfl, ?_⟩) ?_ ?_
      rotate_left
      ·intro w'
       go_simp
       with_reducible rfl
      rotate_left
      ·simp only [Act.put, List.setIfInBounds_toArray, List.set_cons_zero, List.set_cons_succ, i64_w, i32_w]
       rfl
      refine pure_ (i := 6) (N := some 33) (v := ?_) (a' := ?_) #[true, true, true, true, true, true, true, false, true, false, false] rfl rfl (any_of HT_.out (by kernel_rfl)) (fun _ _ _ h => h) (Or.inl ⟨by rfl, ?_⟩) ?_ ?_
      rotate_left
      ·intro w'
       go_simp
       with_reducible rfl
      rotate_left
      ·simp only [Act.put, List.setIfInBounds_toArray, List.set_cons_zero, List.set_cons_succ, i64_w, i32_w]
       rfl
      refine pure_ (i := 7) (N := some 34) (v := ?_) (a' := ?_) #[true, true, true, true, true, true, true, true, true, false, false] rfl rfl (any_of HT_.out (by kernel_rfl)) (fun _ _ _ h => h) (Or.inl ⟨by rfl, ?_⟩) ?_ ?_
      rotate_left
      ·intro w'
       go_simp
       with_reducible rfl
      rotate_left
      ·simp only [Act.put, List.setIfInBounds_toArray, List.set_cons_zero, List.set_cons_succ, i64_w, i32_w]
       rfl
      exact norm_ (by simp only [putAll, Act.put, List.setIfInBounds_toArray, List.set_cons_zero, List.set_cons_succ]) (hCont (.slice Ao37 t258.length co37, .slice Ao38 t262.length co38, v267, gb270) _ ⟨hHeld, (rm_ HO260.out (fun _ hk => by first | exact ⟨hk.1.2, hk.2⟩ | simp only [hk, and_self, ne_eq, not_false_eq_true, true_and, and_true])), (rm_ HO264.out (fun _ hk => by first | exact ⟨hk.1.2, hk.2⟩ | simp only [hk, and_self, ne_eq, not_false_eq_true, true_and, and_true])), (rm_ HO268.out (fun _ hk => by first | exact ⟨hk.1.2, hk.2⟩ | simp only [hk, and_self, ne_eq, not_false_eq_true, true_and, and_true])), (bk_ BK253.out), (bk_ BK254.out), (bk_ BK270.out), GW270.out, GE270.out, NB253_270.out, NB270_253.out, NB254_270.out, NB270_254.out, (bb_ HB.out)⟩)
    ·skip
     refine box_step ?hg (N := 6) ?hd (cs := #[.int .i64 0, .slice none 0 0]) (t := 26) ?hr ?_; (case hd => rfl); (case hg => rfl); (case hr => first | (go_simp; done) | (go_simp; rfl))
     intro gb270 hg w34 hbox hb
     have n0_ := am_ (bw_ BK253 hb)
     have n1_ := am_ (bw_ BK254 hb)
     have n2_ := am_ (below_step (bb_ HB.out) hb)
     have n3_ := am_ (hbox)
     have n4_ := am_ ((by rw [hg]; exact (below_size (bb_ HB.out)) : w.heap.size ≤ gb270))
     have n5_ := am_ ((by rw [hg]; exact (below_size (bb_ HB.out)) : w.heap.size ≤ gb270))
     have n6_ := am_ ((by rw [hg]; exact Nat.ne_of_lt (bl_ BK253) : gb253 ≠ gb270))
     have n7_ := am_ ((by rw [hg]; exact Nat.ne_of_gt (bl_ BK253) : gb270 ≠ gb253))
     have n8_ := am_ ((by rw [hg]; exact Nat.ne_of_lt (bl_ BK254) : gb254 ≠ gb270))
     have n9_ := am_ ((by rw [hg]; exact Nat.ne_of_gt (bl_ BK254) : gb270 ≠ gb254))
     clear BK253 BK254 HB; revert n0_ n1_ n2_ n3_ n4_ n5_ n6_ n7_ n8_ n9_; intro BK253 BK254 HB BK270 GW270 GE270 NB253_270 NB270_253 NB254_270 NB270_254
     clear hb hbox hg
     refine hK.out _ _ ⟨bc_ BK253 0, bc_ BK253 1, bc_ BK254 0, bc_ BK254 1⟩ (fun hHeld => ?_)
     clear hK K
     refine norm_ (a' := ?_) ?_ ?_
     rotate_left
     ·show Act.put _ (some 6) _ = _
      simp only [Act.put, List.setIfInBounds_toArray, List.set_cons_zero, List.set_cons_succ, i64_w, i32_w]
      rfl
     refine one_ (i := 1) (N := some 29) #[true, true, true, false, false, false, false, false, true, false, false] rfl rfl (one_of HT_.out (by kernel_rfl)) (by decide) (fun K hK => ?_)
     refine goes_ Try.func7 (by kernel_rfl) rfl #[.agg #[.int .i64 a0_0, .slice A0_1 l0_1.length c0_1]] (by rfl) rfl rfl lm_ ?_
     with_reducible refine (laws_toLaurent.calls k a0_0 _ _ l0_1 t257 t258 _ ?side1 ?side2 A19.out).mono ?_
     (case side1 => repeat (first | exact (Kd.C_below HR0_1.out HB.out) | (with_reducible refine Kd.C_alloc ?_ _) | (with_reducible refine Kd.C_drewN ?_ _) | (with_reducible refine Kd.C_drew ?_)))
     (case side2 => exact HC0_1.out)
     rintro e w35 ⟨v259, rfl, ho0, hb⟩
     refine ⟨_, rfl, ?_⟩
     have n0_ := am_ (Kd.R_lower ho0 (below_size (bb_ HB.out)))
     have n1_ := am_ (bw_ BK253 hb)
     have n2_ := am_ (bw_ BK254 hb)
     have n3_ := am_ (bw_ BK270 hb)
     have n4_ := am_ (below_step (bb_ HB.out) hb)
     clear BK253 BK254 BK270 HB; revert n0_ n1_ n2_ n3_ n4_; intro HO260 BK253 BK254 BK270 HB
     (try clear hb)
     (try clear hb2)
     (try clear hk)
     (try clear hi)
     (try clear ho0)
     refine hK.out _ _ ⟨bc_ BK253 0, bc_ BK253 1, bc_ BK254 0, bc_ BK254 1⟩ (fun hHeld => ?_)
     clear hK K
     refine norm_ (a' := ?_) ?_ ?_
     rotate_left
     ·show Act.put _ (some 29) _ = _
      simp only [Act.put, List.setIfInBounds_toArray, List.set_cons_zero, List.set_cons_succ, i64_w, i32_w]
      rfl
     refine one_ (i := 3) (N := some 31) #[true, true, true, true, false, false, false, false, true, false, false] rfl rfl (one_of HT_.out (by kernel_rfl)) (by decide) (fun K hK => ?_)
     refine goes_ Try.func7 (by kernel_rfl) rfl #[.agg #[.int .i64 a1_0, .slice A1_1 l1_1.length c1_1]] (by rfl) rfl rfl lm_ ?_
     with_reducible refine (laws_toLaurent.calls k a1_0 _ _ l1_1 t261 t262 _ ?side1 ?side2 A20.out).mono ?_
     (case side1 => repeat (first | exact (Kd.C_below HR1_1.out HB.out) | (with_reducible refine Kd.C_alloc ?_ _) | (with_reducible refine Kd.C_drewN ?_ _) | (with_reducible refine Kd.C_drew ?_)))
     (case side2 => exact HC1_1.out)
     rintro e w36 ⟨v263, rfl, ho0, hb⟩
     refine ⟨_, rfl, ?_⟩
     have n0_ := am_ (Kd.R_elder' (rk_ HO260.out) (Kd.R_base ho0) hb)
     have n1_ := am_ (Kd.R_lower (Kd.R_new' ho0 (Kd.R_lt (rk_ HO260.out))) (below_size (bb_ HB.out)))
     have n2_ := am_ (bw_ BK253 hb)
     have n3_ := am_ (bw_ BK254 hb)
     have n4_ := am_ (bw_ BK270 hb)
     have n5_ := am_ (below_step (bb_ HB.out) hb)
     clear HO260 BK253 BK254 BK270 HB; revert n0_ n1_ n2_ n3_ n4_ n5_; intro HO260 HO264 BK253 BK254 BK270 HB
     (try clear hb)
     (try clear hb2)
     (try clear hk)
     (try clear hi)
     (try clear ho0)
     obtain ⟨Ao37, co37, eo37⟩ := Kd.R_slice HO260.out
     (first | subst eo37 | (injection eo37 with f1_ f2_ f3_; have f4_ := f1_.symm; have f5_ := f3_.symm; clear f1_ f2_ f3_; subst f4_; subst f5_))
     obtain ⟨Ao38, co38, eo38⟩ := Kd.R_slice HO264.out
     (first | subst eo38 | (injection eo38 with f1_ f2_ f3_; have f4_ := f1_.symm; have f5_ := f3_.symm; clear f1_ f2_ f3_; subst f4_; subst f5_))
     refine hK.out _ _ ⟨bc_ BK253 0, bc_ BK253 1, bc_ BK254 0, bc_ BK254 1⟩ (fun hHeld => ?_)
     clear hK K
     refine norm_ (a' := ?_) ?_ ?_
     rotate_left
     ·show Act.put _ (some 31) _ = _
      simp only [Act.put, List.setIfInBounds_toArray, List.set_cons_zero, List.set_cons_succ, i64_w, i32_w]
      rfl
     refine one_ (i := 4) (N := some 32) #[true, true, true, true, true, false, false, false, true, false, false] rfl rfl (one_of HT_.out (by kernel_rfl)) (by decide) (fun K hK => ?_)
     refine goes_ Try.func12 (by kernel_rfl) rfl #[.agg #[.int .i64 t257, .slice Ao37 t258.length co37], .agg #[.int .i64 t261, .slice Ao38 t262.length co38]] (by rfl) rfl rfl lm_ ?_
     with_reducible refine (spec_MultiplyLaurent.calls k t257 _ _ t258 t261 _ _ t262 t265 t266 t269 _ ?side1 ?side2 ?side3 ?side4 A21.out).mono ?_
     (case side1 => repeat (first | exact (Kd.R_reads' HO260.out).2.2 | (with_reducible refine Kd.C_alloc ?_ _) | (with_reducible refine Kd.C_drewN ?_ _) | (with_reducible refine Kd.C_drew ?_)))
     (case side2 => exact (Kd.R_reads' HO260.out).2.1)
     (case side3 => repeat (first | exact (Kd.R_reads' HO264.out).2.2 | (with_reducible refine Kd.C_alloc ?_ _) | (with_reducible refine Kd.C_drewN ?_ _) | (with_reducible refine Kd.C_drew ?_)))
     (case side4 => exact (Kd.R_reads' HO264.out).2.1)
     rintro e w39 ⟨v267, rfl, ho0, hb⟩
     refine ⟨_, rfl, ?_⟩
     have n0_ := am_ (Kd.R_elder' (rk_ HO260.out) (Kd.R_base ho0) hb)
     have n1_ := am_ (Kd.R_elder' (rk_ HO264.out) (Kd.R_base ho0) hb)
     have n2_ := am_ (Kd.R_lower (Kd.R_new' (Kd.R_new' ho0 (Kd.R_lt (rk_ HO260.out))) (Kd.R_lt (rk_ HO264.out))) (below_size (bb_ HB.out)))
     have n3_ := am_ (bw_ BK253 hb)
     have n4_ := am_ (bw_ BK254 hb)
     have n5_ := am_ (bw_ BK270 hb)
     have n6_ := am_ (below_step (bb_ HB.out) hb)
     clear HO260 HO264 BK253 BK254 BK270 HB; revert n0_ n1_ n2_ n3_ n4_ n5_ n6_; intro HO260 HO264 HO268 BK253 BK254 BK270 HB
     (try clear hb)
     (try clear hb2)
     (try clear hk)
     (try clear hi)
     (try clear ho0)
     refine hK.out _ _ ⟨bc_ BK253 0, bc_ BK253 1, bc_ BK254 0, bc_ BK254 1⟩ (fun hHeld => ?_)
     clear hK K
     refine norm_ (a' := ?_) ?_ ?_
     rotate_left
     ·show Act.put _ (some 32) _ = _
      simp only [Act.put, List.setIfInBounds_toArray, List.set_cons_zero, List.set_cons_succ, i64_w, i32_w]
      rfl
     refine pure_ (i := 5) (N := some 27) (v := ?_) (a' := ?_) #[true, true, true, true, true, true, false, false, true, false, false] rfl rfl (any_of HT_.out (by kernel_rfl)) (fun _ _ _ h => h) (Or.inl ⟨by rfl, ?_⟩) ?_ ?_
     rotate_left
     ·intro w'
      go_simp
      with_reducible rfl
     rotate_left
     ·simp only [Act.put, List.setIfInBounds_toArray, List.set_cons_zero, List.set_cons_succ, i64_w, i32_w]
      rfl
     refine pure_ (i := 6) (N := some 33) (v := ?_) (a' := ?_) #[true, true, true, true, true, true, true, false, true, false, false] rfl rfl (any_of HT_.out (by kernel_rfl)) (fun _ _ _ h => h) (Or.inl ⟨by rfl, ?_⟩) ?_ ?_
     rotate_left
     ·intro w'
      go_simp
      with_reducible rfl
     rotate_left
     ·simp only [Act.put, List.setIfInBounds_toArray, List.set_cons_zero, List.set_cons_succ, i64_w, i32_w]
      rfl
     refine pure_ (i := 7) (N := some 34) (v := ?_) (a' := ?_) #[true, true, true, true, true, true, true, true, true, false, false] rfl rfl (any_of HT_.out (by kernel_rfl)) (fun _ _ _ h => h) (Or.inl ⟨by rfl, ?_⟩) ?_ ?_
     rotate_left
     ·intro w'
      go_simp
      with_reducible rfl
     rotate_left
     ·simp only [Act.put, List.setIfInBounds_toArray, List.set_cons_zero, List.set_cons_succ, i64_w, i32_w]
      rfl
     exact norm_ (by simp only [putAll, Act.put, List.setIfInBounds_toArray, List.set_cons_zero, List.set_cons_succ]) (hCont (.slice Ao37 t258.length co37, .slice Ao38 t262.length co38, v267, gb270) _ ⟨hHeld, (rm_ HO260.out (fun _ hk => by first | exact ⟨hk.1.2, hk.2⟩ | simp only [hk, and_self, ne_eq, not_false_eq_true, true_and, and_true])), (rm_ HO264.out (fun _ hk => by first | exact ⟨hk.1.2, hk.2⟩ | simp only [hk, and_self, ne_eq, not_false_eq_true, true_and, and_true])), (rm_ HO268.out (fun _ hk => by first | exact ⟨hk.1.2, hk.2⟩ | simp only [hk, and_self, ne_eq, not_false_eq_true, true_and, and_true])), (bk_ BK253.out), (bk_ BK254.out), (bk_ BK270.out), GW270.out, GE270.out, NB253_270.out, NB270_253.out, NB254_270.out, NB270_254.out, (bb_ HB.out)⟩)
   rintro ⟨v259, v263, v267, gb270⟩ w40 ⟨hS_, h0_, h1_, h2_, h3_, h4_, h5_, h6_, h7_, h8_, h9_, h10_, h11_, h12_⟩
   have n0_ : Aside0 (Kd.R (Kd.int .i64) 2 w40 w.heap.size (fun k_ => some k_ ≠ (v263 : Value).ownBlock ∧ some k_ ≠ (v267 : Value).ownBlock) v259 t258) := ⟨h0_⟩
   have n1_ : Aside0 (Kd.R (Kd.int .i64) 2 w40 w.heap.size (fun k_ => some k_ ≠ (v259 : Value).ownBlock ∧ some k_ ≠ (v267 : Value).ownBlock) v263 t262) := ⟨h1_⟩
   have n2_ : Aside0 (Kd.R (Kd.int .i64) 2 w40 w.heap.size (fun k_ => some k_ ≠ (v259 : Value).ownBlock ∧ some k_ ≠ (v263 : Value).ownBlock) v267 t266) := ⟨h2_⟩
   have n3_ : Aside0 (w40.heap[gb253]? = some (.cells #[.int .i64 a0_0, .slice A0_1 l0_1.length c0_1] 24 (0, 0))) := ⟨h3_⟩
   have n4_ : Aside0 (w40.heap[gb254]? = some (.cells #[.int .i64 a1_0, .slice A1_1 l1_1.length c1_1] 24 (0, 0))) := ⟨h4_⟩
   have n5_ : Aside0 (w40.heap[gb270]? = some (.cells #[.int .i64 0, .slice none 0 0] 26 (0, 0))) := ⟨h5_⟩
   have n6_ : Aside0 (w.heap.size ≤ gb270) := ⟨h6_⟩
   have n7_ : Aside0 (w.heap.size ≤ gb270) := ⟨h7_⟩
   have n8_ : Aside0 (gb253 ≠ gb270) := ⟨h8_⟩
   have n9_ : Aside0 (gb270 ≠ gb253) := ⟨h9_⟩
   have n10_ : Aside0 (gb254 ≠ gb270) := ⟨h10_⟩
   have n11_ : Aside0 (gb270 ≠ gb254) := ⟨h11_⟩
   have n12_ : Aside0 (Below w.heap.size w w40) := ⟨h12_⟩
   clear BK253
   clear BK254
   clear HB
   clear h0_ h1_ h2_ h3_ h4_ h5_ h6_ h7_ h8_ h9_ h10_ h11_ h12_
   have HO260 := n0_
   have HO264 := n1_
   have HO268 := n2_
   have BK253 := n3_
   have BK254 := n4_
   have BK270 := n5_
   have GW270 := n6_
   have GE270 := n7_
   have NB253_270 := n8_
   have NB270_253 := n9_
   have NB254_270 := n10_
   have NB270_254 := n11_
   have HB := n12_
   clear n0_ n1_ n2_ n3_ n4_ n5_ n6_ n7_ n8_ n9_ n10_ n11_ n12_
   have hHeld : w40.cell? ⟨gb253, 0, none⟩ = some (.int .i64 a0_0) ∧ w40.cell? ⟨gb253, 1, none⟩ = some (.slice A0_1 l0_1.length c0_1) ∧ w40.cell? ⟨gb254, 0, none⟩ = some (.int .i64 a1_0) ∧ w40.cell? ⟨gb254, 1, none⟩ = some (.slice A1_1 l1_1.length c1_1) := hS_
   obtain ⟨Ao42, co42, eo42⟩ := Kd.R_slice HO268.out
   (first | subst eo42 | (injection eo42 with f1_ f2_ f3_; have f4_ := f1_.symm; have f5_ := f3_.symm; clear f1_ f2_ f3_; subst f4_; subst f5_))
   refine norm_ (a' := ?_) ?_ ?_
   rotate_left
   ·simp only [putAll, Act.put, List.setIfInBounds_toArray, List.set_cons_zero, List.set_cons_succ]
    rfl
   refine one_ (i := 9) (N := none) #[true, true, true, true, true, true, true, true, true, true, false] rfl rfl (one_of HT_.out (by kernel_rfl)) (by decide) (fun K hK => ?_)
   have hs41 : w40.cell? ⟨gb270, 0, none⟩ = some (.int .i64 0) := bc_ BK270 0
   have hfs41 := blk_frozen BK270.out 0
   have hns41_0 := NB253_270.out
   have hns41_1 := NB254_270.out
   have hms41_0 := NB270_253.out
   have hms41_1 := NB270_254.out
   have hs43 : w40.cell? ⟨gb270, 1, none⟩ = some (.slice none 0 0) := bc_ BK270 1
   have hfs43 := blk_frozen BK270.out 1
   have hns43_0 := NB253_270.out
   have hns43_1 := NB254_270.out
   have hms43_0 := NB270_253.out
   have hms43_1 := NB270_254.out
   refine skip_ (w1 := ?_) (by rfl) rfl ?_ ?_
   rotate_left
   ·go_simp
    rfl
   refine hK.out _ _ ⟨((cell_far (p := ⟨gb270, _, none⟩) NB253_270.out _).trans (((cell_far (p := ⟨gb270, _, none⟩) NB253_270.out _).trans (hHeld.1)))), ((cell_far (p := ⟨gb270, _, none⟩) NB253_270.out _).trans (((cell_far (p := ⟨gb270, _, none⟩) NB253_270.out _).trans (hHeld.2.1)))), ((cell_far (p := ⟨gb270, _, none⟩) NB254_270.out _).trans (((cell_far (p := ⟨gb270, _, none⟩) NB254_270.out _).trans (hHeld.2.2.1)))), ((cell_far (p := ⟨gb270, _, none⟩) NB254_270.out _).trans (((cell_far (p := ⟨gb270, _, none⟩) NB254_270.out _).trans (hHeld.2.2.2))))⟩ (fun hHeld => ?_)
   clear hK K
   refine pure_ (i := 10) (N := some 7) (v := ?_) (a' := ?_) #[true, true, true, true, true, true, true, true, true, true, true] rfl rfl (any_of HT_.out (by kernel_rfl)) (fun _ _ _ h => h) (Or.inl ⟨by rfl, ?_⟩) ?_ ?_
   rotate_left
   ·intro w'
    go_simp
    with_reducible rfl
   rotate_left
   ·simp only [Act.put, List.setIfInBounds_toArray, List.set_cons_zero, List.set_cons_succ, i64_w, i32_w]
    rfl
   refine done_ (done_of HT_.out (by kernel_rfl)) ?_
   have hnb44 := NB253_270.out
   have hnc44 := NB270_253.out
   have hcz45_0 : w40.cell? ⟨gb253, 0, none⟩ = some (.int .i64 a0_0) := bc_ BK253 0
   have hcz45_1 : w40.cell? ⟨gb253, 1, none⟩ = some (.slice A0_1 l0_1.length c0_1) := bc_ BK253 1
   have hfz45_0 := blk_frozen BK253.out 0
   have hfz45_1 := blk_frozen BK253.out 1
   go_upto_region 12 with (first | ((with_reducible refine gate_callee (f := 7) rfl ?_); refine goesL_ (some 36) rfl rfl Try.func7 (by kernel_rfl) rfl #[.agg #[.int .i64 a0_0, .slice A0_1 l0_1.length c0_1]] rfl lm_ ?_; (with_reducible refine (laws_toLaurent.calls k a0_0 _ _ l0_1 t271 t272 _ ?side1 ?side2 A22.out).mono ?_); (case side1 => exact Kd.C_below HR0_1.out (bb_ HB.out)); (case side2 => exact HC0_1.out); rintro e w46 ⟨v273, rfl, ho0, hb⟩; refine ⟨_, rfl, ?_⟩; have n0_ := am_ (Kd.R_elder' ((rm_ (Kd.R_far (p := ⟨gb270, 1, none⟩) (Kd.R_far (p := ⟨gb270, 0, none⟩) (Kd.R_types HO260.out BK270.out (by decide)) (fun _ hk => hk.2) (.int .i64 t265)) (fun _ hk => hk.2) (.slice Ao42 t266.length co42)) (fun _ h_ => h_.1))) (Kd.R_base ho0) hb); have n1_ := am_ (Kd.R_elder' ((rm_ (Kd.R_far (p := ⟨gb270, 1, none⟩) (Kd.R_far (p := ⟨gb270, 0, none⟩) (Kd.R_types HO264.out BK270.out (by decide)) (fun _ hk => hk.2) (.int .i64 t265)) (fun _ hk => hk.2) (.slice Ao42 t266.length co42)) (fun _ h_ => h_.1))) (Kd.R_base ho0) hb); have n2_ := am_ (Kd.R_elder' ((rm_ (Kd.R_far (p := ⟨gb270, 1, none⟩) (Kd.R_far (p := ⟨gb270, 0, none⟩) (Kd.R_types HO268.out BK270.out (by decide)) (fun _ hk => hk.2) (.int .i64 t265)) (fun _ hk => hk.2) (.slice Ao42 t266.length co42)) (fun _ h_ => h_.1))) (Kd.R_base ho0) hb); have n3_ := am_ (Kd.R_lower (Kd.R_new' (Kd.R_new' (Kd.R_new' ho0 (Kd.R_lt ((rm_ (Kd.R_far (p := ⟨gb270, 1, none⟩) (Kd.R_far (p := ⟨gb270, 0, none⟩) (Kd.R_types HO260.out BK270.out (by decide)) (fun _ hk => hk.2) (.int .i64 t265)) (fun _ hk => hk.2) (.slice Ao42 t266.length co42)) (fun _ h_ => h_.1))))) (Kd.R_lt ((rm_ (Kd.R_far (p := ⟨gb270, 1, none⟩) (Kd.R_far (p := ⟨gb270, 0, none⟩) (Kd.R_types HO264.out BK270.out (by decide)) (fun _ hk => hk.2) (.int .i64 t265)) (fun _ hk => hk.2) (.slice Ao42 t266.length co42)) (fun _ h_ => h_.1))))) (Kd.R_lt ((rm_ (Kd.R_far (p := ⟨gb270, 1, none⟩) (Kd.R_far (p := ⟨gb270, 0, none⟩) (Kd.R_types HO268.out BK270.out (by decide)) (fun _ hk => hk.2) (.int .i64 t265)) (fun _ hk => hk.2) (.slice Ao42 t266.length co42)) (fun _ h_ => h_.1))))) (below_size (bb_ HB.out))); have n4_ := am_ (bw_ BK253 hb); have n5_ := am_ (bw_ BK254 hb); have n6_ := am_ (blk_below (g := gb270) (o := .cells #[.int .i64 t265, .slice Ao42 t266.length co42] 26 (0, 0)) (by (with_reducible repeat (first | refine blk_drewN ?_ _ | refine blk_drew ?_ | refine blk_alloc ?_ _)); refine blk_put (cs := #[.int .i64 t265, .slice none 0 0]) ?_ 1 _ rfl; (with_reducible repeat (first | refine blk_drewN ?_ _ | refine blk_drew ?_ | refine blk_alloc ?_ _)); refine blk_put (cs := #[.int .i64 0, .slice none 0 0]) ?_ 0 _ rfl; (with_reducible repeat (first | refine blk_drewN ?_ _ | refine blk_drew ?_ | refine blk_alloc ?_ _)); exact BK270.out) hb); have n7_ := am_ (below_step (bb_ HB.out) hb); clear HO260 HO264 HO268 BK253 BK254 BK270 HB; revert n0_ n1_ n2_ n3_ n4_ n5_ n6_ n7_; intro HO260 HO264 HO268 HO274 BK253 BK254 BK270 HB; (try clear hb); (try clear hb2); (try clear hk); (try clear hi); (try clear ho0)) | ((with_reducible refine gate_dst (N := 8) rfl ?_); refine box_event ?hg (N := 8) ?hd (cs := #[.int .i64 0, .slice none 0 0]) (t := 26) ?hr ?_; (case hd => rfl); (case hg => rfl); (case hr => first | (go_simp; done) | (go_simp; rfl)); intro gb275 hg w47 hbox hb; have n0_ := am_ (Kd.R_below (rk_ HO260.out) hb); have n1_ := am_ (Kd.R_below (rk_ HO264.out) hb); have n2_ := am_ (Kd.R_below (rk_ HO268.out) hb); have n3_ := am_ (Kd.R_below (rk_ HO274.out) hb); have n4_ := am_ (bw_ BK253 hb); have n5_ := am_ (bw_ BK254 hb); have n6_ := am_ (bw_ BK270 hb); have n7_ := am_ (below_step (bb_ HB.out) hb); have n8_ := am_ (hbox); have n9_ := am_ ((by rw [hg]; exact (below_size (bb_ HB.out)) : w.heap.size ≤ gb275)); have n10_ := am_ ((by rw [hg]; exact (below_size (bb_ HB.out)) : w.heap.size ≤ gb275)); have n11_ := am_ ((by rw [hg]; exact Nat.ne_of_lt (bl_ BK253) : gb253 ≠ gb275)); have n12_ := am_ ((by rw [hg]; exact Nat.ne_of_gt (bl_ BK253) : gb275 ≠ gb253)); have n13_ := am_ ((by rw [hg]; exact Nat.ne_of_lt (bl_ BK254) : gb254 ≠ gb275)); have n14_ := am_ ((by rw [hg]; exact Nat.ne_of_gt (bl_ BK254) : gb275 ≠ gb254)); have n15_ := am_ ((by rw [hg]; exact Nat.ne_of_lt (bl_ BK270) : gb270 ≠ gb275)); have n16_ := am_ ((by rw [hg]; exact Nat.ne_of_gt (bl_ BK270) : gb275 ≠ gb270)); clear HO260 HO264 HO268 HO274 BK253 BK254 BK270 HB; revert n0_ n1_ n2_ n3_ n4_ n5_ n6_ n7_ n8_ n9_ n10_ n11_ n12_ n13_ n14_ n15_ n16_; intro HO260 HO264 HO268 HO274 BK253 BK254 BK270 HB BK275 GW275 GE275 NB253_275 NB275_253 NB254_275 NB275_254 NB270_275 NB275_270; clear hb hbox hg; have hnb48 := NB275_253.out; have hnc48 := NB253_275.out; have hnb49 := NB275_254.out; have hnc49 := NB254_275.out; have hnb50 := NB275_270.out; have hnc50 := NB270_275.out; have hcz51_0 : w47.cell? ⟨gb275, 0, none⟩ = some (.int .i64 0) := bc_ BK275 0; have hcz51_1 : w47.cell? ⟨gb275, 1, none⟩ = some (.slice none 0 0) := bc_ BK275 1; have hfz51_0 := blk_frozen BK275.out 0; have hfz51_1 := blk_frozen BK275.out 1; obtain ⟨Ao52, co52, eo52⟩ := Kd.R_slice HO274.out; subst eo52; have hnb53 := NB254_270.out; have hnc53 := NB270_254.out; have hcz54_0 : w47.cell? ⟨gb254, 0, none⟩ = some (.int .i64 a1_0) := bc_ BK254 0; have hcz54_1 : w47.cell? ⟨gb254, 1, none⟩ = some (.slice A1_1 l1_1.length c1_1) := bc_ BK254 1; have hfz54_0 := blk_frozen BK254.out 0; have hfz54_1 := blk_frozen BK254.out 1) | ((with_reducible refine gate_callee (f := 7) rfl ?_); refine goesL_ (some 38) rfl rfl Try.func7 (by kernel_rfl) rfl #[.agg #[.int .i64 a1_0, .slice A1_1 l1_1.length c1_1]] rfl lm_ ?_; (with_reducible refine (laws_toLaurent.calls k a1_0 _ _ l1_1 t276 t277 _ ?side1 ?side2 A23.out).mono ?_); (case side1 => exact Kd.C_below HR1_1.out (bb_ HB.out)); (case side2 => exact HC1_1.out); rintro e w55 ⟨v278, rfl, ho0, hb⟩; refine ⟨_, rfl, ?_⟩; have n0_ := am_ (Kd.R_elder' ((rm_ (Kd.R_far (p := ⟨gb275, 1, none⟩) (Kd.R_far (p := ⟨gb275, 0, none⟩) (Kd.R_types HO260.out BK275.out (by decide)) (fun _ hk => hk.2) (.int .i64 t271)) (fun _ hk => hk.2) (.slice Ao52 t272.length co52)) (fun _ h_ => h_.1))) (Kd.R_base ho0) hb); have n1_ := am_ (Kd.R_elder' ((rm_ (Kd.R_far (p := ⟨gb275, 1, none⟩) (Kd.R_far (p := ⟨gb275, 0, none⟩) (Kd.R_types HO264.out BK275.out (by decide)) (fun _ hk => hk.2) (.int .i64 t271)) (fun _ hk => hk.2) (.slice Ao52 t272.length co52)) (fun _ h_ => h_.1))) (Kd.R_base ho0) hb); have n2_ := am_ (Kd.R_elder' ((rm_ (Kd.R_far (p := ⟨gb275, 1, none⟩) (Kd.R_far (p := ⟨gb275, 0, none⟩) (Kd.R_types HO268.out BK275.out (by decide)) (fun _ hk => hk.2) (.int .i64 t271)) (fun _ hk => hk.2) (.slice Ao52 t272.length co52)) (fun _ h_ => h_.1))) (Kd.R_base ho0) hb); have n3_ := am_ (Kd.R_elder' ((rm_ (Kd.R_far (p := ⟨gb275, 1, none⟩) (Kd.R_far (p := ⟨gb275, 0, none⟩) (Kd.R_types HO274.out BK275.out (by decide)) (fun _ hk => hk.2) (.int .i64 t271)) (fun _ hk => hk.2) (.slice Ao52 t272.length co52)) (fun _ h_ => h_.1))) (Kd.R_base ho0) hb); have n4_ := am_ (Kd.R_lower (Kd.R_new' (Kd.R_new' (Kd.R_new' (Kd.R_new' ho0 (Kd.R_lt ((rm_ (Kd.R_far (p := ⟨gb275, 1, none⟩) (Kd.R_far (p := ⟨gb275, 0, none⟩) (Kd.R_types HO260.out BK275.out (by decide)) (fun _ hk => hk.2) (.int .i64 t271)) (fun _ hk => hk.2) (.slice Ao52 t272.length co52)) (fun _ h_ => h_.1))))) (Kd.R_lt ((rm_ (Kd.R_far (p := ⟨gb275, 1, none⟩) (Kd.R_far (p := ⟨gb275, 0, none⟩) (Kd.R_types HO264.out BK275.out (by decide)) (fun _ hk => hk.2) (.int .i64 t271)) (fun _ hk => hk.2) (.slice Ao52 t272.length co52)) (fun _ h_ => h_.1))))) (Kd.R_lt ((rm_ (Kd.R_far (p := ⟨gb275, 1, none⟩) (Kd.R_far (p := ⟨gb275, 0, none⟩) (Kd.R_types HO268.out BK275.out (by decide)) (fun _ hk => hk.2) (.int .i64 t271)) (fun _ hk => hk.2) (.slice Ao52 t272.length co52)) (fun _ h_ => h_.1))))) (Kd.R_lt ((rm_ (Kd.R_far (p := ⟨gb275, 1, none⟩) (Kd.R_far (p := ⟨gb275, 0, none⟩) (Kd.R_types HO274.out BK275.out (by decide)) (fun _ hk => hk.2) (.int .i64 t271)) (fun _ hk => hk.2) (.slice Ao52 t272.length co52)) (fun _ h_ => h_.1))))) (below_size (bb_ HB.out))); have n5_ := am_ (bw_ BK253 hb); have n6_ := am_ (bw_ BK254 hb); have n7_ := am_ (bw_ BK270 hb); have n8_ := am_ (blk_below (g := gb275) (o := .cells #[.int .i64 t271, .slice Ao52 t272.length co52] 26 (0, 0)) (by (with_reducible repeat (first | refine blk_drewN ?_ _ | refine blk_drew ?_ | refine blk_alloc ?_ _)); refine blk_put (cs := #[.int .i64 t271, .slice none 0 0]) ?_ 1 _ rfl; (with_reducible repeat (first | refine blk_drewN ?_ _ | refine blk_drew ?_ | refine blk_alloc ?_ _)); refine blk_put (cs := #[.int .i64 0, .slice none 0 0]) ?_ 0 _ rfl; (with_reducible repeat (first | refine blk_drewN ?_ _ | refine blk_drew ?_ | refine blk_alloc ?_ _)); exact BK275.out) hb); have n9_ := am_ (below_step (bb_ HB.out) hb); clear HO260 HO264 HO268 HO274 BK253 BK254 BK270 BK275 HB; revert n0_ n1_ n2_ n3_ n4_ n5_ n6_ n7_ n8_ n9_; intro HO260 HO264 HO268 HO274 HO279 BK253 BK254 BK270 BK275 HB; (try clear hb); (try clear hb2); (try clear hk); (try clear hi); (try clear ho0)) | ((with_reducible refine gate_dst (N := 9) rfl ?_); refine box_event ?hg (N := 9) ?hd (cs := #[.int .i64 0, .slice none 0 0]) (t := 26) ?hr ?_; (case hd => rfl); (case hg => rfl); (case hr => first | (go_simp; done) | (go_simp; rfl)); intro gb280 hg w56 hbox hb; have n0_ := am_ (Kd.R_below (rk_ HO260.out) hb); have n1_ := am_ (Kd.R_below (rk_ HO264.out) hb); have n2_ := am_ (Kd.R_below (rk_ HO268.out) hb); have n3_ := am_ (Kd.R_below (rk_ HO274.out) hb); have n4_ := am_ (Kd.R_below (rk_ HO279.out) hb); have n5_ := am_ (bw_ BK253 hb); have n6_ := am_ (bw_ BK254 hb); have n7_ := am_ (bw_ BK270 hb); have n8_ := am_ (bw_ BK275 hb); have n9_ := am_ (below_step (bb_ HB.out) hb); have n10_ := am_ (hbox); have n11_ := am_ ((by rw [hg]; exact (below_size (bb_ HB.out)) : w.heap.size ≤ gb280)); have n12_ := am_ ((by rw [hg]; exact (below_size (bb_ HB.out)) : w.heap.size ≤ gb280)); have n13_ := am_ ((by rw [hg]; exact Nat.ne_of_lt (bl_ BK253) : gb253 ≠ gb280)); have n14_ := am_ ((by rw [hg]; exact Nat.ne_of_gt (bl_ BK253) : gb280 ≠ gb253)); have n15_ := am_ ((by rw [hg]; exact Nat.ne_of_lt (bl_ BK254) : gb254 ≠ gb280)); have n16_ := am_ ((by rw [hg]; exact Nat.ne_of_gt (bl_ BK254) : gb280 ≠ gb254)); have n17_ := am_ ((by rw [hg]; exact Nat.ne_of_lt (bl_ BK270) : gb270 ≠ gb280)); have n18_ := am_ ((by rw [hg]; exact Nat.ne_of_gt (bl_ BK270) : gb280 ≠ gb270)); have n19_ := am_ ((by rw [hg]; exact Nat.ne_of_lt (bl_ BK275) : gb275 ≠ gb280)); have n20_ := am_ ((by rw [hg]; exact Nat.ne_of_gt (bl_ BK275) : gb280 ≠ gb275)); clear HO260 HO264 HO268 HO274 HO279 BK253 BK254 BK270 BK275 HB; revert n0_ n1_ n2_ n3_ n4_ n5_ n6_ n7_ n8_ n9_ n10_ n11_ n12_ n13_ n14_ n15_ n16_ n17_ n18_ n19_ n20_; intro HO260 HO264 HO268 HO274 HO279 BK253 BK254 BK270 BK275 HB BK280 GW280 GE280 NB253_280 NB280_253 NB254_280 NB280_254 NB270_280 NB280_270 NB275_280 NB280_275; clear hb hbox hg; have hnb57 := NB280_253.out; have hnc57 := NB253_280.out; have hnb58 := NB280_254.out; have hnc58 := NB254_280.out; have hnb59 := NB280_270.out; have hnc59 := NB270_280.out; have hnb60 := NB280_275.out; have hnc60 := NB275_280.out; have hcz61_0 : w56.cell? ⟨gb280, 0, none⟩ = some (.int .i64 0) := bc_ BK280 0; have hcz61_1 : w56.cell? ⟨gb280, 1, none⟩ = some (.slice none 0 0) := bc_ BK280 1; have hfz61_0 := blk_frozen BK280.out 0; have hfz61_1 := blk_frozen BK280.out 1; obtain ⟨Ao62, co62, eo62⟩ := Kd.R_slice HO279.out; subst eo62) | ((with_reducible refine gate_store (t := 26) (p := 9) rfl ?_); refine store_event (t := 26) (p := 9) (v := ?vo_w63) (w1 := ((w56.setCell ⟨gb280, 0, none⟩ (.int .i64 t276)).setCell ⟨gb280, 1, none⟩ (.slice Ao62 t277.length co62))) ?hg ?ho ?hn ?hr ?_; (case ho => rfl); (case hg => rfl); (case hn => rfl); (case hr => first | (go_simp; done) | (go_simp; rfl)); intro w63 hw; have n0_ : Aside0 (Kd.R (Kd.int .i64) 2 w63 w.heap.size (fun k_ => some k_ ≠ (v263 : Value).ownBlock ∧ some k_ ≠ (.slice Ao42 t266.length co42 : Value).ownBlock ∧ some k_ ≠ (.slice Ao52 t272.length co52 : Value).ownBlock ∧ some k_ ≠ (.slice Ao62 t277.length co62 : Value).ownBlock) v259 t258) := ⟨(by rw [hw]; exact (rm_ (Kd.R_far (p := ⟨gb280, 1, none⟩) (Kd.R_far (p := ⟨gb280, 0, none⟩) (Kd.R_types HO260.out BK280.out (by decide)) (fun _ hk => hk.2) (.int .i64 t276)) (fun _ hk => hk.2) (.slice Ao62 t277.length co62)) (fun _ hk => by first | exact ⟨hk.1.1.1.1, ⟨hk.1.1.1.2, ⟨hk.1.1.2, hk.1.2⟩⟩⟩ | simp only [hk, and_self, ne_eq, not_false_eq_true, true_and, and_true])))⟩; have n1_ : Aside0 (Kd.R (Kd.int .i64) 2 w63 w.heap.size (fun k_ => some k_ ≠ (v259 : Value).ownBlock ∧ some k_ ≠ (.slice Ao42 t266.length co42 : Value).ownBlock ∧ some k_ ≠ (.slice Ao52 t272.length co52 : Value).ownBlock ∧ some k_ ≠ (.slice Ao62 t277.length co62 : Value).ownBlock) v263 t262) := ⟨(by rw [hw]; exact (rm_ (Kd.R_far (p := ⟨gb280, 1, none⟩) (Kd.R_far (p := ⟨gb280, 0, none⟩) (Kd.R_types HO264.out BK280.out (by decide)) (fun _ hk => hk.2) (.int .i64 t276)) (fun _ hk => hk.2) (.slice Ao62 t277.length co62)) (fun _ hk => by first | exact ⟨hk.1.1.1.1, ⟨hk.1.1.1.2, ⟨hk.1.1.2, hk.1.2⟩⟩⟩ | simp only [hk, and_self, ne_eq, not_false_eq_true, true_and, and_true])))⟩; have n2_ : Aside0 (Kd.R (Kd.int .i64) 2 w63 w.heap.size (fun k_ => some k_ ≠ (v259 : Value).ownBlock ∧ some k_ ≠ (v263 : Value).ownBlock ∧ some k_ ≠ (.slice Ao52 t272.length co52 : Value).ownBlock ∧ some k_ ≠ (.slice Ao62 t277.length co62 : Value).ownBlock) (.slice Ao42 t266.length co42) t266) := ⟨(by rw [hw]; exact (rm_ (Kd.R_far (p := ⟨gb280, 1, none⟩) (Kd.R_far (p := ⟨gb280, 0, none⟩) (Kd.R_types HO268.out BK280.out (by decide)) (fun _ hk => hk.2) (.int .i64 t276)) (fun _ hk => hk.2) (.slice Ao62 t277.length co62)) (fun _ hk => by first | exact ⟨hk.1.1.1.1, ⟨hk.1.1.1.2, ⟨hk.1.1.2, hk.1.2⟩⟩⟩ | simp only [hk, and_self, ne_eq, not_false_eq_true, true_and, and_true])))⟩; have n3_ : Aside0 (Kd.R (Kd.int .i64) 2 w63 w.heap.size (fun k_ => some k_ ≠ (v259 : Value).ownBlock ∧ some k_ ≠ (v263 : Value).ownBlock ∧ some k_ ≠ (.slice Ao42 t266.length co42 : Value).ownBlock ∧ some k_ ≠ (.slice Ao62 t277.length co62 : Value).ownBlock) (.slice Ao52 t272.length co52) t272) := ⟨(by rw [hw]; exact (rm_ (Kd.R_far (p := ⟨gb280, 1, none⟩) (Kd.R_far (p := ⟨gb280, 0, none⟩) (Kd.R_types HO274.out BK280.out (by decide)) (fun _ hk => hk.2) (.int .i64 t276)) (fun _ hk => hk.2) (.slice Ao62 t277.length co62)) (fun _ hk => by first | exact ⟨hk.1.1.1.1.2, ⟨hk.1.1.1.2, ⟨hk.1.1.2, hk.1.2⟩⟩⟩ | simp only [hk, and_self, ne_eq, not_false_eq_true, true_and, and_true])))⟩; have n4_ : Aside0 (Kd.R (Kd.int .i64) 2 w63 w.heap.size (fun k_ => some k_ ≠ (v259 : Value).ownBlock ∧ some k_ ≠ (v263 : Value).ownBlock ∧ some k_ ≠ (.slice Ao42 t266.length co42 : Value).ownBlock ∧ some k_ ≠ (.slice Ao52 t272.length co52 : Value).ownBlock) (.slice Ao62 t277.length co62) t277) := ⟨(by rw [hw]; exact (rm_ (Kd.R_far (p := ⟨gb280, 1, none⟩) (Kd.R_far (p := ⟨gb280, 0, none⟩) (Kd.R_types HO279.out BK280.out (by decide)) (fun _ hk => hk.2) (.int .i64 t276)) (fun _ hk => hk.2) (.slice Ao62 t277.length co62)) (fun _ hk => by first | exact ⟨hk.1.1.1.1.2, ⟨hk.1.1.1.2, ⟨hk.1.1.2, hk.1.2⟩⟩⟩ | simp only [hk, and_self, ne_eq, not_false_eq_true, true_and, and_true])))⟩; have n5_ : Aside0 (w63.heap[gb253]? = some (.cells #[.int .i64 a0_0, .slice A0_1 l0_1.length c0_1] 24 (0, 0))) := ⟨(by rw [hw]; exact (bk_ BK253.out))⟩; have n6_ : Aside0 (w63.heap[gb254]? = some (.cells #[.int .i64 a1_0, .slice A1_1 l1_1.length c1_1] 24 (0, 0))) := ⟨(by rw [hw]; exact (bk_ BK254.out))⟩; have n7_ : Aside0 (w63.heap[gb270]? = some (.cells #[.int .i64 t265, .slice Ao42 t266.length co42] 26 (0, 0))) := ⟨(by rw [hw]; exact (bk_ BK270.out))⟩; have n8_ : Aside0 (w63.heap[gb275]? = some (.cells #[.int .i64 t271, .slice Ao52 t272.length co52] 26 (0, 0))) := ⟨(by rw [hw]; exact (bk_ BK275.out))⟩; have n9_ : Aside0 (w63.heap[gb280]? = some (.cells #[.int .i64 t276, .slice Ao62 t277.length co62] 26 (0, 0))) := ⟨(by rw [hw]; exact (by (with_reducible repeat (first | refine blk_drewN ?_ _ | refine blk_drew ?_ | refine blk_alloc ?_ _)); refine blk_put (cs := #[.int .i64 t276, .slice none 0 0]) ?_ 1 _ rfl; (with_reducible repeat (first | refine blk_drewN ?_ _ | refine blk_drew ?_ | refine blk_alloc ?_ _)); refine blk_put (cs := #[.int .i64 0, .slice none 0 0]) ?_ 0 _ rfl; (with_reducible repeat (first | refine blk_drewN ?_ _ | refine blk_drew ?_ | refine blk_alloc ?_ _)); exact BK280.out))⟩; have n10_ : Aside0 (Below w.heap.size w w63) := ⟨(by rw [hw]; exact (bb_ HB.out))⟩; clear hw HO260 HO264 HO268 HO274 HO279 BK253 BK254 BK270 BK275 BK280 HB; revert n0_ n1_ n2_ n3_ n4_ n5_ n6_ n7_ n8_ n9_ n10_; intro HO260 HO264 HO268 HO274 HO279 BK253 BK254 BK270 BK275 BK280 HB; have hcz64_0 : w63.cell? ⟨gb275, 0, none⟩ = some (.int .i64 t271) := bc_ BK275 0; have hcz64_1 : w63.cell? ⟨gb275, 1, none⟩ = some (.slice Ao52 t272.length co52) := bc_ BK275 1; have hfz64_0 := blk_frozen BK275.out 0; have hfz64_1 := blk_frozen BK275.out 1; have hcz65_0 : w63.cell? ⟨gb280, 0, none⟩ = some (.int .i64 t276) := bc_ BK280 0; have hcz65_1 : w63.cell? ⟨gb280, 1, none⟩ = some (.slice Ao62 t277.length co62) := bc_ BK280 1; have hfz65_0 := blk_frozen BK280.out 0; have hfz65_1 := blk_frozen BK280.out 1) | ((with_reducible refine gate_callee (f := 13) rfl ?_); refine goesL_ (some 42) rfl rfl Try.func13 (by kernel_rfl) rfl #[.agg #[.int .i64 t271, .slice Ao52 t272.length co52], .agg #[.int .i64 t276, .slice Ao62 t277.length co62]] rfl lm_ ?_; (with_reducible refine (impl_MultiplyLaurent.calls k t271 (fun k_ => some k_ = (.slice Ao52 t272.length co52 : Value).ownBlock) _ _ t272 t276 (fun k_ => some k_ = (.slice Ao62 t277.length co62 : Value).ownBlock) _ _ t277 t281 t282 t285 _ ?side1 ?side2 A24.out).mono ?_); (case side1 => exact Kd.R_V (Kd.R_tight rfl (Kd.R_types (Kd.R_types (Kd.R_types (Kd.R_types (Kd.R_types (HO274.out) BK253.out (by decide)) BK254.out (by decide)) BK270.out (by decide)) BK275.out (by decide)) BK280.out (by decide)))); (case side2 => exact Kd.R_V (Kd.R_tight rfl (Kd.R_types (Kd.R_types (Kd.R_types (Kd.R_types (Kd.R_types (HO279.out) BK253.out (by decide)) BK254.out (by decide)) BK270.out (by decide)) BK275.out (by decide)) BK280.out (by decide)))); rintro e w66 ⟨v283, rfl, ho0, hb⟩; refine ⟨_, rfl, ?_⟩; have n0_ := am_ (Kd.R_elder' (rk_ HO260.out) (Kd.R_base ho0) hb); have n1_ := am_ (Kd.R_elder' (rk_ HO264.out) (Kd.R_base ho0) hb); have n2_ := am_ (Kd.R_elder' (rk_ HO268.out) (Kd.R_base ho0) hb); have n3_ := am_ (Kd.R_elder' (rk_ HO274.out) (Kd.R_base ho0) hb); have n4_ := am_ (Kd.R_elder' (rk_ HO279.out) (Kd.R_base ho0) hb); have n5_ := am_ (Kd.R_lower (Kd.R_new' (Kd.R_new' (Kd.R_new' (Kd.R_new' (Kd.R_new' (Kd.R_mono (ok' := fun k_ => True) ho0 (fun _ hk_ => trivial)) (Kd.R_lt (rk_ HO260.out))) (Kd.R_lt (rk_ HO264.out))) (Kd.R_lt (rk_ HO268.out))) (Kd.R_lt (rk_ HO274.out))) (Kd.R_lt (rk_ HO279.out))) (below_size (bb_ HB.out))); have n6_ := am_ (bw_ BK253 hb); have n7_ := am_ (bw_ BK254 hb); have n8_ := am_ (bw_ BK270 hb); have n9_ := am_ (bw_ BK275 hb); have n10_ := am_ (bw_ BK280 hb); have n11_ := am_ (below_step (bb_ HB.out) hb); clear HO260 HO264 HO268 HO274 HO279 BK253 BK254 BK270 BK275 BK280 HB; revert n0_ n1_ n2_ n3_ n4_ n5_ n6_ n7_ n8_ n9_ n10_ n11_; intro HO260 HO264 HO268 HO274 HO279 HO284 BK253 BK254 BK270 BK275 BK280 HB; (try clear hb); (try clear hb2); (try clear hk); (try clear hi); (try clear ho0)) | ((with_reducible refine gate_dst (N := 10) rfl ?_); refine box_event ?hg (N := 10) ?hd (cs := #[.int .i64 0, .slice none 0 0]) (t := 26) ?hr ?_; (case hd => rfl); (case hg => rfl); (case hr => first | (go_simp; done) | (go_simp; rfl)); intro gb286 hg w67 hbox hb; have n0_ := am_ (Kd.R_below (rk_ HO260.out) hb); have n1_ := am_ (Kd.R_below (rk_ HO264.out) hb); have n2_ := am_ (Kd.R_below (rk_ HO268.out) hb); have n3_ := am_ (Kd.R_below (rk_ HO274.out) hb); have n4_ := am_ (Kd.R_below (rk_ HO279.out) hb); have n5_ := am_ (Kd.R_below (rk_ HO284.out) hb); have n6_ := am_ (bw_ BK253 hb); have n7_ := am_ (bw_ BK254 hb); have n8_ := am_ (bw_ BK270 hb); have n9_ := am_ (bw_ BK275 hb); have n10_ := am_ (bw_ BK280 hb); have n11_ := am_ (below_step (bb_ HB.out) hb); have n12_ := am_ (hbox); have n13_ := am_ ((by rw [hg]; exact (below_size (bb_ HB.out)) : w.heap.size ≤ gb286)); have n14_ := am_ ((by rw [hg]; exact (below_size (bb_ HB.out)) : w.heap.size ≤ gb286)); have n15_ := am_ ((by rw [hg]; exact Nat.ne_of_lt (bl_ BK253) : gb253 ≠ gb286)); have n16_ := am_ ((by rw [hg]; exact Nat.ne_of_gt (bl_ BK253) : gb286 ≠ gb253)); have n17_ := am_ ((by rw [hg]; exact Nat.ne_of_lt (bl_ BK254) : gb254 ≠ gb286)); have n18_ := am_ ((by rw [hg]; exact Nat.ne_of_gt (bl_ BK254) : gb286 ≠ gb254)); have n19_ := am_ ((by rw [hg]; exact Nat.ne_of_lt (bl_ BK270) : gb270 ≠ gb286)); have n20_ := am_ ((by rw [hg]; exact Nat.ne_of_gt (bl_ BK270) : gb286 ≠ gb270)); have n21_ := am_ ((by rw [hg]; exact Nat.ne_of_lt (bl_ BK275) : gb275 ≠ gb286)); have n22_ := am_ ((by rw [hg]; exact Nat.ne_of_gt (bl_ BK275) : gb286 ≠ gb275)); have n23_ := am_ ((by rw [hg]; exact Nat.ne_of_lt (bl_ BK280) : gb280 ≠ gb286)); have n24_ := am_ ((by rw [hg]; exact Nat.ne_of_gt (bl_ BK280) : gb286 ≠ gb280)); clear HO260 HO264 HO268 HO274 HO279 HO284 BK253 BK254 BK270 BK275 BK280 HB; revert n0_ n1_ n2_ n3_ n4_ n5_ n6_ n7_ n8_ n9_ n10_ n11_ n12_ n13_ n14_ n15_ n16_ n17_ n18_ n19_ n20_ n21_ n22_ n23_ n24_; intro HO260 HO264 HO268 HO274 HO279 HO284 BK253 BK254 BK270 BK275 BK280 HB BK286 GW286 GE286 NB253_286 NB286_253 NB254_286 NB286_254 NB270_286 NB286_270 NB275_286 NB286_275 NB280_286 NB286_280; clear hb hbox hg; have hnb68 := NB286_253.out; have hnc68 := NB253_286.out; have hnb69 := NB286_254.out; have hnc69 := NB254_286.out; have hnb70 := NB286_270.out; have hnc70 := NB270_286.out; have hnb71 := NB286_275.out; have hnc71 := NB275_286.out; have hnb72 := NB286_280.out; have hnc72 := NB280_286.out; have hcz73_0 : w67.cell? ⟨gb286, 0, none⟩ = some (.int .i64 0) := bc_ BK286 0; have hcz73_1 : w67.cell? ⟨gb286, 1, none⟩ = some (.slice none 0 0) := bc_ BK286 1; have hfz73_0 := blk_frozen BK286.out 0; have hfz73_1 := blk_frozen BK286.out 1; obtain ⟨Ao74, co74, eo74⟩ := Kd.R_slice HO284.out; subst eo74))
   (try simp only [Act.put, List.setIfInBounds_toArray, List.set_cons_zero, List.set_cons_succ])
   go_cut [53] (fun v53 wc => ∃ (kq : Nat) (x53_24 : Bool), v53 = .bool x53_24 ∧ Aside0 (laws_FnExactMultiplyLaurent.j0 kq t269 t285 x53_24 a0_0 l0_1 a1_0 l1_1 t265 t266 t271 t272 t276 t277 t281 t282 = some r) ∧ Aside0 (kq ≤ k) ∧ Aside0 (Kd.R (Kd.int .i64) 2 wc w.heap.size (fun k_ => some k_ ≠ ((.slice Ao52 t272.length co52) : Value).ownBlock ∧ some k_ ≠ ((.slice Ao62 t277.length co62) : Value).ownBlock ∧ some k_ ≠ ((.slice Ao74 t282.length co74) : Value).ownBlock) (.slice Ao42 t266.length co42) t266) ∧ Aside0 (Kd.R (Kd.int .i64) 2 wc w.heap.size (fun k_ => some k_ ≠ ((.slice Ao42 t266.length co42) : Value).ownBlock ∧ some k_ ≠ ((.slice Ao62 t277.length co62) : Value).ownBlock ∧ some k_ ≠ ((.slice Ao74 t282.length co74) : Value).ownBlock) (.slice Ao52 t272.length co52) t272) ∧ Aside0 (Kd.R (Kd.int .i64) 2 wc w.heap.size (fun k_ => some k_ ≠ ((.slice Ao42 t266.length co42) : Value).ownBlock ∧ some k_ ≠ ((.slice Ao52 t272.length co52) : Value).ownBlock ∧ some k_ ≠ ((.slice Ao74 t282.length co74) : Value).ownBlock) (.slice Ao62 t277.length co62) t277) ∧ Aside0 (Kd.R (Kd.int .i64) 2 wc w.heap.size (fun k_ => some k_ ≠ ((.slice Ao42 t266.length co42) : Value).ownBlock ∧ some k_ ≠ ((.slice Ao52 t272.length co52) : Value).ownBlock ∧ some k_ ≠ ((.slice Ao62 t277.length co62) : Value).ownBlock) (.slice Ao74 t282.length co74) t282) ∧ Aside0 (wc.heap[gb253]? = some (.cells #[.int .i64 a0_0, (.slice A0_1 l0_1.length c0_1)] 24 (0, 0))) ∧ Aside0 (wc.heap[gb254]? = some (.cells #[.int .i64 a1_0, (.slice A1_1 l1_1.length c1_1)] 24 (0, 0))) ∧ Aside0 (wc.heap[gb270]? = some (.cells #[.int .i64 t265, (.slice Ao42 t266.length co42)] 26 (0, 0))) ∧ Aside0 (wc.heap[gb275]? = some (.cells #[.int .i64 t271, (.slice Ao52 t272.length co52)] 26 (0, 0))) ∧ Aside0 (wc.heap[gb280]? = some (.cells #[.int .i64 t276, (.slice Ao62 t277.length co62)] 26 (0, 0))) ∧ Aside0 (wc.heap[gb286]? = some (.cells #[.int .i64 t281, (.slice Ao74 t282.length co74)] 26 (0, 0))) ∧ Aside0 (Below w.heap.size w wc))
   case first =>
    have H := HC25.out
    clear HC25
    replace H := Option.bind_eq_some_iff.mp H
    obtain ⟨t287, A750, H⟩ := H
    replace H : (if t287 = true then (laws_FnExactMultiplyLaurent.j0 k t269 t285 (t285 != t269) a0_0 l0_1 a1_0 l1_1 t265 t266 t271 t272 t276 t277 t281 t282) else (laws_FnExactMultiplyLaurent.j0 k t269 t285 true a0_0 l0_1 a1_0 l1_1 t265 t266 t271 t272 t276 t277 t281 t282)) = some r := H
    have A75 := am_ A750
    clear A750
    by_cases c76 : t287 = true
    ·subst c76
     have H1 : (laws_FnExactMultiplyLaurent.j0 k t269 t285 (t285 != t269) a0_0 l0_1 a1_0 l1_1 t265 t266 t271 t272 t276 t277 t281 t282) = some r := by rw [if_pos rfl] at H; exact H
     clear H
     have H := H1
     clear H1
     have H' := am_ H
     clear H
     have hnb77 := NB286_253.out
     have hnc77 := NB253_286.out
     have hnb78 := NB286_254.out
     have hnc78 := NB254_286.out
     have hnb79 := NB286_270.out
     have hnc79 := NB270_286.out
     have hnb80 := NB286_275.out
     have hnc80 := NB275_286.out
     have hnb81 := NB286_280.out
     have hnc81 := NB280_286.out
     have hcz82_0 : w67.cell? ⟨gb286, 0, none⟩ = some (.int .i64 0) := bc_ BK286 0
     have hcz82_1 : w67.cell? ⟨gb286, 1, none⟩ = some (.slice none 0 0) := bc_ BK286 1
     have hfz82_0 := blk_frozen BK286.out 0
     have hfz82_1 := blk_frozen BK286.out 1
     have hnb83 := NB270_253.out
     have hnc83 := NB253_270.out
     have hnb84 := NB270_254.out
     have hnc84 := NB254_270.out
     have hnb85 := NB270_275.out
     have hnc85 := NB275_270.out
     have hnb86 := NB270_280.out
     have hnc86 := NB280_270.out
     have hcz87_0 : w67.cell? ⟨gb270, 0, none⟩ = some (.int .i64 t265) := bc_ BK270 0
     have hcz87_1 : w67.cell? ⟨gb270, 1, none⟩ = some (.slice Ao42 t266.length co42) := bc_ BK270 1
     have hfz87_0 := blk_frozen BK270.out 0
     have hfz87_1 := blk_frozen BK270.out 1
     go_wp2_with (first | ((with_reducible refine gate_callee (f := 9) rfl ?_); refine goesL_ (some 47) rfl rfl Try.func9 (by kernel_rfl) rfl #[.agg #[.int .i64 t281, .slice Ao74 t282.length co74], .agg #[.int .i64 t265, .slice Ao42 t266.length co42]] rfl lm_ ?_; (with_reducible refine (laws_eqLaurent.calls k t281 _ _ t282 t265 _ _ t266 true _ ?side1 ?side2 ?side3 ?side4 A75.out).mono ?_); (case side1 => refine (Kd.R_reads' (e := 2) (base := w.heap.size) (ok := fun k_ => (((((True ∧ some k_ ≠ (v259 : Value).ownBlock) ∧ some k_ ≠ (v263 : Value).ownBlock) ∧ some k_ ≠ (.slice Ao42 t266.length co42 : Value).ownBlock) ∧ some k_ ≠ (.slice Ao52 t272.length co52 : Value).ownBlock) ∧ some k_ ≠ (.slice Ao62 t277.length co62 : Value).ownBlock)) (n := t282.length) (c := co74) ?_).2.2; exact ((rm_ (Kd.R_far (p := ⟨gb286, 1, none⟩) (Kd.R_far (p := ⟨gb286, 0, none⟩) (Kd.R_types HO284.out BK286.out (by decide)) (fun _ hk => hk.2) (.int .i64 t281)) (fun _ hk => hk.2) (.slice Ao74 t282.length co74)) (fun _ h_ => h_.1)))); (case side2 => exact (Kd.R_reads' HO284.out).2.1); (case side3 => refine (Kd.R_reads' (e := 2) (base := w.heap.size) (ok := fun k_ => ((some k_ ≠ (v259 : Value).ownBlock ∧ (some k_ ≠ (v263 : Value).ownBlock ∧ (some k_ ≠ (.slice Ao52 t272.length co52 : Value).ownBlock ∧ some k_ ≠ (.slice Ao62 t277.length co62 : Value).ownBlock))) ∧ some k_ ≠ (.slice Ao74 t282.length co74 : Value).ownBlock)) (n := t266.length) (c := co42) ?_).2.2; exact ((rm_ (Kd.R_far (p := ⟨gb286, 1, none⟩) (Kd.R_far (p := ⟨gb286, 0, none⟩) (Kd.R_types HO268.out BK286.out (by decide)) (fun _ hk => hk.2) (.int .i64 t281)) (fun _ hk => hk.2) (.slice Ao74 t282.length co74)) (fun _ h_ => h_.1)))); (case side4 => exact (Kd.R_reads' HO268.out).2.1); rintro e w88 ⟨rfl, hb⟩; refine ⟨_, rfl, ?_⟩; have n0_ := am_ (Kd.R_below ((rm_ (Kd.R_far (p := ⟨gb286, 1, none⟩) (Kd.R_far (p := ⟨gb286, 0, none⟩) (Kd.R_types HO260.out BK286.out (by decide)) (fun _ hk => hk.2) (.int .i64 t281)) (fun _ hk => hk.2) (.slice Ao74 t282.length co74)) (fun _ h_ => h_.1))) hb); have n1_ := am_ (Kd.R_below ((rm_ (Kd.R_far (p := ⟨gb286, 1, none⟩) (Kd.R_far (p := ⟨gb286, 0, none⟩) (Kd.R_types HO264.out BK286.out (by decide)) (fun _ hk => hk.2) (.int .i64 t281)) (fun _ hk => hk.2) (.slice Ao74 t282.length co74)) (fun _ h_ => h_.1))) hb); have n2_ := am_ (Kd.R_below ((rm_ (Kd.R_far (p := ⟨gb286, 1, none⟩) (Kd.R_far (p := ⟨gb286, 0, none⟩) (Kd.R_types HO268.out BK286.out (by decide)) (fun _ hk => hk.2) (.int .i64 t281)) (fun _ hk => hk.2) (.slice Ao74 t282.length co74)) (fun _ h_ => h_.1))) hb); have n3_ := am_ (Kd.R_below ((rm_ (Kd.R_far (p := ⟨gb286, 1, none⟩) (Kd.R_far (p := ⟨gb286, 0, none⟩) (Kd.R_types HO274.out BK286.out (by decide)) (fun _ hk => hk.2) (.int .i64 t281)) (fun _ hk => hk.2) (.slice Ao74 t282.length co74)) (fun _ h_ => h_.1))) hb); have n4_ := am_ (Kd.R_below ((rm_ (Kd.R_far (p := ⟨gb286, 1, none⟩) (Kd.R_far (p := ⟨gb286, 0, none⟩) (Kd.R_types HO279.out BK286.out (by decide)) (fun _ hk => hk.2) (.int .i64 t281)) (fun _ hk => hk.2) (.slice Ao74 t282.length co74)) (fun _ h_ => h_.1))) hb); have n5_ := am_ (Kd.R_below ((rm_ (Kd.R_far (p := ⟨gb286, 1, none⟩) (Kd.R_far (p := ⟨gb286, 0, none⟩) (Kd.R_types HO284.out BK286.out (by decide)) (fun _ hk => hk.2) (.int .i64 t281)) (fun _ hk => hk.2) (.slice Ao74 t282.length co74)) (fun _ h_ => h_.1))) hb); have n6_ := am_ (bw_ BK253 hb); have n7_ := am_ (bw_ BK254 hb); have n8_ := am_ (bw_ BK270 hb); have n9_ := am_ (bw_ BK275 hb); have n10_ := am_ (bw_ BK280 hb); have n11_ := am_ (blk_below (g := gb286) (o := .cells #[.int .i64 t281, .slice Ao74 t282.length co74] 26 (0, 0)) (by (with_reducible repeat (first | refine blk_drewN ?_ _ | refine blk_drew ?_ | refine blk_alloc ?_ _)); refine blk_put (cs := #[.int .i64 t281, .slice none 0 0]) ?_ 1 _ rfl; (with_reducible repeat (first | refine blk_drewN ?_ _ | refine blk_drew ?_ | refine blk_alloc ?_ _)); refine blk_put (cs := #[.int .i64 0, .slice none 0 0]) ?_ 0 _ rfl; (with_reducible repeat (first | refine blk_drewN ?_ _ | refine blk_drew ?_ | refine blk_alloc ?_ _)); exact BK286.out) hb); have n12_ := am_ (below_step (bb_ HB.out) hb); clear HO260 HO264 HO268 HO274 HO279 HO284 BK253 BK254 BK270 BK275 BK280 BK286 HB; revert n0_ n1_ n2_ n3_ n4_ n5_ n6_ n7_ n8_ n9_ n10_ n11_ n12_; intro HO260 HO264 HO268 HO274 HO279 HO284 BK253 BK254 BK270 BK275 BK280 BK286 HB; (try clear hb); (try clear hb2); (try clear hk); (try clear hi)))
     go_meet
     case rel => exact ⟨_, ((t285 != t269)), (by first | rfl | (simp; done) | (simp [*]; done)), H', ⟨by first | omega | exact Nat.le_refl _⟩, ⟨rm_ HO268.out (fun _ hk => by first | exact ⟨hk.1.2.2.1, ⟨hk.1.2.2.2, hk.2⟩⟩ | simp only [hk, and_self, ne_eq, not_false_eq_true, true_and, and_true])⟩, ⟨rm_ HO274.out (fun _ hk => by first | exact ⟨hk.1.2.2.1, ⟨hk.1.2.2.2, hk.2⟩⟩ | simp only [hk, and_self, ne_eq, not_false_eq_true, true_and, and_true])⟩, ⟨rm_ HO279.out (fun _ hk => by first | exact ⟨hk.1.2.2.1, ⟨hk.1.2.2.2, hk.2⟩⟩ | simp only [hk, and_self, ne_eq, not_false_eq_true, true_and, and_true])⟩, ⟨rm_ HO284.out (fun _ hk => by first | exact ⟨hk.1.1.2, ⟨hk.1.2, hk.2⟩⟩ | simp only [hk, and_self, ne_eq, not_false_eq_true, true_and, and_true])⟩, ⟨bk_ BK253.out⟩, ⟨bk_ BK254.out⟩, ⟨bk_ BK270.out⟩, ⟨bk_ BK275.out⟩, ⟨bk_ BK280.out⟩, ⟨bk_ BK286.out⟩, ⟨bb_ HB.out⟩⟩
    ·replace c76 := Bool.eq_false_iff.mpr c76
     subst c76
     have H1 : (laws_FnExactMultiplyLaurent.j0 k t269 t285 true a0_0 l0_1 a1_0 l1_1 t265 t266 t271 t272 t276 t277 t281 t282) = some r := by rw [if_neg (show ¬ (false = true) by decide)] at H; exact H
     clear H
     have H := H1
     clear H1
     have H' := am_ H
     clear H
     have hnb89 := NB286_253.out
     have hnc89 := NB253_286.out
     have hnb90 := NB286_254.out
     have hnc90 := NB254_286.out
     have hnb91 := NB286_270.out
     have hnc91 := NB270_286.out
     have hnb92 := NB286_275.out
     have hnc92 := NB275_286.out
     have hnb93 := NB286_280.out
     have hnc93 := NB280_286.out
     have hcz94_0 : w67.cell? ⟨gb286, 0, none⟩ = some (.int .i64 0) := bc_ BK286 0
     have hcz94_1 : w67.cell? ⟨gb286, 1, none⟩ = some (.slice none 0 0) := bc_ BK286 1
     have hfz94_0 := blk_frozen BK286.out 0
     have hfz94_1 := blk_frozen BK286.out 1
     have hnb95 := NB270_253.out
     have hnc95 := NB253_270.out
     have hnb96 := NB270_254.out
     have hnc96 := NB254_270.out
     have hnb97 := NB270_275.out
     have hnc97 := NB275_270.out
     have hnb98 := NB270_280.out
     have hnc98 := NB280_270.out
     have hcz99_0 : w67.cell? ⟨gb270, 0, none⟩ = some (.int .i64 t265) := bc_ BK270 0
     have hcz99_1 : w67.cell? ⟨gb270, 1, none⟩ = some (.slice Ao42 t266.length co42) := bc_ BK270 1
     have hfz99_0 := blk_frozen BK270.out 0
     have hfz99_1 := blk_frozen BK270.out 1
     go_wp2_with (first | ((with_reducible refine gate_callee (f := 9) rfl ?_); refine goesL_ (some 47) rfl rfl Try.func9 (by kernel_rfl) rfl #[.agg #[.int .i64 t281, .slice Ao74 t282.length co74], .agg #[.int .i64 t265, .slice Ao42 t266.length co42]] rfl lm_ ?_; (with_reducible refine (laws_eqLaurent.calls k t281 _ _ t282 t265 _ _ t266 false _ ?side1 ?side2 ?side3 ?side4 A75.out).mono ?_); (case side1 => refine (Kd.R_reads' (e := 2) (base := w.heap.size) (ok := fun k_ => (((((True ∧ some k_ ≠ (v259 : Value).ownBlock) ∧ some k_ ≠ (v263 : Value).ownBlock) ∧ some k_ ≠ (.slice Ao42 t266.length co42 : Value).ownBlock) ∧ some k_ ≠ (.slice Ao52 t272.length co52 : Value).ownBlock) ∧ some k_ ≠ (.slice Ao62 t277.length co62 : Value).ownBlock)) (n := t282.length) (c := co74) ?_).2.2; exact ((rm_ (Kd.R_far (p := ⟨gb286, 1, none⟩) (Kd.R_far (p := ⟨gb286, 0, none⟩) (Kd.R_types HO284.out BK286.out (by decide)) (fun _ hk => hk.2) (.int .i64 t281)) (fun _ hk => hk.2) (.slice Ao74 t282.length co74)) (fun _ h_ => h_.1)))); (case side2 => exact (Kd.R_reads' HO284.out).2.1); (case side3 => refine (Kd.R_reads' (e := 2) (base := w.heap.size) (ok := fun k_ => ((some k_ ≠ (v259 : Value).ownBlock ∧ (some k_ ≠ (v263 : Value).ownBlock ∧ (some k_ ≠ (.slice Ao52 t272.length co52 : Value).ownBlock ∧ some k_ ≠ (.slice Ao62 t277.length co62 : Value).ownBlock))) ∧ some k_ ≠ (.slice Ao74 t282.length co74 : Value).ownBlock)) (n := t266.length) (c := co42) ?_).2.2; exact ((rm_ (Kd.R_far (p := ⟨gb286, 1, none⟩) (Kd.R_far (p := ⟨gb286, 0, none⟩) (Kd.R_types HO268.out BK286.out (by decide)) (fun _ hk => hk.2) (.int .i64 t281)) (fun _ hk => hk.2) (.slice Ao74 t282.length co74)) (fun _ h_ => h_.1)))); (case side4 => exact (Kd.R_reads' HO268.out).2.1); rintro e w100 ⟨rfl, hb⟩; refine ⟨_, rfl, ?_⟩; have n0_ := am_ (Kd.R_below ((rm_ (Kd.R_far (p := ⟨gb286, 1, none⟩) (Kd.R_far (p := ⟨gb286, 0, none⟩) (Kd.R_types HO260.out BK286.out (by decide)) (fun _ hk => hk.2) (.int .i64 t281)) (fun _ hk => hk.2) (.slice Ao74 t282.length co74)) (fun _ h_ => h_.1))) hb); have n1_ := am_ (Kd.R_below ((rm_ (Kd.R_far (p := ⟨gb286, 1, none⟩) (Kd.R_far (p := ⟨gb286, 0, none⟩) (Kd.R_types HO264.out BK286.out (by decide)) (fun _ hk => hk.2) (.int .i64 t281)) (fun _ hk => hk.2) (.slice Ao74 t282.length co74)) (fun _ h_ => h_.1))) hb); have n2_ := am_ (Kd.R_below ((rm_ (Kd.R_far (p := ⟨gb286, 1, none⟩) (Kd.R_far (p := ⟨gb286, 0, none⟩) (Kd.R_types HO268.out BK286.out (by decide)) (fun _ hk => hk.2) (.int .i64 t281)) (fun _ hk => hk.2) (.slice Ao74 t282.length co74)) (fun _ h_ => h_.1))) hb); have n3_ := am_ (Kd.R_below ((rm_ (Kd.R_far (p := ⟨gb286, 1, none⟩) (Kd.R_far (p := ⟨gb286, 0, none⟩) (Kd.R_types HO274.out BK286.out (by decide)) (fun _ hk => hk.2) (.int .i64 t281)) (fun _ hk => hk.2) (.slice Ao74 t282.length co74)) (fun _ h_ => h_.1))) hb); have n4_ := am_ (Kd.R_below ((rm_ (Kd.R_far (p := ⟨gb286, 1, none⟩) (Kd.R_far (p := ⟨gb286, 0, none⟩) (Kd.R_types HO279.out BK286.out (by decide)) (fun _ hk => hk.2) (.int .i64 t281)) (fun _ hk => hk.2) (.slice Ao74 t282.length co74)) (fun _ h_ => h_.1))) hb); have n5_ := am_ (Kd.R_below ((rm_ (Kd.R_far (p := ⟨gb286, 1, none⟩) (Kd.R_far (p := ⟨gb286, 0, none⟩) (Kd.R_types HO284.out BK286.out (by decide)) (fun _ hk => hk.2) (.int .i64 t281)) (fun _ hk => hk.2) (.slice Ao74 t282.length co74)) (fun _ h_ => h_.1))) hb); have n6_ := am_ (bw_ BK253 hb); have n7_ := am_ (bw_ BK254 hb); have n8_ := am_ (bw_ BK270 hb); have n9_ := am_ (bw_ BK275 hb); have n10_ := am_ (bw_ BK280 hb); have n11_ := am_ (blk_below (g := gb286) (o := .cells #[.int .i64 t281, .slice Ao74 t282.length co74] 26 (0, 0)) (by (with_reducible repeat (first | refine blk_drewN ?_ _ | refine blk_drew ?_ | refine blk_alloc ?_ _)); refine blk_put (cs := #[.int .i64 t281, .slice none 0 0]) ?_ 1 _ rfl; (with_reducible repeat (first | refine blk_drewN ?_ _ | refine blk_drew ?_ | refine blk_alloc ?_ _)); refine blk_put (cs := #[.int .i64 0, .slice none 0 0]) ?_ 0 _ rfl; (with_reducible repeat (first | refine blk_drewN ?_ _ | refine blk_drew ?_ | refine blk_alloc ?_ _)); exact BK286.out) hb); have n12_ := am_ (below_step (bb_ HB.out) hb); clear HO260 HO264 HO268 HO274 HO279 HO284 BK253 BK254 BK270 BK275 BK280 BK286 HB; revert n0_ n1_ n2_ n3_ n4_ n5_ n6_ n7_ n8_ n9_ n10_ n11_ n12_; intro HO260 HO264 HO268 HO274 HO279 HO284 BK253 BK254 BK270 BK275 BK280 BK286 HB; (try clear hb); (try clear hb2); (try clear hk); (try clear hi)))
     go_meet
     case rel => exact ⟨_, (true), (by first | rfl | (simp; done) | (simp [*]; done)), H', ⟨by first | omega | exact Nat.le_refl _⟩, ⟨rm_ HO268.out (fun _ hk => by first | exact ⟨hk.1.2.2.1, ⟨hk.1.2.2.2, hk.2⟩⟩ | simp only [hk, and_self, ne_eq, not_false_eq_true, true_and, and_true])⟩, ⟨rm_ HO274.out (fun _ hk => by first | exact ⟨hk.1.2.2.1, ⟨hk.1.2.2.2, hk.2⟩⟩ | simp only [hk, and_self, ne_eq, not_false_eq_true, true_and, and_true])⟩, ⟨rm_ HO279.out (fun _ hk => by first | exact ⟨hk.1.2.2.1, ⟨hk.1.2.2.2, hk.2⟩⟩ | simp only [hk, and_self, ne_eq, not_false_eq_true, true_and, and_true])⟩, ⟨rm_ HO284.out (fun _ hk => by first | exact ⟨hk.1.1.2, ⟨hk.1.2, hk.2⟩⟩ | simp only [hk, and_self, ne_eq, not_false_eq_true, true_and, and_true])⟩, ⟨bk_ BK253.out⟩, ⟨bk_ BK254.out⟩, ⟨bk_ BK270.out⟩, ⟨bk_ BK275.out⟩, ⟨bk_ BK280.out⟩, ⟨bk_ BK286.out⟩, ⟨bb_ HB.out⟩⟩
   case rest =>
    clear HC25
    try clear c1
    try clear p2
    try clear c4
    try clear c5
    try clear c6
    try clear c7
    try clear c8
    try clear c9
    try clear c12
    try clear c13
    try clear c44
    try clear c48
    try clear c49
    try clear c50
    try clear c53
    try clear c57
    try clear c58
    try clear c59
    try clear c60
    try clear c68
    try clear c69
    try clear c70
    try clear c71
    try clear c72
    try clear c76
    try clear c77
    try clear c78
    try clear c79
    try clear c80
    try clear c81
    try clear c83
    try clear c84
    try clear c85
    try clear c86
    try clear c89
    try clear c90
    try clear c91
    try clear c92
    try clear c93
    try clear c95
    try clear c96
    try clear c97
    try clear c98
    try clear hcz45_0
    try clear hcz45_1
    try clear hcz51_0
    try clear hcz51_1
    try clear hcz54_0
    try clear hcz54_1
    try clear hcz61_0
    try clear hcz61_1
    try clear hcz64_0
    try clear hcz64_1
    try clear hcz65_0
    try clear hcz65_1
    try clear hcz73_0
    try clear hcz73_1
    try clear hcz82_0
    try clear hcz82_1
    try clear hcz87_0
    try clear hcz87_1
    try clear hcz94_0
    try clear hcz94_1
    try clear hcz99_0
    try clear hcz99_1
    try clear hfz45_0
    try clear hfz45_1
    try clear hfz51_0
    try clear hfz51_1
    try clear hfz54_0
    try clear hfz54_1
    try clear hfz61_0
    try clear hfz61_1
    try clear hfz64_0
    try clear hfz64_1
    try clear hfz65_0
    try clear hfz65_1
    try clear hfz73_0
    try clear hfz73_1
    try clear hfz82_0
    try clear hfz82_1
    try clear hfz87_0
    try clear hfz87_1
    try clear hfz94_0
    try clear hfz94_1
    try clear hfz99_0
    try clear hfz99_1
    obtain ⟨kq, x53_24, rfl, HA, HJ24, HO_271001, HO_276001, HO_281001, HO_287001, BK253, BK254, BK270, BK275, BK280, BK286, HB⟩ := hcut
    cases kq with
    | zero => exact absurd HA.out (by simp [laws_FnExactMultiplyLaurent.j0])
    | succ kj24 =>
     have H := HA.out
     clear HA
     simp only [laws_FnExactMultiplyLaurent.j0] at H
     by_cases c101 : x53_24 = true
     ·subst c101
      have H1 : (some false) = some r := by rw [if_pos rfl] at H; exact H
      clear H
      have H := H1
      clear H1
      exact absurd ((Option.some.inj H).trans HTRUE_.out) (by simp)
     ·replace c101 := Bool.eq_false_iff.mpr c101
      subst c101
      have H1 : ((laws_toLaurent.f kj24 a0_0 l0_1).bind fun bt288 => ((laws_eqLaurent.f kj24 t271 t272 bt288.1 bt288.2).bind fun t292 => (if t292 = true then ((laws_toLaurent.f kj24 a1_0 l1_1).bind fun bt293 => ((laws_eqLaurent.f kj24 t276 t277 bt293.1 bt293.2).bind fun t297 => (if t297 = true then ((laws_markLaurent.f kj24 t271 t272 1).bind fun bt298 => ((laws_markLaurent.f kj24 t276 t277 bt298.1).bind fun bt300 => (if bt300.1 < 0 then (laws_FnExactMultiplyLaurent.j1 kj24 t269 true a0_0 l0_1 a1_0 l1_1 t265 t266 t281 t282) else ((laws_eqLaurent.f kj24 t281 t282 t265 t266).bind fun t302 => (if t302 = true then (laws_FnExactMultiplyLaurent.j1 kj24 t269 (t285 != t269) a0_0 l0_1 a1_0 l1_1 t265 t266 t281 t282) else (laws_FnExactMultiplyLaurent.j1 kj24 t269 true a0_0 l0_1 a1_0 l1_1 t265 t266 t281 t282)))))) else (some false)))) else (some false)))) = some r := by rw [if_neg (show ¬ (false = true) by decide)] at H; exact H
      clear H
      have H := H1
      clear H1
      replace H := Option.bind_eq_some_iff.mp H
      obtain ⟨⟨t288, t289⟩, A1020, H⟩ := H
      replace H : ((laws_eqLaurent.f kj24 t271 t272 t288 t289).bind fun t292 => (if t292 = true then ((laws_toLaurent.f kj24 a1_0 l1_1).bind fun bt293 => ((laws_eqLaurent.f kj24 t276 t277 bt293.1 bt293.2).bind fun t297 => (if t297 = true then ((laws_markLaurent.f kj24 t271 t272 1).bind fun bt298 => ((laws_markLaurent.f kj24 t276 t277 bt298.1).bind fun bt300 => (if bt300.1 < 0 then (laws_FnExactMultiplyLaurent.j1 kj24 t269 true a0_0 l0_1 a1_0 l1_1 t265 t266 t281 t282) else ((laws_eqLaurent.f kj24 t281 t282 t265 t266).bind fun t302 => (if t302 = true then (laws_FnExactMultiplyLaurent.j1 kj24 t269 (t285 != t269) a0_0 l0_1 a1_0 l1_1 t265 t266 t281 t282) else (laws_FnExactMultiplyLaurent.j1 kj24 t269 true a0_0 l0_1 a1_0 l1_1 t265 t266 t281 t282)))))) else (some false)))) else (some false))) = some r := H
      have A102 := am_ A1020
      clear A1020
      replace H := Option.bind_eq_some_iff.mp H
      obtain ⟨t292, A1030, H⟩ := H
      replace H : (if t292 = true then ((laws_toLaurent.f kj24 a1_0 l1_1).bind fun bt293 => ((laws_eqLaurent.f kj24 t276 t277 bt293.1 bt293.2).bind fun t297 => (if t297 = true then ((laws_markLaurent.f kj24 t271 t272 1).bind fun bt298 => ((laws_markLaurent.f kj24 t276 t277 bt298.1).bind fun bt300 => (if bt300.1 < 0 then (laws_FnExactMultiplyLaurent.j1 kj24 t269 true a0_0 l0_1 a1_0 l1_1 t265 t266 t281 t282) else ((laws_eqLaurent.f kj24 t281 t282 t265 t266).bind fun t302 => (if t302 = true then (laws_FnExactMultiplyLaurent.j1 kj24 t269 (t285 != t269) a0_0 l0_1 a1_0 l1_1 t265 t266 t281 t282) else (laws_FnExactMultiplyLaurent.j1 kj24 t269 true a0_0 l0_1 a1_0 l1_1 t265 t266 t281 t282)))))) else (some false)))) else (some false)) = some r := H
      have A103 := am_ A1030
      clear A1030
      by_cases c104 : t292 = true
      ·subst c104
       have H1 : ((laws_toLaurent.f kj24 a1_0 l1_1).bind fun bt293 => ((laws_eqLaurent.f kj24 t276 t277 bt293.1 bt293.2).bind fun t297 => (if t297 = true then ((laws_markLaurent.f kj24 t271 t272 1).bind fun bt298 => ((laws_markLaurent.f kj24 t276 t277 bt298.1).bind fun bt300 => (if bt300.1 < 0 then (laws_FnExactMultiplyLaurent.j1 kj24 t269 true a0_0 l0_1 a1_0 l1_1 t265 t266 t281 t282) else ((laws_eqLaurent.f kj24 t281 t282 t265 t266).bind fun t302 => (if t302 = true then (laws_FnExactMultiplyLaurent.j1 kj24 t269 (t285 != t269) a0_0 l0_1 a1_0 l1_1 t265 t266 t281 t282) else (laws_FnExactMultiplyLaurent.j1 kj24 t269 true a0_0 l0_1 a1_0 l1_1 t265 t266 t281 t282)))))) else (some false)))) = some r := by rw [if_pos rfl] at H; exact H
       clear H
       have H := H1
       clear H1
       replace H := Option.bind_eq_some_iff.mp H
       obtain ⟨⟨t293, t294⟩, A1050, H⟩ := H
       replace H : ((laws_eqLaurent.f kj24 t276 t277 t293 t294).bind fun t297 => (if t297 = true then ((laws_markLaurent.f kj24 t271 t272 1).bind fun bt298 => ((laws_markLaurent.f kj24 t276 t277 bt298.1).bind fun bt300 => (if bt300.1 < 0 then (laws_FnExactMultiplyLaurent.j1 kj24 t269 true a0_0 l0_1 a1_0 l1_1 t265 t266 t281 t282) else ((laws_eqLaurent.f kj24 t281 t282 t265 t266).bind fun t302 => (if t302 = true then (laws_FnExactMultiplyLaurent.j1 kj24 t269 (t285 != t269) a0_0 l0_1 a1_0 l1_1 t265 t266 t281 t282) else (laws_FnExactMultiplyLaurent.j1 kj24 t269 true a0_0 l0_1 a1_0 l1_1 t265 t266 t281 t282)))))) else (some false))) = some r := H
       have A105 := am_ A1050
       clear A1050
       replace H := Option.bind_eq_some_iff.mp H
       obtain ⟨t297, A1060, H⟩ := H
       replace H : (if t297 = true then ((laws_markLaurent.f kj24 t271 t272 1).bind fun bt298 => ((laws_markLaurent.f kj24 t276 t277 bt298.1).bind fun bt300 => (if bt300.1 < 0 then (laws_FnExactMultiplyLaurent.j1 kj24 t269 true a0_0 l0_1 a1_0 l1_1 t265 t266 t281 t282) else ((laws_eqLaurent.f kj24 t281 t282 t265 t266).bind fun t302 => (if t302 = true then (laws_FnExactMultiplyLaurent.j1 kj24 t269 (t285 != t269) a0_0 l0_1 a1_0 l1_1 t265 t266 t281 t282) else (laws_FnExactMultiplyLaurent.j1 kj24 t269 true a0_0 l0_1 a1_0 l1_1 t265 t266 t281 t282)))))) else (some false)) = some r := H
       have A106 := am_ A1060
       clear A1060
       by_cases c107 : t297 = true
       ·subst c107
        have H1 : ((laws_markLaurent.f kj24 t271 t272 1).bind fun bt298 => ((laws_markLaurent.f kj24 t276 t277 bt298.1).bind fun bt300 => (if bt300.1 < 0 then (laws_FnExactMultiplyLaurent.j1 kj24 t269 true a0_0 l0_1 a1_0 l1_1 t265 t266 t281 t282) else ((laws_eqLaurent.f kj24 t281 t282 t265 t266).bind fun t302 => (if t302 = true then (laws_FnExactMultiplyLaurent.j1 kj24 t269 (t285 != t269) a0_0 l0_1 a1_0 l1_1 t265 t266 t281 t282) else (laws_FnExactMultiplyLaurent.j1 kj24 t269 true a0_0 l0_1 a1_0 l1_1 t265 t266 t281 t282)))))) = some r := by rw [if_pos rfl] at H; exact H
        clear H
        have H := H1
        clear H1
        replace H := Option.bind_eq_some_iff.mp H
        obtain ⟨⟨t298, t299⟩, A1080, H⟩ := H
        replace H : ((laws_markLaurent.f kj24 t276 t277 t298).bind fun bt300 => (if bt300.1 < 0 then (laws_FnExactMultiplyLaurent.j1 kj24 t269 true a0_0 l0_1 a1_0 l1_1 t265 t266 t281 t282) else ((laws_eqLaurent.f kj24 t281 t282 t265 t266).bind fun t302 => (if t302 = true then (laws_FnExactMultiplyLaurent.j1 kj24 t269 (t285 != t269) a0_0 l0_1 a1_0 l1_1 t265 t266 t281 t282) else (laws_FnExactMultiplyLaurent.j1 kj24 t269 true a0_0 l0_1 a1_0 l1_1 t265 t266 t281 t282))))) = some r := H
        have A108 := am_ A1080
        clear A1080
        replace H := Option.bind_eq_some_iff.mp H
        obtain ⟨⟨t300, t301⟩, A1090, H⟩ := H
        replace H : (if t300 < 0 then (laws_FnExactMultiplyLaurent.j1 kj24 t269 true a0_0 l0_1 a1_0 l1_1 t265 t266 t281 t282) else ((laws_eqLaurent.f kj24 t281 t282 t265 t266).bind fun t302 => (if t302 = true then (laws_FnExactMultiplyLaurent.j1 kj24 t269 (t285 != t269) a0_0 l0_1 a1_0 l1_1 t265 t266 t281 t282) else (laws_FnExactMultiplyLaurent.j1 kj24 t269 true a0_0 l0_1 a1_0 l1_1 t265 t266 t281 t282)))) = some r := H
        have A109 := am_ A1090
        clear A1090
        have HC110 := am_ H
        clear H
        try go_wp2
        have n0_ := am_ (Kd.R_drew HO_271001.out)
        have n1_ := am_ (Kd.R_drew HO_276001.out)
        have n2_ := am_ (Kd.R_drew HO_281001.out)
        have n3_ := am_ (Kd.R_drew HO_287001.out)
        have n4_ := am_ (blk_drew BK253.out)
        have n5_ := am_ (blk_drew BK254.out)
        have n6_ := am_ (blk_drew BK270.out)
        have n7_ := am_ (blk_drew BK275.out)
        have n8_ := am_ (blk_drew BK280.out)
        have n9_ := am_ (blk_drew BK286.out)
        have n10_ := am_ (below_drew1 HB.out)
        clear HO_271001 HO_276001 HO_281001 HO_287001 BK253 BK254 BK270 BK275 BK280 BK286 HB; revert n0_ n1_ n2_ n3_ n4_ n5_ n6_ n7_ n8_ n9_ n10_; intro HO_271001 HO_276001 HO_281001 HO_287001 BK253 BK254 BK270 BK275 BK280 BK286 HB
        refine start_ (n := 5) (S := fun w' => w'.cell? ⟨gb275, 0, none⟩ = some (.int .i64 t271) ∧ w'.cell? ⟨gb275, 1, none⟩ = some (.slice Ao52 t272.length co52) ∧ w'.cell? ⟨gb253, 0, none⟩ = some (.int .i64 a0_0) ∧ w'.cell? ⟨gb253, 1, none⟩ = some (.slice A0_1 l0_1.length c0_1)) (ds := []) #[false, false, false, false, false] (by kernel_rfl) rfl rfl ⟨bc_ BK275 0, bc_ BK275 1, bc_ BK253 0, bc_ BK253 1⟩ (fun hHeld => ?_)
        generalize wc.drew = w111 at HO_271001 HO_276001 HO_281001 HO_287001 BK253 BK254 BK270 BK275 BK280 BK286 HB hHeld ⊢
        refine take_ (i := 0) (N := some 54) (v := ?_) (a' := ?_) #[true, false, false, false, false] rfl rfl (by kernel_rfl) (fun _ _ _ h => h) (Or.inl ⟨by rfl, ?_⟩) hHeld ?_ ?_
        rotate_left
        ·rintro w' ⟨s0, s1, s2, s3⟩
         go_simp
         with_reducible rfl
        rotate_left
        ·simp only [Act.put, List.setIfInBounds_toArray, List.set_cons_zero, List.set_cons_succ, i64_w, i32_w]
         rfl
        refine take_ (i := 1) (N := some 55) (v := ?_) (a' := ?_) #[true, true, false, false, false] rfl rfl (by kernel_rfl) (fun _ _ _ h => h) (Or.inl ⟨by rfl, ?_⟩) hHeld ?_ ?_
        rotate_left
        ·rintro w' ⟨s0, s1, s2, s3⟩
         go_simp
         with_reducible rfl
        rotate_left
        ·simp only [Act.put, List.setIfInBounds_toArray, List.set_cons_zero, List.set_cons_succ, i64_w, i32_w]
         rfl
        refine one_ (i := 2) (N := some 56) #[true, true, true, false, false] rfl rfl (by kernel_rfl) (by decide) (fun K hK => ?_)
        refine goes_ Try.func7 (by kernel_rfl) rfl #[.agg #[.int .i64 a0_0, .slice A0_1 l0_1.length c0_1]] (by rfl) rfl rfl lm_ ?_
        with_reducible refine (laws_toLaurent.calls kj24 a0_0 _ _ l0_1 t288 t289 _ ?side1 ?side2 A102.out).mono ?_
        (case side1 => repeat (first | exact (Kd.C_below HR0_1.out HB.out) | (with_reducible refine Kd.C_alloc ?_ _) | (with_reducible refine Kd.C_drewN ?_ _) | (with_reducible refine Kd.C_drew ?_)))
        (case side2 => exact HC0_1.out)
        rintro e w112 ⟨v290, rfl, ho0, hb⟩
        refine ⟨_, rfl, ?_⟩
        have n0_ := am_ (Kd.R_elder' (rk_ HO_271001.out) (Kd.R_base ho0) hb)
        have n1_ := am_ (Kd.R_elder' (rk_ HO_276001.out) (Kd.R_base ho0) hb)
        have n2_ := am_ (Kd.R_elder' (rk_ HO_281001.out) (Kd.R_base ho0) hb)
        have n3_ := am_ (Kd.R_elder' (rk_ HO_287001.out) (Kd.R_base ho0) hb)
        have n4_ := am_ (Kd.R_lower (Kd.R_new' (Kd.R_new' (Kd.R_new' (Kd.R_new' ho0 (Kd.R_lt (rk_ HO_271001.out))) (Kd.R_lt (rk_ HO_276001.out))) (Kd.R_lt (rk_ HO_281001.out))) (Kd.R_lt (rk_ HO_287001.out))) (below_size (bb_ HB.out)))
        have n5_ := am_ (bw_ BK253 hb)
        have n6_ := am_ (bw_ BK254 hb)
        have n7_ := am_ (bw_ BK270 hb)
        have n8_ := am_ (bw_ BK275 hb)
        have n9_ := am_ (bw_ BK280 hb)
        have n10_ := am_ (bw_ BK286 hb)
        have n11_ := am_ (below_step (bb_ HB.out) hb)
        clear HO_271001 HO_276001 HO_281001 HO_287001 BK253 BK254 BK270 BK275 BK280 BK286 HB; revert n0_ n1_ n2_ n3_ n4_ n5_ n6_ n7_ n8_ n9_ n10_ n11_; intro HO_271001 HO_276001 HO_281001 HO_287001 HO291 BK253 BK254 BK270 BK275 BK280 BK286 HB
        (try clear hb)
        (try clear hb2)
        (try clear hk)
        (try clear hi)
        (try clear ho0)
        obtain ⟨Ao113, co113, eo113⟩ := Kd.R_slice HO291.out
        (first | subst eo113 | (injection eo113 with f1_ f2_ f3_; have f4_ := f1_.symm; have f5_ := f3_.symm; clear f1_ f2_ f3_; subst f4_; subst f5_))
        refine hK.out _ _ ⟨bc_ BK275 0, bc_ BK275 1, bc_ BK253 0, bc_ BK253 1⟩ (fun hHeld => ?_)
        clear hK K
        refine norm_ (a' := ?_) ?_ ?_
        rotate_left
        ·show Act.put _ (some 56) _ = _
         simp only [Act.put, List.setIfInBounds_toArray, List.set_cons_zero, List.set_cons_succ, i64_w, i32_w]
         rfl
        refine one_ (i := 3) (N := some 57) #[true, true, true, true, false] rfl rfl (by kernel_rfl) (by decide) (fun K hK => ?_)
        refine goes_ Try.func9 (by kernel_rfl) rfl #[.agg #[.int .i64 t271, .slice Ao52 t272.length co52], .agg #[.int .i64 t288, .slice Ao113 t289.length co113]] (by rfl) rfl rfl lm_ ?_
        with_reducible refine (laws_eqLaurent.calls kj24 t271 _ _ t272 t288 _ _ t289 true _ ?side1 ?side2 ?side3 ?side4 A103.out).mono ?_
        (case side1 => repeat (first | exact (Kd.R_reads' HO_276001.out).2.2 | (with_reducible refine Kd.C_alloc ?_ _) | (with_reducible refine Kd.C_drewN ?_ _) | (with_reducible refine Kd.C_drew ?_)))
        (case side2 => exact (Kd.R_reads' HO_276001.out).2.1)
        (case side3 => repeat (first | exact (Kd.R_reads' HO291.out).2.2 | (with_reducible refine Kd.C_alloc ?_ _) | (with_reducible refine Kd.C_drewN ?_ _) | (with_reducible refine Kd.C_drew ?_)))
        (case side4 => exact (Kd.R_reads' HO291.out).2.1)
        rintro e w114 ⟨rfl, hb⟩
        refine ⟨_, rfl, ?_⟩
        have n0_ := am_ (Kd.R_below (rk_ HO_271001.out) hb)
        have n1_ := am_ (Kd.R_below (rk_ HO_276001.out) hb)
        have n2_ := am_ (Kd.R_below (rk_ HO_281001.out) hb)
        have n3_ := am_ (Kd.R_below (rk_ HO_287001.out) hb)
        have n4_ := am_ (Kd.R_below (rk_ HO291.out) hb)
        have n5_ := am_ (bw_ BK253 hb)
        have n6_ := am_ (bw_ BK254 hb)
        have n7_ := am_ (bw_ BK270 hb)
        have n8_ := am_ (bw_ BK275 hb)
        have n9_ := am_ (bw_ BK280 hb)
        have n10_ := am_ (bw_ BK286 hb)
        have n11_ := am_ (below_step (bb_ HB.out) hb)
        clear HO_271001 HO_276001 HO_281001 HO_287001 HO291 BK253 BK254 BK270 BK275 BK280 BK286 HB; revert n0_ n1_ n2_ n3_ n4_ n5_ n6_ n7_ n8_ n9_ n10_ n11_; intro HO_271001 HO_276001 HO_281001 HO_287001 HO291 BK253 BK254 BK270 BK275 BK280 BK286 HB
        (try clear hb)
        (try clear hb2)
        (try clear hk)
        (try clear hi)
        refine hK.out _ _ ⟨bc_ BK275 0, bc_ BK275 1, bc_ BK253 0, bc_ BK253 1⟩ (fun hHeld => ?_)
        clear hK K
        refine norm_ (a' := ?_) ?_ ?_
        rotate_left
        ·show Act.put _ (some 57) _ = _
         simp only [Act.put, List.setIfInBounds_toArray, List.set_cons_zero, List.set_cons_succ, i64_w, i32_w]
         rfl
        refine pure_ (i := 4) (N := some 58) (v := ?_) (a' := ?_) #[true, true, true, true, true] rfl rfl (by kernel_rfl) (fun _ _ _ h => h) (Or.inl ⟨by rfl, ?_⟩) ?_ ?_
        rotate_left
        ·intro w'
         go_simp
         with_reducible rfl
        rotate_left
        ·simp only [Act.put, List.setIfInBounds_toArray, List.set_cons_zero, List.set_cons_succ, i64_w, i32_w]
         rfl
        refine done_ (by kernel_rfl) ?_
        try go_wp2
        have n0_ := am_ (Kd.R_drew HO_271001.out)
        have n1_ := am_ (Kd.R_drew HO_276001.out)
        have n2_ := am_ (Kd.R_drew HO_281001.out)
        have n3_ := am_ (Kd.R_drew HO_287001.out)
        have n4_ := am_ (Kd.R_drew HO291.out)
        have n5_ := am_ (blk_drew BK253.out)
        have n6_ := am_ (blk_drew BK254.out)
        have n7_ := am_ (blk_drew BK270.out)
        have n8_ := am_ (blk_drew BK275.out)
        have n9_ := am_ (blk_drew BK280.out)
        have n10_ := am_ (blk_drew BK286.out)
        have n11_ := am_ (below_drew1 HB.out)
        clear HO_271001 HO_276001 HO_281001 HO_287001 HO291 BK253 BK254 BK270 BK275 BK280 BK286 HB; revert n0_ n1_ n2_ n3_ n4_ n5_ n6_ n7_ n8_ n9_ n10_ n11_; intro HO_271001 HO_276001 HO_281001 HO_287001 HO291 BK253 BK254 BK270 BK275 BK280 BK286 HB
        refine start_ (n := 5) (S := fun w' => w'.cell? ⟨gb280, 0, none⟩ = some (.int .i64 t276) ∧ w'.cell? ⟨gb280, 1, none⟩ = some (.slice Ao62 t277.length co62) ∧ w'.cell? ⟨gb254, 0, none⟩ = some (.int .i64 a1_0) ∧ w'.cell? ⟨gb254, 1, none⟩ = some (.slice A1_1 l1_1.length c1_1)) (ds := []) #[false, false, false, false, false] (by kernel_rfl) rfl rfl ⟨bc_ BK280 0, bc_ BK280 1, bc_ BK254 0, bc_ BK254 1⟩ (fun hHeld => ?_)
        generalize w114.drew = w115 at HO_271001 HO_276001 HO_281001 HO_287001 HO291 BK253 BK254 BK270 BK275 BK280 BK286 HB hHeld ⊢
        refine take_ (i := 0) (N := some 59) (v := ?_) (a' := ?_) #[true, false, false, false, false] rfl rfl (by kernel_rfl) (fun _ _ _ h => h) (Or.inl ⟨by rfl, ?_⟩) hHeld ?_ ?_
        rotate_left
        ·rintro w' ⟨s0, s1, s2, s3⟩
         go_simp
         with_reducible rfl
        rotate_left
        ·simp only [Act.put, List.setIfInBounds_toArray, List.set_cons_zero, List.set_cons_succ, i64_w, i32_w]
         rfl
        refine take_ (i := 1) (N := some 60) (v := ?_) (a' := ?_) #[true, true, false, false, false] rfl rfl (by kernel_rfl) (fun _ _ _ h => h) (Or.inl ⟨by rfl, ?_⟩) hHeld ?_ ?_
        rotate_left
        ·rintro w' ⟨s0, s1, s2, s3⟩
         go_simp
         with_reducible rfl
        rotate_left
        ·simp only [Act.put, List.setIfInBounds_toArray, List.set_cons_zero, List.set_cons_succ, i64_w, i32_w]
         rfl
        refine one_ (i := 2) (N := some 61) #[true, true, true, false, false] rfl rfl (by kernel_rfl) (by decide) (fun K hK => ?_)
        refine goes_ Try.func7 (by kernel_rfl) rfl #[.agg #[.int .i64 a1_0, .slice A1_1 l1_1.length c1_1]] (by rfl) rfl rfl lm_ ?_
        with_reducible refine (laws_toLaurent.calls kj24 a1_0 _ _ l1_1 t293 t294 _ ?side1 ?side2 A105.out).mono ?_
        (case side1 => repeat (first | exact (Kd.C_below HR1_1.out HB.out) | (with_reducible refine Kd.C_alloc ?_ _) | (with_reducible refine Kd.C_drewN ?_ _) | (with_reducible refine Kd.C_drew ?_)))
        (case side2 => exact HC1_1.out)
        rintro e w116 ⟨v295, rfl, ho0, hb⟩
        refine ⟨_, rfl, ?_⟩
        have n0_ := am_ (Kd.R_elder' (rk_ HO_271001.out) (Kd.R_base ho0) hb)
        have n1_ := am_ (Kd.R_elder' (rk_ HO_276001.out) (Kd.R_base ho0) hb)
        have n2_ := am_ (Kd.R_elder' (rk_ HO_281001.out) (Kd.R_base ho0) hb)
        have n3_ := am_ (Kd.R_elder' (rk_ HO_287001.out) (Kd.R_base ho0) hb)
        have n4_ := am_ (Kd.R_elder' (rk_ HO291.out) (Kd.R_base ho0) hb)
        have n5_ := am_ (Kd.R_lower (Kd.R_new' (Kd.R_new' (Kd.R_new' (Kd.R_new' (Kd.R_new' ho0 (Kd.R_lt (rk_ HO_271001.out))) (Kd.R_lt (rk_ HO_276001.out))) (Kd.R_lt (rk_ HO_281001.out))) (Kd.R_lt (rk_ HO_287001.out))) (Kd.R_lt (rk_ HO291.out))) (below_size (bb_ HB.out)))
        have n6_ := am_ (bw_ BK253 hb)
        have n7_ := am_ (bw_ BK254 hb)
        have n8_ := am_ (bw_ BK270 hb)
        have n9_ := am_ (bw_ BK275 hb)
        have n10_ := am_ (bw_ BK280 hb)
        have n11_ := am_ (bw_ BK286 hb)
        have n12_ := am_ (below_step (bb_ HB.out) hb)
        clear HO_271001 HO_276001 HO_281001 HO_287001 HO291 BK253 BK254 BK270 BK275 BK280 BK286 HB; revert n0_ n1_ n2_ n3_ n4_ n5_ n6_ n7_ n8_ n9_ n10_ n11_ n12_; intro HO_271001 HO_276001 HO_281001 HO_287001 HO291 HO296 BK253 BK254 BK270 BK275 BK280 BK286 HB
        (try clear hb)
        (try clear hb2)
        (try clear hk)
        (try clear hi)
        (try clear ho0)
        obtain ⟨Ao117, co117, eo117⟩ := Kd.R_slice HO296.out
        (first | subst eo117 | (injection eo117 with f1_ f2_ f3_; have f4_ := f1_.symm; have f5_ := f3_.symm; clear f1_ f2_ f3_; subst f4_; subst f5_))
        refine hK.out _ _ ⟨bc_ BK280 0, bc_ BK280 1, bc_ BK254 0, bc_ BK254 1⟩ (fun hHeld => ?_)
        clear hK K
        refine norm_ (a' := ?_) ?_ ?_
        rotate_left
        ·show Act.put _ (some 61) _ = _
         simp only [Act.put, List.setIfInBounds_toArray, List.set_cons_zero, List.set_cons_succ, i64_w, i32_w]
         rfl
        refine one_ (i := 3) (N := some 62) #[true, true, true, true, false] rfl rfl (by kernel_rfl) (by decide) (fun K hK => ?_)
        refine goes_ Try.func9 (by kernel_rfl) rfl #[.agg #[.int .i64 t276, .slice Ao62 t277.length co62], .agg #[.int .i64 t293, .slice Ao117 t294.length co117]] (by rfl) rfl rfl lm_ ?_
        with_reducible refine (laws_eqLaurent.calls kj24 t276 _ _ t277 t293 _ _ t294 true _ ?side1 ?side2 ?side3 ?side4 A106.out).mono ?_
        (case side1 => repeat (first | exact (Kd.R_reads' HO_281001.out).2.2 | (with_reducible refine Kd.C_alloc ?_ _) | (with_reducible refine Kd.C_drewN ?_ _) | (with_reducible refine Kd.C_drew ?_)))
        (case side2 => exact (Kd.R_reads' HO_281001.out).2.1)
        (case side3 => repeat (first | exact (Kd.R_reads' HO296.out).2.2 | (with_reducible refine Kd.C_alloc ?_ _) | (with_reducible refine Kd.C_drewN ?_ _) | (with_reducible refine Kd.C_drew ?_)))
        (case side4 => exact (Kd.R_reads' HO296.out).2.1)
        rintro e w118 ⟨rfl, hb⟩
        refine ⟨_, rfl, ?_⟩
        have n0_ := am_ (Kd.R_below (rk_ HO_271001.out) hb)
        have n1_ := am_ (Kd.R_below (rk_ HO_276001.out) hb)
        have n2_ := am_ (Kd.R_below (rk_ HO_281001.out) hb)
        have n3_ := am_ (Kd.R_below (rk_ HO_287001.out) hb)
        have n4_ := am_ (Kd.R_below (rk_ HO291.out) hb)
        have n5_ := am_ (Kd.R_below (rk_ HO296.out) hb)
        have n6_ := am_ (bw_ BK253 hb)
        have n7_ := am_ (bw_ BK254 hb)
        have n8_ := am_ (bw_ BK270 hb)
        have n9_ := am_ (bw_ BK275 hb)
        have n10_ := am_ (bw_ BK280 hb)
        have n11_ := am_ (bw_ BK286 hb)
        have n12_ := am_ (below_step (bb_ HB.out) hb)
        clear HO_271001 HO_276001 HO_281001 HO_287001 HO291 HO296 BK253 BK254 BK270 BK275 BK280 BK286 HB; revert n0_ n1_ n2_ n3_ n4_ n5_ n6_ n7_ n8_ n9_ n10_ n11_ n12_; intro HO_271001 HO_276001 HO_281001 HO_287001 HO291 HO296 BK253 BK254 BK270 BK275 BK280 BK286 HB
        (try clear hb)
        (try clear hb2)
        (try clear hk)
        (try clear hi)
        refine hK.out _ _ ⟨bc_ BK280 0, bc_ BK280 1, bc_ BK254 0, bc_ BK254 1⟩ (fun hHeld => ?_)
        clear hK K
        refine norm_ (a' := ?_) ?_ ?_
        rotate_left
        ·show Act.put _ (some 62) _ = _
         simp only [Act.put, List.setIfInBounds_toArray, List.set_cons_zero, List.set_cons_succ, i64_w, i32_w]
         rfl
        refine pure_ (i := 4) (N := some 63) (v := ?_) (a' := ?_) #[true, true, true, true, true] rfl rfl (by kernel_rfl) (fun _ _ _ h => h) (Or.inl ⟨by rfl, ?_⟩) ?_ ?_
        rotate_left
        ·intro w'
         go_simp
         with_reducible rfl
        rotate_left
        ·simp only [Act.put, List.setIfInBounds_toArray, List.set_cons_zero, List.set_cons_succ, i64_w, i32_w]
         rfl
        refine done_ (by kernel_rfl) ?_
        have hnb119 := NB275_253.out
        have hnc119 := NB253_275.out
        have hnb120 := NB275_254.out
        have hnc120 := NB254_275.out
        have hnb121 := NB275_270.out
        have hnc121 := NB270_275.out
        have hnb122 := NB275_280.out
        have hnc122 := NB280_275.out
        have hnb123 := NB275_286.out
        have hnc123 := NB286_275.out
        have hcz124_0 : w118.cell? ⟨gb275, 0, none⟩ = some (.int .i64 t271) := bc_ BK275 0
        have hcz124_1 : w118.cell? ⟨gb275, 1, none⟩ = some (.slice Ao52 t272.length co52) := bc_ BK275 1
        have hfz124_0 := blk_frozen BK275.out 0
        have hfz124_1 := blk_frozen BK275.out 1
        go_upto_region 21 with (first | ((with_reducible refine gate_callee (f := 10) rfl ?_); refine goesL_ (some 66) rfl rfl Try.func10 (by kernel_rfl) rfl #[.agg #[.int .i64 t271, .slice Ao52 t272.length co52], .int .i64 1] rfl lm_ ?_; (with_reducible refine (laws_markLaurent.calls kj24 t271 (fun k_ => some k_ = (.slice Ao52 t272.length co52 : Value).ownBlock) (.slice Ao52 t272.length co52) t272 1 t298 t299 w _ ?side1 ?side2 A108.out).mono ?_); (case side1 => repeat (first | (with_reducible first | exact HB.out | apply below_alloc | apply pw_below_drewN | apply below_drew1 | refine below_set ?_ GE253.out | refine below_set ?_ GE254.out | refine below_set ?_ GE270.out | refine below_set ?_ GE275.out | refine below_set ?_ GE280.out | refine below_set ?_ GE286.out) | exact HB.out)); (case side2 => exact Kd.R_tight rfl HO_276001.out); rintro e w125 ⟨rfl, hy0, hb, hkp⟩; refine ⟨_, rfl, ?_⟩; have n0_ := am_ (Kd.R_mono (ok' := fun k_ => some k_ ≠ (.slice Ao52 t272.length co52 : Value).ownBlock ∧ some k_ ≠ (.slice Ao62 t277.length co62 : Value).ownBlock ∧ some k_ ≠ (.slice Ao74 t282.length co74 : Value).ownBlock ∧ some k_ ≠ (.slice Ao113 t289.length co113 : Value).ownBlock ∧ some k_ ≠ (.slice Ao117 t294.length co117 : Value).ownBlock) (Kd.R_keptB (HO_271001.out) hkp (fun k_ hk_ hs_ => (hk_.1.1.1) hs_)) (fun k_ hk_ => ⟨hk_.1.1.1.1, hk_.1.1.1.2.1, hk_.1.1.1.2.2, hk_.1.1.2, hk_.1.2⟩)); have n1_ := am_ (Kd.R_reok rfl hy0 (fun k_ e_ => HO_276001.out.1 k_ e_)); have n2_ := am_ (Kd.R_mono (ok' := fun k_ => some k_ ≠ (.slice Ao42 t266.length co42 : Value).ownBlock ∧ some k_ ≠ (.slice Ao52 t272.length co52 : Value).ownBlock ∧ some k_ ≠ (.slice Ao74 t282.length co74 : Value).ownBlock ∧ some k_ ≠ (.slice Ao113 t289.length co113 : Value).ownBlock ∧ some k_ ≠ (.slice Ao117 t294.length co117 : Value).ownBlock) (Kd.R_keptB (HO_281001.out) hkp (fun k_ hk_ hs_ => (hk_.1.1.2.1) hs_)) (fun k_ hk_ => ⟨hk_.1.1.1.1, hk_.1.1.1.2.1, hk_.1.1.1.2.2, hk_.1.1.2, hk_.1.2⟩)); have n3_ := am_ (Kd.R_mono (ok' := fun k_ => some k_ ≠ (.slice Ao42 t266.length co42 : Value).ownBlock ∧ some k_ ≠ (.slice Ao52 t272.length co52 : Value).ownBlock ∧ some k_ ≠ (.slice Ao62 t277.length co62 : Value).ownBlock ∧ some k_ ≠ (.slice Ao113 t289.length co113 : Value).ownBlock ∧ some k_ ≠ (.slice Ao117 t294.length co117 : Value).ownBlock) (Kd.R_keptB (HO_287001.out) hkp (fun k_ hk_ hs_ => (hk_.1.1.2.1) hs_)) (fun k_ hk_ => ⟨hk_.1.1.1.1, hk_.1.1.1.2.1, hk_.1.1.1.2.2, hk_.1.1.2, hk_.1.2⟩)); have n4_ := am_ (blk_kept (bk_ BK253.out) hkp (fun hs_ => (fun e_ => (Kd.R_ne HO_276001.out BK253.out (by decide)) e_) hs_)); have n5_ := am_ (blk_kept (bk_ BK254.out) hkp (fun hs_ => (fun e_ => (Kd.R_ne HO_276001.out BK254.out (by decide)) e_) hs_)); have n6_ := am_ (blk_kept (bk_ BK270.out) hkp (fun hs_ => (fun e_ => (Kd.R_ne HO_276001.out BK270.out (by decide)) e_) hs_)); have n7_ := am_ (blk_kept (bk_ BK275.out) hkp (fun hs_ => (fun e_ => (Kd.R_ne HO_276001.out BK275.out (by decide)) e_) hs_)); have n8_ := am_ (blk_kept (bk_ BK280.out) hkp (fun hs_ => (fun e_ => (Kd.R_ne HO_276001.out BK280.out (by decide)) e_) hs_)); have n9_ := am_ (blk_kept (bk_ BK286.out) hkp (fun hs_ => (fun e_ => (Kd.R_ne HO_276001.out BK286.out (by decide)) e_) hs_)); have n10_ := am_ (Kd.R_mono (ok' := fun k_ => some k_ ≠ (.slice Ao42 t266.length co42 : Value).ownBlock ∧ some k_ ≠ (.slice Ao52 t272.length co52 : Value).ownBlock ∧ some k_ ≠ (.slice Ao62 t277.length co62 : Value).ownBlock ∧ some k_ ≠ (.slice Ao74 t282.length co74 : Value).ownBlock ∧ some k_ ≠ (.slice Ao117 t294.length co117 : Value).ownBlock) (Kd.R_keptB (HO291.out) hkp (fun k_ hk_ hs_ => (hk_.1.1.1.2) hs_)) (fun k_ hk_ => ⟨hk_.1.1.1.1.1.2, hk_.1.1.1.1.2, hk_.1.1.1.2, hk_.1.1.2, hk_.1.2⟩)); have n11_ := am_ (Kd.R_mono (ok' := fun k_ => some k_ ≠ (.slice Ao42 t266.length co42 : Value).ownBlock ∧ some k_ ≠ (.slice Ao52 t272.length co52 : Value).ownBlock ∧ some k_ ≠ (.slice Ao62 t277.length co62 : Value).ownBlock ∧ some k_ ≠ (.slice Ao74 t282.length co74 : Value).ownBlock ∧ some k_ ≠ (.slice Ao113 t289.length co113 : Value).ownBlock) (Kd.R_keptB (HO296.out) hkp (fun k_ hk_ hs_ => (hk_.1.1.1.2) hs_)) (fun k_ hk_ => ⟨hk_.1.1.1.1.1.2, hk_.1.1.1.1.2, hk_.1.1.1.2, hk_.1.1.2, hk_.1.2⟩)); have n12_ := am_ (hb); clear HO_271001 HO_276001 HO_281001 HO_287001 BK253 BK254 BK270 BK275 BK280 BK286 HO291 HO296 HB; revert n0_ n1_ n2_ n3_ n4_ n5_ n6_ n7_ n8_ n9_ n10_ n11_ n12_; intro HO_271001 HO_276001 HO_281001 HO_287001 BK253 BK254 BK270 BK275 BK280 BK286 HO291 HO296 HB; (try clear hb); (try clear hkp); (try clear hy0); have hnb126 := NB280_253.out; have hnc126 := NB253_280.out; have hnb127 := NB280_254.out; have hnc127 := NB254_280.out; have hnb128 := NB280_270.out; have hnc128 := NB270_280.out; have hnb129 := NB280_286.out; have hnc129 := NB286_280.out; have hcz130_0 : w125.cell? ⟨gb280, 0, none⟩ = some (.int .i64 t276) := bc_ BK280 0; have hcz130_1 : w125.cell? ⟨gb280, 1, none⟩ = some (.slice Ao62 t277.length co62) := bc_ BK280 1; have hfz130_0 := blk_frozen BK280.out 0; have hfz130_1 := blk_frozen BK280.out 1) | ((with_reducible refine gate_callee (f := 10) rfl ?_); refine goesL_ (some 69) rfl rfl Try.func10 (by kernel_rfl) rfl #[.agg #[.int .i64 t276, .slice Ao62 t277.length co62], .int .i64 t298] rfl lm_ ?_; (with_reducible refine (laws_markLaurent.calls kj24 t276 (fun k_ => some k_ = (.slice Ao62 t277.length co62 : Value).ownBlock) (.slice Ao62 t277.length co62) t277 t298 t300 t301 w _ ?side1 ?side2 A109.out).mono ?_); (case side1 => repeat (first | (with_reducible first | exact HB.out | apply below_alloc | apply pw_below_drewN | apply below_drew1 | refine below_set ?_ GE253.out | refine below_set ?_ GE254.out | refine below_set ?_ GE270.out | refine below_set ?_ GE275.out | refine below_set ?_ GE280.out | refine below_set ?_ GE286.out) | exact HB.out)); (case side2 => exact Kd.R_tight rfl HO_281001.out); rintro e w131 ⟨rfl, hy0, hb, hkp⟩; refine ⟨_, rfl, ?_⟩; have n0_ := am_ (Kd.R_mono (ok' := fun k_ => some k_ ≠ (.slice Ao52 t272.length co52 : Value).ownBlock ∧ some k_ ≠ (.slice Ao62 t277.length co62 : Value).ownBlock ∧ some k_ ≠ (.slice Ao74 t282.length co74 : Value).ownBlock ∧ some k_ ≠ (.slice Ao113 t289.length co113 : Value).ownBlock ∧ some k_ ≠ (.slice Ao117 t294.length co117 : Value).ownBlock) (Kd.R_keptB (HO_271001.out) hkp (fun k_ hk_ hs_ => (hk_.2.1) hs_)) (fun k_ hk_ => ⟨hk_.1.1, hk_.1.2.1, hk_.1.2.2.1, hk_.1.2.2.2.1, hk_.1.2.2.2.2⟩)); have n1_ := am_ (Kd.R_mono (ok' := fun k_ => some k_ ≠ (.slice Ao42 t266.length co42 : Value).ownBlock ∧ some k_ ≠ (.slice Ao62 t277.length co62 : Value).ownBlock ∧ some k_ ≠ (.slice Ao74 t282.length co74 : Value).ownBlock ∧ some k_ ≠ (.slice Ao113 t289.length co113 : Value).ownBlock ∧ some k_ ≠ (.slice Ao117 t294.length co117 : Value).ownBlock) (Kd.R_keptB (HO_276001.out) hkp (fun k_ hk_ hs_ => (hk_.1.1.2.1) hs_)) (fun k_ hk_ => ⟨hk_.1.1.1.1, hk_.1.1.1.2.1, hk_.1.1.1.2.2, hk_.1.1.2, hk_.1.2⟩)); have n2_ := am_ (Kd.R_reok rfl hy0 (fun k_ e_ => HO_281001.out.1 k_ e_)); have n3_ := am_ (Kd.R_mono (ok' := fun k_ => some k_ ≠ (.slice Ao42 t266.length co42 : Value).ownBlock ∧ some k_ ≠ (.slice Ao52 t272.length co52 : Value).ownBlock ∧ some k_ ≠ (.slice Ao62 t277.length co62 : Value).ownBlock ∧ some k_ ≠ (.slice Ao113 t289.length co113 : Value).ownBlock ∧ some k_ ≠ (.slice Ao117 t294.length co117 : Value).ownBlock) (Kd.R_keptB (HO_287001.out) hkp (fun k_ hk_ hs_ => (hk_.2.2.1) hs_)) (fun k_ hk_ => ⟨hk_.1.1, hk_.1.2.1, hk_.1.2.2.1, hk_.1.2.2.2.1, hk_.1.2.2.2.2⟩)); have n4_ := am_ (blk_kept (bk_ BK253.out) hkp (fun hs_ => (fun e_ => (Kd.R_ne HO_281001.out BK253.out (by decide)) e_) hs_)); have n5_ := am_ (blk_kept (bk_ BK254.out) hkp (fun hs_ => (fun e_ => (Kd.R_ne HO_281001.out BK254.out (by decide)) e_) hs_)); have n6_ := am_ (blk_kept (bk_ BK270.out) hkp (fun hs_ => (fun e_ => (Kd.R_ne HO_281001.out BK270.out (by decide)) e_) hs_)); have n7_ := am_ (blk_kept (bk_ BK275.out) hkp (fun hs_ => (fun e_ => (Kd.R_ne HO_281001.out BK275.out (by decide)) e_) hs_)); have n8_ := am_ (blk_kept (bk_ BK280.out) hkp (fun hs_ => (fun e_ => (Kd.R_ne HO_281001.out BK280.out (by decide)) e_) hs_)); have n9_ := am_ (blk_kept (bk_ BK286.out) hkp (fun hs_ => (fun e_ => (Kd.R_ne HO_281001.out BK286.out (by decide)) e_) hs_)); have n10_ := am_ (Kd.R_mono (ok' := fun k_ => some k_ ≠ (.slice Ao42 t266.length co42 : Value).ownBlock ∧ some k_ ≠ (.slice Ao52 t272.length co52 : Value).ownBlock ∧ some k_ ≠ (.slice Ao62 t277.length co62 : Value).ownBlock ∧ some k_ ≠ (.slice Ao74 t282.length co74 : Value).ownBlock ∧ some k_ ≠ (.slice Ao117 t294.length co117 : Value).ownBlock) (Kd.R_keptB (HO291.out) hkp (fun k_ hk_ hs_ => (hk_.2.2.1) hs_)) (fun k_ hk_ => ⟨hk_.1.1, hk_.1.2.1, hk_.1.2.2.1, hk_.1.2.2.2.1, hk_.1.2.2.2.2⟩)); have n11_ := am_ (Kd.R_mono (ok' := fun k_ => some k_ ≠ (.slice Ao42 t266.length co42 : Value).ownBlock ∧ some k_ ≠ (.slice Ao52 t272.length co52 : Value).ownBlock ∧ some k_ ≠ (.slice Ao62 t277.length co62 : Value).ownBlock ∧ some k_ ≠ (.slice Ao74 t282.length co74 : Value).ownBlock ∧ some k_ ≠ (.slice Ao113 t289.length co113 : Value).ownBlock) (Kd.R_keptB (HO296.out) hkp (fun k_ hk_ hs_ => (hk_.2.2.1) hs_)) (fun k_ hk_ => ⟨hk_.1.1, hk_.1.2.1, hk_.1.2.2.1, hk_.1.2.2.2.1, hk_.1.2.2.2.2⟩)); have n12_ := am_ (hb); clear HO_271001 HO_276001 HO_281001 HO_287001 BK253 BK254 BK270 BK275 BK280 BK286 HO291 HO296 HB; revert n0_ n1_ n2_ n3_ n4_ n5_ n6_ n7_ n8_ n9_ n10_ n11_ n12_; intro HO_271001 HO_276001 HO_281001 HO_287001 BK253 BK254 BK270 BK275 BK280 BK286 HO291 HO296 HB; (try clear hb); (try clear hkp); (try clear hy0)))
        (try simp only [Act.put, List.setIfInBounds_toArray, List.set_cons_zero, List.set_cons_succ])
        go_cut [82] (fun v82 wc => ∃ (kq : Nat) (x82_109 : Bool), v82 = .bool x82_109 ∧ Aside0 (laws_FnExactMultiplyLaurent.j1 kq t269 x82_109 a0_0 l0_1 a1_0 l1_1 t265 t266 t281 t282 = some r) ∧ Aside0 (kq ≤ kj24) ∧ Aside0 (Kd.R (Kd.int .i64) 2 wc w.heap.size (fun k_ => some k_ ≠ ((.slice Ao52 t272.length co52) : Value).ownBlock ∧ some k_ ≠ ((.slice Ao62 t277.length co62) : Value).ownBlock ∧ some k_ ≠ ((.slice Ao74 t282.length co74) : Value).ownBlock) (.slice Ao42 t266.length co42) t266) ∧ Aside0 (Kd.R (Kd.int .i64) 2 wc w.heap.size (fun k_ => some k_ ≠ ((.slice Ao42 t266.length co42) : Value).ownBlock ∧ some k_ ≠ ((.slice Ao62 t277.length co62) : Value).ownBlock ∧ some k_ ≠ ((.slice Ao74 t282.length co74) : Value).ownBlock) (.slice Ao52 t272.length co52) t299) ∧ Aside0 (Kd.R (Kd.int .i64) 2 wc w.heap.size (fun k_ => some k_ ≠ ((.slice Ao42 t266.length co42) : Value).ownBlock ∧ some k_ ≠ ((.slice Ao52 t272.length co52) : Value).ownBlock ∧ some k_ ≠ ((.slice Ao74 t282.length co74) : Value).ownBlock) (.slice Ao62 t277.length co62) t301) ∧ Aside0 (Kd.R (Kd.int .i64) 2 wc w.heap.size (fun k_ => some k_ ≠ ((.slice Ao42 t266.length co42) : Value).ownBlock ∧ some k_ ≠ ((.slice Ao52 t272.length co52) : Value).ownBlock ∧ some k_ ≠ ((.slice Ao62 t277.length co62) : Value).ownBlock) (.slice Ao74 t282.length co74) t282) ∧ Aside0 (wc.heap[gb253]? = some (.cells #[.int .i64 a0_0, (.slice A0_1 l0_1.length c0_1)] 24 (0, 0))) ∧ Aside0 (wc.heap[gb254]? = some (.cells #[.int .i64 a1_0, (.slice A1_1 l1_1.length c1_1)] 24 (0, 0))) ∧ Aside0 (wc.heap[gb270]? = some (.cells #[.int .i64 t265, (.slice Ao42 t266.length co42)] 26 (0, 0))) ∧ Aside0 (wc.heap[gb275]? = some (.cells #[.int .i64 t271, (.slice Ao52 t272.length co52)] 26 (0, 0))) ∧ Aside0 (wc.heap[gb280]? = some (.cells #[.int .i64 t276, (.slice Ao62 t277.length co62)] 26 (0, 0))) ∧ Aside0 (wc.heap[gb286]? = some (.cells #[.int .i64 t281, (.slice Ao74 t282.length co74)] 26 (0, 0))) ∧ Aside0 (Below w.heap.size w wc))
        case first =>
         have H := HC110.out
         clear HC110
         by_cases c132 : t300 < 0
         ·rw [if_pos c132] at H
          have c132b0 : decide (t300 < 0) = true := decide_eq_true c132
          clear c132
          (first | rw [c132b0] | (simp only [i64_w, i32_w]; rw [c132b0]) | skip)
          have H' := am_ H
          clear H
          go_wp2
          go_meet
          case rel => exact ⟨_, (true), (by first | rfl | (simp; done) | (simp [*]; done)), H', ⟨by have := HJ24.out; first | omega | exact Nat.le_refl _⟩, ⟨rm_ HO_271001.out (fun _ hk => by first | exact ⟨hk.1, ⟨hk.2.1, hk.2.2.1⟩⟩ | simp only [hk, and_self, ne_eq, not_false_eq_true, true_and, and_true])⟩, ⟨rm_ HO_276001.out (fun _ hk => by first | exact ⟨hk.1, ⟨hk.2.1, hk.2.2.1⟩⟩ | simp only [hk, and_self, ne_eq, not_false_eq_true, true_and, and_true])⟩, ⟨rm_ HO_281001.out (fun _ hk => by first | exact ⟨hk.1, ⟨hk.2.1, hk.2.2.1⟩⟩ | simp only [hk, and_self, ne_eq, not_false_eq_true, true_and, and_true])⟩, ⟨rm_ HO_287001.out (fun _ hk => by first | exact ⟨hk.1, ⟨hk.2.1, hk.2.2.1⟩⟩ | simp only [hk, and_self, ne_eq, not_false_eq_true, true_and, and_true])⟩, ⟨bk_ BK253.out⟩, ⟨bk_ BK254.out⟩, ⟨bk_ BK270.out⟩, ⟨bk_ BK275.out⟩, ⟨bk_ BK280.out⟩, ⟨bk_ BK286.out⟩, ⟨bb_ HB.out⟩⟩
         ·rw [if_neg c132] at H
          have c132b0 : decide (t300 < 0) = false := decide_eq_false c132
          clear c132
          (first | rw [c132b0] | (simp only [i64_w, i32_w]; rw [c132b0]) | skip)
          replace H := Option.bind_eq_some_iff.mp H
          obtain ⟨t302, A1330, H⟩ := H
          replace H : (if t302 = true then (laws_FnExactMultiplyLaurent.j1 kj24 t269 (t285 != t269) a0_0 l0_1 a1_0 l1_1 t265 t266 t281 t282) else (laws_FnExactMultiplyLaurent.j1 kj24 t269 true a0_0 l0_1 a1_0 l1_1 t265 t266 t281 t282)) = some r := H
          have A133 := am_ A1330
          clear A1330
          by_cases c134 : t302 = true
          ·subst c134
           have H1 : (laws_FnExactMultiplyLaurent.j1 kj24 t269 (t285 != t269) a0_0 l0_1 a1_0 l1_1 t265 t266 t281 t282) = some r := by rw [if_pos rfl] at H; exact H
           clear H
           have H := H1
           clear H1
           have H' := am_ H
           clear H
           have hnb135 := NB286_253.out
           have hnc135 := NB253_286.out
           have hnb136 := NB286_254.out
           have hnc136 := NB254_286.out
           have hnb137 := NB286_270.out
           have hnc137 := NB270_286.out
           have hnb138 := NB286_275.out
           have hnc138 := NB275_286.out
           have hnb139 := NB286_280.out
           have hnc139 := NB280_286.out
           have hcz140_0 : w131.cell? ⟨gb286, 0, none⟩ = some (.int .i64 t281) := bc_ BK286 0
           have hcz140_1 : w131.cell? ⟨gb286, 1, none⟩ = some (.slice Ao74 t282.length co74) := bc_ BK286 1
           have hfz140_0 := blk_frozen BK286.out 0
           have hfz140_1 := blk_frozen BK286.out 1
           have hnb141 := NB270_253.out
           have hnc141 := NB253_270.out
           have hnb142 := NB270_254.out
           have hnc142 := NB254_270.out
           have hnb143 := NB270_275.out
           have hnc143 := NB275_270.out
           have hnb144 := NB270_280.out
           have hnc144 := NB280_270.out
           have hcz145_0 : w131.cell? ⟨gb270, 0, none⟩ = some (.int .i64 t265) := bc_ BK270 0
           have hcz145_1 : w131.cell? ⟨gb270, 1, none⟩ = some (.slice Ao42 t266.length co42) := bc_ BK270 1
           have hfz145_0 := blk_frozen BK270.out 0
           have hfz145_1 := blk_frozen BK270.out 1
           go_wp2_with (first | (go_at_call 9; (with_reducible refine (laws_eqLaurent.calls kj24 t281 _ _ t282 t265 _ _ t266 true _ ?side1 ?side2 ?side3 ?side4 A133.out).mono ?_); (case side1 => repeat (first | exact (Kd.R_reads' HO_287001.out).2.2 | (with_reducible refine Kd.C_alloc ?_ _) | (with_reducible refine Kd.C_drewN ?_ _) | (with_reducible refine Kd.C_drew ?_))); (case side2 => exact (Kd.R_reads' HO_287001.out).2.1); (case side3 => repeat (first | exact (Kd.R_reads' HO_271001.out).2.2 | (with_reducible refine Kd.C_alloc ?_ _) | (with_reducible refine Kd.C_drewN ?_ _) | (with_reducible refine Kd.C_drew ?_))); (case side4 => exact (Kd.R_reads' HO_271001.out).2.1); rintro e w146 ⟨rfl, hb⟩; have n0_ := am_ (Kd.R_below (rk_ HO_271001.out) hb); have n1_ := am_ (Kd.R_below (rk_ HO_276001.out) hb); have n2_ := am_ (Kd.R_below (rk_ HO_281001.out) hb); have n3_ := am_ (Kd.R_below (rk_ HO_287001.out) hb); have n4_ := am_ (Kd.R_below (rk_ HO291.out) hb); have n5_ := am_ (Kd.R_below (rk_ HO296.out) hb); have n6_ := am_ (bw_ BK253 hb); have n7_ := am_ (bw_ BK254 hb); have n8_ := am_ (bw_ BK270 hb); have n9_ := am_ (bw_ BK275 hb); have n10_ := am_ (bw_ BK280 hb); have n11_ := am_ (bw_ BK286 hb); have n12_ := am_ (below_step (bb_ HB.out) hb); clear HO_271001 HO_276001 HO_281001 HO_287001 HO291 HO296 BK253 BK254 BK270 BK275 BK280 BK286 HB; revert n0_ n1_ n2_ n3_ n4_ n5_ n6_ n7_ n8_ n9_ n10_ n11_ n12_; intro HO_271001 HO_276001 HO_281001 HO_287001 HO291 HO296 BK253 BK254 BK270 BK275 BK280 BK286 HB; (try clear hb); (try clear hb2); (try clear hk); (try clear hi)))
           go_meet
           case rel => exact ⟨_, ((t285 != t269)), (by first | rfl | (simp; done) | (simp [*]; done)), H', ⟨by have := HJ24.out; first | omega | exact Nat.le_refl _⟩, ⟨rm_ HO_271001.out (fun _ hk => by first | exact ⟨hk.1, ⟨hk.2.1, hk.2.2.1⟩⟩ | simp only [hk, and_self, ne_eq, not_false_eq_true, true_and, and_true])⟩, ⟨rm_ HO_276001.out (fun _ hk => by first | exact ⟨hk.1, ⟨hk.2.1, hk.2.2.1⟩⟩ | simp only [hk, and_self, ne_eq, not_false_eq_true, true_and, and_true])⟩, ⟨rm_ HO_281001.out (fun _ hk => by first | exact ⟨hk.1, ⟨hk.2.1, hk.2.2.1⟩⟩ | simp only [hk, and_self, ne_eq, not_false_eq_true, true_and, and_true])⟩, ⟨rm_ HO_287001.out (fun _ hk => by first | exact ⟨hk.1, ⟨hk.2.1, hk.2.2.1⟩⟩ | simp only [hk, and_self, ne_eq, not_false_eq_true, true_and, and_true])⟩, ⟨bk_ BK253.out⟩, ⟨bk_ BK254.out⟩, ⟨bk_ BK270.out⟩, ⟨bk_ BK275.out⟩, ⟨bk_ BK280.out⟩, ⟨bk_ BK286.out⟩, ⟨bb_ HB.out⟩⟩
          ·replace c134 := Bool.eq_false_iff.mpr c134
           subst c134
           have H1 : (laws_FnExactMultiplyLaurent.j1 kj24 t269 true a0_0 l0_1 a1_0 l1_1 t265 t266 t281 t282) = some r := by rw [if_neg (show ¬ (false = true) by decide)] at H; exact H
           clear H
           have H := H1
           clear H1
           have H' := am_ H
           clear H
           have hnb147 := NB286_253.out
           have hnc147 := NB253_286.out
           have hnb148 := NB286_254.out
           have hnc148 := NB254_286.out
           have hnb149 := NB286_270.out
           have hnc149 := NB270_286.out
           have hnb150 := NB286_275.out
           have hnc150 := NB275_286.out
           have hnb151 := NB286_280.out
           have hnc151 := NB280_286.out
           have hcz152_0 : w131.cell? ⟨gb286, 0, none⟩ = some (.int .i64 t281) := bc_ BK286 0
           have hcz152_1 : w131.cell? ⟨gb286, 1, none⟩ = some (.slice Ao74 t282.length co74) := bc_ BK286 1
           have hfz152_0 := blk_frozen BK286.out 0
           have hfz152_1 := blk_frozen BK286.out 1
           have hnb153 := NB270_253.out
           have hnc153 := NB253_270.out
           have hnb154 := NB270_254.out
           have hnc154 := NB254_270.out
           have hnb155 := NB270_275.out
           have hnc155 := NB275_270.out
           have hnb156 := NB270_280.out
           have hnc156 := NB280_270.out
           have hcz157_0 : w131.cell? ⟨gb270, 0, none⟩ = some (.int .i64 t265) := bc_ BK270 0
           have hcz157_1 : w131.cell? ⟨gb270, 1, none⟩ = some (.slice Ao42 t266.length co42) := bc_ BK270 1
           have hfz157_0 := blk_frozen BK270.out 0
           have hfz157_1 := blk_frozen BK270.out 1
           go_wp2_with (first | (go_at_call 9; (with_reducible refine (laws_eqLaurent.calls kj24 t281 _ _ t282 t265 _ _ t266 false _ ?side1 ?side2 ?side3 ?side4 A133.out).mono ?_); (case side1 => repeat (first | exact (Kd.R_reads' HO_287001.out).2.2 | (with_reducible refine Kd.C_alloc ?_ _) | (with_reducible refine Kd.C_drewN ?_ _) | (with_reducible refine Kd.C_drew ?_))); (case side2 => exact (Kd.R_reads' HO_287001.out).2.1); (case side3 => repeat (first | exact (Kd.R_reads' HO_271001.out).2.2 | (with_reducible refine Kd.C_alloc ?_ _) | (with_reducible refine Kd.C_drewN ?_ _) | (with_reducible refine Kd.C_drew ?_))); (case side4 => exact (Kd.R_reads' HO_271001.out).2.1); rintro e w158 ⟨rfl, hb⟩; have n0_ := am_ (Kd.R_below (rk_ HO_271001.out) hb); have n1_ := am_ (Kd.R_below (rk_ HO_276001.out) hb); have n2_ := am_ (Kd.R_below (rk_ HO_281001.out) hb); have n3_ := am_ (Kd.R_below (rk_ HO_287001.out) hb); have n4_ := am_ (Kd.R_below (rk_ HO291.out) hb); have n5_ := am_ (Kd.R_below (rk_ HO296.out) hb); have n6_ := am_ (bw_ BK253 hb); have n7_ := am_ (bw_ BK254 hb); have n8_ := am_ (bw_ BK270 hb); have n9_ := am_ (bw_ BK275 hb); have n10_ := am_ (bw_ BK280 hb); have n11_ := am_ (bw_ BK286 hb); have n12_ := am_ (below_step (bb_ HB.out) hb); clear HO_271001 HO_276001 HO_281001 HO_287001 HO291 HO296 BK253 BK254 BK270 BK275 BK280 BK286 HB; revert n0_ n1_ n2_ n3_ n4_ n5_ n6_ n7_ n8_ n9_ n10_ n11_ n12_; intro HO_271001 HO_276001 HO_281001 HO_287001 HO291 HO296 BK253 BK254 BK270 BK275 BK280 BK286 HB; (try clear hb); (try clear hb2); (try clear hk); (try clear hi)))
           go_meet
           case rel => exact ⟨_, (true), (by first | rfl | (simp; done) | (simp [*]; done)), H', ⟨by have := HJ24.out; first | omega | exact Nat.le_refl _⟩, ⟨rm_ HO_271001.out (fun _ hk => by first | exact ⟨hk.1, ⟨hk.2.1, hk.2.2.1⟩⟩ | simp only [hk, and_self, ne_eq, not_false_eq_true, true_and, and_true])⟩, ⟨rm_ HO_276001.out (fun _ hk => by first | exact ⟨hk.1, ⟨hk.2.1, hk.2.2.1⟩⟩ | simp only [hk, and_self, ne_eq, not_false_eq_true, true_and, and_true])⟩, ⟨rm_ HO_281001.out (fun _ hk => by first | exact ⟨hk.1, ⟨hk.2.1, hk.2.2.1⟩⟩ | simp only [hk, and_self, ne_eq, not_false_eq_true, true_and, and_true])⟩, ⟨rm_ HO_287001.out (fun _ hk => by first | exact ⟨hk.1, ⟨hk.2.1, hk.2.2.1⟩⟩ | simp only [hk, and_self, ne_eq, not_false_eq_true, true_and, and_true])⟩, ⟨bk_ BK253.out⟩, ⟨bk_ BK254.out⟩, ⟨bk_ BK270.out⟩, ⟨bk_ BK275.out⟩, ⟨bk_ BK280.out⟩, ⟨bk_ BK286.out⟩, ⟨bb_ HB.out⟩⟩
        case rest =>
         clear HC110
         try clear c1
         try clear p2
         try clear c7
         try clear c8
         try clear c9
         try clear c10
         try clear c11
         try clear c12
         try clear c13
         try clear c14
         try clear c15
         try clear c79
         try clear c80
         try clear c81
         try clear c83
         try clear c84
         try clear c85
         try clear c86
         try clear c89
         try clear c90
         try clear c91
         try clear c92
         try clear c93
         try clear c95
         try clear c96
         try clear c97
         try clear c98
         try clear c101
         try clear c104
         try clear c107
         try clear c119
         try clear c120
         try clear c121
         try clear c122
         try clear c123
         try clear c126
         try clear c127
         try clear c128
         try clear c129
         try clear c132
         try clear c132b0
         try clear c134
         try clear c135
         try clear c136
         try clear c137
         try clear c138
         try clear c139
         try clear c141
         try clear c142
         try clear c143
         try clear c144
         try clear c147
         try clear c148
         try clear c149
         try clear c150
         try clear c151
         try clear c153
         try clear c154
         try clear c155
         try clear c156
         try clear hcz124_0
         try clear hcz124_1
         try clear hcz130_0
         try clear hcz130_1
         try clear hcz140_0
         try clear hcz140_1
         try clear hcz145_0
         try clear hcz145_1
         try clear hcz152_0
         try clear hcz152_1
         try clear hcz157_0
         try clear hcz157_1
         try clear hcz45_0
         try clear hcz45_1
         try clear hcz51_0
         try clear hcz51_1
         try clear hcz54_0
         try clear hcz54_1
         try clear hcz61_0
         try clear hcz61_1
         try clear hcz64_0
         try clear hcz64_1
         try clear hcz65_0
         try clear hcz65_1
         try clear hcz73_0
         try clear hcz73_1
         try clear hcz82_0
         try clear hcz82_1
         try clear hcz87_0
         try clear hcz87_1
         try clear hcz94_0
         try clear hcz94_1
         try clear hcz99_0
         try clear hcz99_1
         try clear hfz124_0
         try clear hfz124_1
         try clear hfz130_0
         try clear hfz130_1
         try clear hfz140_0
         try clear hfz140_1
         try clear hfz145_0
         try clear hfz145_1
         try clear hfz152_0
         try clear hfz152_1
         try clear hfz157_0
         try clear hfz157_1
         try clear hfz45_0
         try clear hfz45_1
         try clear hfz51_0
         try clear hfz51_1
         try clear hfz54_0
         try clear hfz54_1
         try clear hfz61_0
         try clear hfz61_1
         try clear hfz64_0
         try clear hfz64_1
         try clear hfz65_0
         try clear hfz65_1
         try clear hfz73_0
         try clear hfz73_1
         try clear hfz82_0
         try clear hfz82_1
         try clear hfz87_0
         try clear hfz87_1
         try clear hfz94_0
         try clear hfz94_1
         try clear hfz99_0
         try clear hfz99_1
         obtain ⟨kq, x82_109, rfl, HA, HJ109, HO_271001, HO_276001, HO_281001, HO_287001, BK253, BK254, BK270, BK275, BK280, BK286, HB⟩ := hcut
         have hl276001_109 := (Kd.R_reads' HO_276001.out).1
         rw [hl276001_109] at HO_276001
         (try simp only [hl276001_109])
         (try simp only [hl276001_109] at BK253)
         (try simp only [hl276001_109] at BK254)
         (try simp only [hl276001_109] at BK270)
         (try simp only [hl276001_109] at BK275)
         (try simp only [hl276001_109] at BK280)
         (try simp only [hl276001_109] at BK286)
         (try simp only [hl276001_109] at HO_271001)
         (try simp only [hl276001_109] at HO_281001)
         (try simp only [hl276001_109] at HO_287001)
         have hl281001_109 := (Kd.R_reads' HO_281001.out).1
         rw [hl281001_109] at HO_281001
         (try simp only [hl281001_109])
         (try simp only [hl281001_109] at BK253)
         (try simp only [hl281001_109] at BK254)
         (try simp only [hl281001_109] at BK270)
         (try simp only [hl281001_109] at BK275)
         (try simp only [hl281001_109] at BK280)
         (try simp only [hl281001_109] at BK286)
         (try simp only [hl281001_109] at HO_271001)
         (try simp only [hl281001_109] at HO_276001)
         (try simp only [hl281001_109] at HO_287001)
         cases kq with
         | zero => exact absurd HA.out (by simp [laws_FnExactMultiplyLaurent.j1])
         | succ kj109 =>
          have H := HA.out
          clear HA
          simp only [laws_FnExactMultiplyLaurent.j1] at H
          by_cases c159 : x82_109 = true
          ·subst c159
           have H1 : (some false) = some r := by rw [if_pos rfl] at H; exact H
           clear H
           have H := H1
           clear H1
           exact absurd ((Option.some.inj H).trans HTRUE_.out) (by simp)
          ·replace c159 := Bool.eq_false_iff.mpr c159
           subst c159
           have H1 : ((laws_markLaurent.f kj109 t281 t282 1).bind fun bt303 => ((laws_heldLaurent.f kj109 t281 bt303.2 1).bind fun t305 => (if t305 < 0 then (some false) else (if t305 = bt303.1 then ((laws_toLaurent.f kj109 a0_0 l0_1).bind fun bt306 => ((laws_toLaurent.f kj109 a1_0 l1_1).bind fun bt310 => ((impl_MultiplyLaurent.f kj109 bt306.1 bt306.2 bt310.1 bt310.2).bind fun bt314 => ((laws_eqLaurent.f kj109 bt314.1 bt314.2.1 t265 t266).bind fun t320 => (if t320 = true then (laws_FnExactMultiplyLaurent.j2 kj109 bt303.1 (bt314.2.2 != t269) t281 bt303.2) else (laws_FnExactMultiplyLaurent.j2 kj109 bt303.1 true t281 bt303.2)))))) else (some false))))) = some r := by rw [if_neg (show ¬ (false = true) by decide)] at H; exact H
           clear H
           have H := H1
           clear H1
           replace H := Option.bind_eq_some_iff.mp H
           obtain ⟨⟨t303, t304⟩, A1600, H⟩ := H
           replace H : ((laws_heldLaurent.f kj109 t281 t304 1).bind fun t305 => (if t305 < 0 then (some false) else (if t305 = t303 then ((laws_toLaurent.f kj109 a0_0 l0_1).bind fun bt306 => ((laws_toLaurent.f kj109 a1_0 l1_1).bind fun bt310 => ((impl_MultiplyLaurent.f kj109 bt306.1 bt306.2 bt310.1 bt310.2).bind fun bt314 => ((laws_eqLaurent.f kj109 bt314.1 bt314.2.1 t265 t266).bind fun t320 => (if t320 = true then (laws_FnExactMultiplyLaurent.j2 kj109 t303 (bt314.2.2 != t269) t281 t304) else (laws_FnExactMultiplyLaurent.j2 kj109 t303 true t281 t304)))))) else (some false)))) = some r := H
           have A160 := am_ A1600
           clear A1600
           replace H := Option.bind_eq_some_iff.mp H
           obtain ⟨t305, A1610, H⟩ := H
           replace H : (if t305 < 0 then (some false) else (if t305 = t303 then ((laws_toLaurent.f kj109 a0_0 l0_1).bind fun bt306 => ((laws_toLaurent.f kj109 a1_0 l1_1).bind fun bt310 => ((impl_MultiplyLaurent.f kj109 bt306.1 bt306.2 bt310.1 bt310.2).bind fun bt314 => ((laws_eqLaurent.f kj109 bt314.1 bt314.2.1 t265 t266).bind fun t320 => (if t320 = true then (laws_FnExactMultiplyLaurent.j2 kj109 t303 (bt314.2.2 != t269) t281 t304) else (laws_FnExactMultiplyLaurent.j2 kj109 t303 true t281 t304)))))) else (some false))) = some r := H
           have A161 := am_ A1610
           clear A1610
           by_cases c162 : t305 < 0
           ·rw [if_pos c162] at H
            have c162b0 : decide (t305 < 0) = true := decide_eq_true c162
            clear c162
            exact absurd ((Option.some.inj H).trans HTRUE_.out) (by simp)
           ·rw [if_neg c162] at H
            have c162b0 : decide (t305 < 0) = false := decide_eq_false c162
            clear c162
            by_cases c163 : t305 = t303
            ·rw [if_pos c163] at H
             have c163b0 : (t305 == t303) = true := beq_iff_eq.mpr c163
             have c163b1 : (t305 != t303) = false := bne_eq_false_iff_eq.mpr c163
             clear c163
             replace H := Option.bind_eq_some_iff.mp H
             obtain ⟨⟨t306, t307⟩, A1640, H⟩ := H
             replace H : ((laws_toLaurent.f kj109 a1_0 l1_1).bind fun bt310 => ((impl_MultiplyLaurent.f kj109 t306 t307 bt310.1 bt310.2).bind fun bt314 => ((laws_eqLaurent.f kj109 bt314.1 bt314.2.1 t265 t266).bind fun t320 => (if t320 = true then (laws_FnExactMultiplyLaurent.j2 kj109 t303 (bt314.2.2 != t269) t281 t304) else (laws_FnExactMultiplyLaurent.j2 kj109 t303 true t281 t304))))) = some r := H
             have A164 := am_ A1640
             clear A1640
             replace H := Option.bind_eq_some_iff.mp H
             obtain ⟨⟨t310, t311⟩, A1650, H⟩ := H
             replace H : ((impl_MultiplyLaurent.f kj109 t306 t307 t310 t311).bind fun bt314 => ((laws_eqLaurent.f kj109 bt314.1 bt314.2.1 t265 t266).bind fun t320 => (if t320 = true then (laws_FnExactMultiplyLaurent.j2 kj109 t303 (bt314.2.2 != t269) t281 t304) else (laws_FnExactMultiplyLaurent.j2 kj109 t303 true t281 t304)))) = some r := H
             have A165 := am_ A1650
             clear A1650
             replace H := Option.bind_eq_some_iff.mp H
             obtain ⟨⟨t314, t315, t318⟩, A1660, H⟩ := H
             replace H : ((laws_eqLaurent.f kj109 t314 t315 t265 t266).bind fun t320 => (if t320 = true then (laws_FnExactMultiplyLaurent.j2 kj109 t303 (t318 != t269) t281 t304) else (laws_FnExactMultiplyLaurent.j2 kj109 t303 true t281 t304))) = some r := H
             have A166 := am_ A1660
             clear A1660
             have HC167 := am_ H
             clear H
             have hnb168 := NB286_253.out
             have hnc168 := NB253_286.out
             have hnb169 := NB286_254.out
             have hnc169 := NB254_286.out
             have hnb170 := NB286_270.out
             have hnc170 := NB270_286.out
             have hnb171 := NB286_275.out
             have hnc171 := NB275_286.out
             have hnb172 := NB286_280.out
             have hnc172 := NB280_286.out
             have hcz173_0 : wc.cell? ⟨gb286, 0, none⟩ = some (.int .i64 t281) := bc_ BK286 0
             have hcz173_1 : wc.cell? ⟨gb286, 1, none⟩ = some (.slice Ao74 t282.length co74) := bc_ BK286 1
             have hfz173_0 := blk_frozen BK286.out 0
             have hfz173_1 := blk_frozen BK286.out 1
             try go_wp2_with (first | ((with_reducible refine gate_callee (f := 10) rfl ?_); refine goesL_ (some 85) rfl rfl Try.func10 (by kernel_rfl) rfl #[.agg #[.int .i64 t281, .slice Ao74 t282.length co74], .int .i64 1] rfl lm_ ?_; (with_reducible refine (laws_markLaurent.calls kj109 t281 (fun k_ => some k_ = (.slice Ao74 t282.length co74 : Value).ownBlock) (.slice Ao74 t282.length co74) t282 1 t303 t304 w _ ?side1 ?side2 A160.out).mono ?_); (case side1 => repeat (first | (with_reducible first | exact HB.out | apply below_alloc | apply pw_below_drewN | apply below_drew1 | refine below_set ?_ GE253.out | refine below_set ?_ GE254.out | refine below_set ?_ GE270.out | refine below_set ?_ GE275.out | refine below_set ?_ GE280.out | refine below_set ?_ GE286.out) | exact HB.out)); (case side2 => exact Kd.R_tight rfl HO_287001.out); rintro e w174 ⟨rfl, hy0, hb, hkp⟩; refine ⟨_, rfl, ?_⟩; have n0_ := am_ (Kd.R_mono (ok' := fun k_ => some k_ ≠ (.slice Ao52 t299.length co52 : Value).ownBlock ∧ some k_ ≠ (.slice Ao62 t301.length co62 : Value).ownBlock ∧ some k_ ≠ (.slice Ao74 t282.length co74 : Value).ownBlock) (Kd.R_keptB (HO_271001.out) hkp (fun k_ hk_ hs_ => (hk_.2.2) hs_)) (fun k_ hk_ => ⟨hk_.1.1, hk_.1.2.1, hk_.1.2.2⟩)); have n1_ := am_ (Kd.R_mono (ok' := fun k_ => some k_ ≠ (.slice Ao42 t266.length co42 : Value).ownBlock ∧ some k_ ≠ (.slice Ao62 t301.length co62 : Value).ownBlock ∧ some k_ ≠ (.slice Ao74 t282.length co74 : Value).ownBlock) (Kd.R_keptB (HO_276001.out) hkp (fun k_ hk_ hs_ => (hk_.2.2) hs_)) (fun k_ hk_ => ⟨hk_.1.1, hk_.1.2.1, hk_.1.2.2⟩)); have n2_ := am_ (Kd.R_mono (ok' := fun k_ => some k_ ≠ (.slice Ao42 t266.length co42 : Value).ownBlock ∧ some k_ ≠ (.slice Ao52 t299.length co52 : Value).ownBlock ∧ some k_ ≠ (.slice Ao74 t282.length co74 : Value).ownBlock) (Kd.R_keptB (HO_281001.out) hkp (fun k_ hk_ hs_ => (hk_.2.2) hs_)) (fun k_ hk_ => ⟨hk_.1.1, hk_.1.2.1, hk_.1.2.2⟩)); have n3_ := am_ (Kd.R_reok rfl hy0 (fun k_ e_ => HO_287001.out.1 k_ e_)); have n4_ := am_ (blk_kept (bk_ BK253.out) hkp (fun hs_ => (fun e_ => (Kd.R_ne HO_287001.out BK253.out (by decide)) e_) hs_)); have n5_ := am_ (blk_kept (bk_ BK254.out) hkp (fun hs_ => (fun e_ => (Kd.R_ne HO_287001.out BK254.out (by decide)) e_) hs_)); have n6_ := am_ (blk_kept (bk_ BK270.out) hkp (fun hs_ => (fun e_ => (Kd.R_ne HO_287001.out BK270.out (by decide)) e_) hs_)); have n7_ := am_ (blk_kept (bk_ BK275.out) hkp (fun hs_ => (fun e_ => (Kd.R_ne HO_287001.out BK275.out (by decide)) e_) hs_)); have n8_ := am_ (blk_kept (bk_ BK280.out) hkp (fun hs_ => (fun e_ => (Kd.R_ne HO_287001.out BK280.out (by decide)) e_) hs_)); have n9_ := am_ (blk_kept (bk_ BK286.out) hkp (fun hs_ => (fun e_ => (Kd.R_ne HO_287001.out BK286.out (by decide)) e_) hs_)); have n10_ := am_ (hb); clear HO_271001 HO_276001 HO_281001 HO_287001 BK253 BK254 BK270 BK275 BK280 BK286 HB; revert n0_ n1_ n2_ n3_ n4_ n5_ n6_ n7_ n8_ n9_ n10_; intro HO_271001 HO_276001 HO_281001 HO_287001 BK253 BK254 BK270 BK275 BK280 BK286 HB; (try clear hb); (try clear hkp); (try clear hy0); have hcz175_0 : w174.cell? ⟨gb286, 0, none⟩ = some (.int .i64 t281) := bc_ BK286 0; have hcz175_1 : w174.cell? ⟨gb286, 1, none⟩ = some (.slice Ao74 t282.length co74) := bc_ BK286 1; have hfz175_0 := blk_frozen BK286.out 0; have hfz175_1 := blk_frozen BK286.out 1) | ((with_reducible refine gate_callee (f := 11) rfl ?_); refine goesL_ (some 88) rfl rfl Try.func11 (by kernel_rfl) rfl #[.agg #[.int .i64 t281, .slice Ao74 t304.length co74], .int .i64 1] rfl (by (try simp only [List.map_toArray, List.map_cons, List.map_nil]); first | done | (rw [show t304.length = t282.length from (Kd.R_reads' HO_287001.out).1.symm] <;> rfl) | rfl | (simp only [List.length_drop, List.length_take]; rfl)) ?_; (with_reducible refine (laws_heldLaurent.calls kj109 t281 _ _ t304 1 t305 _ ?side1 ?side2 A161.out).mono ?_); (case side1 => repeat (first | exact (Kd.R_reads' HO_287001.out).2.2 | (with_reducible refine Kd.C_alloc ?_ _) | (with_reducible refine Kd.C_drewN ?_ _) | (with_reducible refine Kd.C_drew ?_))); (case side2 => rw [show t304.length = t282.length from (Kd.R_reads' HO_287001.out).1.symm]; exact (Kd.R_reads' HO_287001.out).2.1); rintro e w176 ⟨rfl, hb⟩; refine ⟨_, rfl, ?_⟩; have n0_ := am_ (Kd.R_below (rk_ HO_271001.out) hb); have n1_ := am_ (Kd.R_below (rk_ HO_276001.out) hb); have n2_ := am_ (Kd.R_below (rk_ HO_281001.out) hb); have n3_ := am_ (Kd.R_below (rk_ HO_287001.out) hb); have n4_ := am_ (bw_ BK253 hb); have n5_ := am_ (bw_ BK254 hb); have n6_ := am_ (bw_ BK270 hb); have n7_ := am_ (bw_ BK275 hb); have n8_ := am_ (bw_ BK280 hb); have n9_ := am_ (bw_ BK286 hb); have n10_ := am_ (below_step (bb_ HB.out) hb); clear HO_271001 HO_276001 HO_281001 HO_287001 BK253 BK254 BK270 BK275 BK280 BK286 HB; revert n0_ n1_ n2_ n3_ n4_ n5_ n6_ n7_ n8_ n9_ n10_; intro HO_271001 HO_276001 HO_281001 HO_287001 BK253 BK254 BK270 BK275 BK280 BK286 HB; (try clear hb); (try clear hb2); (try clear hk); (try clear hi)))
             have n0_ := am_ (Kd.R_drew HO_271001.out)
             have n1_ := am_ (Kd.R_drew HO_276001.out)
             have n2_ := am_ (Kd.R_drew HO_281001.out)
             have n3_ := am_ (Kd.R_drew HO_287001.out)
             have n4_ := am_ (blk_drew BK253.out)
             have n5_ := am_ (blk_drew BK254.out)
             have n6_ := am_ (blk_drew BK270.out)
             have n7_ := am_ (blk_drew BK275.out)
             have n8_ := am_ (blk_drew BK280.out)
             have n9_ := am_ (blk_drew BK286.out)
             have n10_ := am_ (below_drew1 HB.out)
             clear HO_271001 HO_276001 HO_281001 HO_287001 BK253 BK254 BK270 BK275 BK280 BK286 HB; revert n0_ n1_ n2_ n3_ n4_ n5_ n6_ n7_ n8_ n9_ n10_; intro HO_271001 HO_276001 HO_281001 HO_287001 BK253 BK254 BK270 BK275 BK280 BK286 HB
             refine start_ (n := 11) (S := fun w' => w'.cell? ⟨gb253, 0, none⟩ = some (.int .i64 a0_0) ∧ w'.cell? ⟨gb253, 1, none⟩ = some (.slice A0_1 l0_1.length c0_1) ∧ w'.cell? ⟨gb254, 0, none⟩ = some (.int .i64 a1_0) ∧ w'.cell? ⟨gb254, 1, none⟩ = some (.slice A1_1 l1_1.length c1_1)) (ds := []) #[false, false, false, false, false, false, false, false, false, false, false] (by kernel_rfl) rfl rfl ⟨bc_ BK253 0, bc_ BK253 1, bc_ BK254 0, bc_ BK254 1⟩ (fun hHeld => ?_); refine with_tabW laws_FnExactMultiplyLaurent.tab31 laws_FnExactMultiplyLaurent.bits31 (fun HT_ HW_ => ?_)
             generalize w176.drew = w177 at HO_271001 HO_276001 HO_281001 HO_287001 BK253 BK254 BK270 BK275 BK280 BK286 HB hHeld ⊢
             refine take_ (i := 0) (N := some 95) (v := ?_) (a' := ?_) #[true, false, false, false, false, false, false, false, false, false, false] rfl rfl (take_ofW HT_.out HW_.out (by kernel_rfl)) (fun _ _ _ h => h) (Or.inl ⟨by rfl, ?_⟩) hHeld ?_ ?_
             rotate_left
             ·rintro w' ⟨s0, s1, s2, s3⟩
              go_simp
              with_reducible rfl
             rotate_left
             ·simp only [Act.put, List.setIfInBounds_toArray, List.set_cons_zero, List.set_cons_succ, i64_w, i32_w]
              rfl
             refine take_ (i := 2) (N := some 97) (v := ?_) (a' := ?_) #[true, false, true, false, false, false, false, false, false, false, false] rfl rfl (take_ofW HT_.out HW_.out (by kernel_rfl)) (fun _ _ _ h => h) (Or.inl ⟨by rfl, ?_⟩) hHeld ?_ ?_
             rotate_left
             ·rintro w' ⟨s0, s1, s2, s3⟩
              go_simp
              with_reducible rfl
             rotate_left
             ·simp only [Act.put, List.setIfInBounds_toArray, List.set_cons_zero, List.set_cons_succ, i64_w, i32_w]
              rfl
             refine join_ (σ := Value × Value × Value × Nat) 2 #[true, true, true, true, true, true, true, true, true, false, false] (fun s_ => [(96, .agg #[.int .i64 t306, s_.1]), (98, .agg #[.int .i64 t310, s_.2.1]), (99, .tuple #[.agg #[.int .i64 t314, s_.2.2.1], .int .i64 t318]), (15, .pointer (some ⟨s_.2.2.2, 0, none⟩)), (94, .tuple #[.agg #[.int .i64 t314, s_.2.2.1], .int .i64 t318]), (100, .agg #[.int .i64 t314, s_.2.2.1]), (101, .int .i64 t318)]) (fun s_ w' => (w'.cell? ⟨gb253, 0, none⟩ = some (.int .i64 a0_0) ∧ w'.cell? ⟨gb253, 1, none⟩ = some (.slice A0_1 l0_1.length c0_1) ∧ w'.cell? ⟨gb254, 0, none⟩ = some (.int .i64 a1_0) ∧ w'.cell? ⟨gb254, 1, none⟩ = some (.slice A1_1 l1_1.length c1_1)) ∧ (Kd.R (Kd.int .i64) 2 w' w.heap.size (fun k_ => some k_ ≠ (s_.2.1 : Value).ownBlock ∧ some k_ ≠ (s_.2.2.1 : Value).ownBlock ∧ some k_ ≠ (.slice Ao42 t266.length co42 : Value).ownBlock ∧ some k_ ≠ (.slice Ao52 t299.length co52 : Value).ownBlock ∧ some k_ ≠ (.slice Ao62 t301.length co62 : Value).ownBlock ∧ some k_ ≠ (.slice Ao74 t282.length co74 : Value).ownBlock) s_.1 t307) ∧ (Kd.R (Kd.int .i64) 2 w' w.heap.size (fun k_ => some k_ ≠ (s_.1 : Value).ownBlock ∧ some k_ ≠ (s_.2.2.1 : Value).ownBlock ∧ some k_ ≠ (.slice Ao42 t266.length co42 : Value).ownBlock ∧ some k_ ≠ (.slice Ao52 t299.length co52 : Value).ownBlock ∧ some k_ ≠ (.slice Ao62 t301.length co62 : Value).ownBlock ∧ some k_ ≠ (.slice Ao74 t282.length co74 : Value).ownBlock) s_.2.1 t311) ∧ (Kd.R (Kd.int .i64) 2 w' w.heap.size (fun k_ => some k_ ≠ (s_.1 : Value).ownBlock ∧ some k_ ≠ (s_.2.1 : Value).ownBlock ∧ some k_ ≠ (.slice Ao42 t266.length co42 : Value).ownBlock ∧ some k_ ≠ (.slice Ao52 t299.length co52 : Value).ownBlock ∧ some k_ ≠ (.slice Ao62 t301.length co62 : Value).ownBlock ∧ some k_ ≠ (.slice Ao74 t282.length co74 : Value).ownBlock) s_.2.2.1 t315) ∧ (Kd.R (Kd.int .i64) 2 w' w.heap.size (fun k_ => some k_ ≠ (s_.1 : Value).ownBlock ∧ some k_ ≠ (s_.2.1 : Value).ownBlock ∧ some k_ ≠ (s_.2.2.1 : Value).ownBlock ∧ some k_ ≠ (.slice Ao52 t299.length co52 : Value).ownBlock ∧ some k_ ≠ (.slice Ao62 t301.length co62 : Value).ownBlock ∧ some k_ ≠ (.slice Ao74 t282.length co74 : Value).ownBlock) (.slice Ao42 t266.length co42) t266) ∧ (Kd.R (Kd.int .i64) 2 w' w.heap.size (fun k_ => some k_ ≠ (s_.1 : Value).ownBlock ∧ some k_ ≠ (s_.2.1 : Value).ownBlock ∧ some k_ ≠ (s_.2.2.1 : Value).ownBlock ∧ some k_ ≠ (.slice Ao42 t266.length co42 : Value).ownBlock ∧ some k_ ≠ (.slice Ao62 t301.length co62 : Value).ownBlock ∧ some k_ ≠ (.slice Ao74 t282.length co74 : Value).ownBlock) (.slice Ao52 t299.length co52) t299) ∧ (Kd.R (Kd.int .i64) 2 w' w.heap.size (fun k_ => some k_ ≠ (s_.1 : Value).ownBlock ∧ some k_ ≠ (s_.2.1 : Value).ownBlock ∧ some k_ ≠ (s_.2.2.1 : Value).ownBlock ∧ some k_ ≠ (.slice Ao42 t266.length co42 : Value).ownBlock ∧ some k_ ≠ (.slice Ao52 t299.length co52 : Value).ownBlock ∧ some k_ ≠ (.slice Ao74 t282.length co74 : Value).ownBlock) (.slice Ao62 t301.length co62) t301) ∧ (Kd.R (Kd.int .i64) 2 w' w.heap.size (fun k_ => some k_ ≠ (s_.1 : Value).ownBlock ∧ some k_ ≠ (s_.2.1 : Value).ownBlock ∧ some k_ ≠ (s_.2.2.1 : Value).ownBlock ∧ some k_ ≠ (.slice Ao42 t266.length co42 : Value).ownBlock ∧ some k_ ≠ (.slice Ao52 t299.length co52 : Value).ownBlock ∧ some k_ ≠ (.slice Ao62 t301.length co62 : Value).ownBlock) (.slice Ao74 t282.length co74) t304) ∧ (w'.heap[gb253]? = some (.cells #[.int .i64 a0_0, .slice A0_1 l0_1.length c0_1] 24 (0, 0))) ∧ (w'.heap[gb254]? = some (.cells #[.int .i64 a1_0, .slice A1_1 l1_1.length c1_1] 24 (0, 0))) ∧ (w'.heap[gb270]? = some (.cells #[.int .i64 t265, .slice Ao42 t266.length co42] 26 (0, 0))) ∧ (w'.heap[gb275]? = some (.cells #[.int .i64 t271, .slice Ao52 t299.length co52] 26 (0, 0))) ∧ (w'.heap[gb280]? = some (.cells #[.int .i64 t276, .slice Ao62 t301.length co62] 26 (0, 0))) ∧ (w'.heap[gb286]? = some (.cells #[.int .i64 t281, .slice Ao74 t282.length co74] 26 (0, 0))) ∧ (w'.heap[s_.2.2.2]? = some (.cells #[.int .i64 0, .slice none 0 0] 26 (0, 0))) ∧ (w.heap.size ≤ s_.2.2.2) ∧ (w.heap.size ≤ s_.2.2.2) ∧ (gb253 ≠ s_.2.2.2) ∧ (s_.2.2.2 ≠ gb253) ∧ (gb254 ≠ s_.2.2.2) ∧ (s_.2.2.2 ≠ gb254) ∧ (gb270 ≠ s_.2.2.2) ∧ (s_.2.2.2 ≠ gb270) ∧ (gb275 ≠ s_.2.2.2) ∧ (s_.2.2.2 ≠ gb275) ∧ (gb280 ≠ s_.2.2.2) ∧ (s_.2.2.2 ≠ gb280) ∧ (gb286 ≠ s_.2.2.2) ∧ (s_.2.2.2 ≠ gb286) ∧ (Below w.heap.size w w')) ?_ ?_
             rotate_left
             ·intro hCont
              refine two_ (i := 1) (j := 8) (Ni := some 96) (Nj := some 15) #[true, true, true, false, false, false, false, false, false, false, false] #[true, false, true, false, false, false, false, false, true, false, false] rfl rfl rfl rfl (two_of HT_.out (by kernel_rfl)) (by decide) (by decide) (fun K hK => ?_) (fun K hK => ?_)
              ·skip
               refine goes_ Try.func7 (by kernel_rfl) rfl #[.agg #[.int .i64 a0_0, .slice A0_1 l0_1.length c0_1]] (by rfl) rfl rfl lm_ ?_
               with_reducible refine (laws_toLaurent.calls kj109 a0_0 _ _ l0_1 t306 t307 _ ?side1 ?side2 A164.out).mono ?_
               (case side1 => repeat (first | exact (Kd.C_below HR0_1.out HB.out) | (with_reducible refine Kd.C_alloc ?_ _) | (with_reducible refine Kd.C_drewN ?_ _) | (with_reducible refine Kd.C_drew ?_)))
               (case side2 => exact HC0_1.out)
               rintro e w178 ⟨v308, rfl, ho0, hb⟩
               refine ⟨_, rfl, ?_⟩
               have n0_ := am_ (Kd.R_elder' (rk_ HO_271001.out) (Kd.R_base ho0) hb)
               have n1_ := am_ (Kd.R_elder' (rk_ HO_276001.out) (Kd.R_base ho0) hb)
               have n2_ := am_ (Kd.R_elder' (rk_ HO_281001.out) (Kd.R_base ho0) hb)
               have n3_ := am_ (Kd.R_elder' (rk_ HO_287001.out) (Kd.R_base ho0) hb)
               have n4_ := am_ (Kd.R_lower (Kd.R_new' (Kd.R_new' (Kd.R_new' (Kd.R_new' ho0 (Kd.R_lt (rk_ HO_271001.out))) (Kd.R_lt (rk_ HO_276001.out))) (Kd.R_lt (rk_ HO_281001.out))) (Kd.R_lt (rk_ HO_287001.out))) (below_size (bb_ HB.out)))
               have n5_ := am_ (bw_ BK253 hb)
               have n6_ := am_ (bw_ BK254 hb)
               have n7_ := am_ (bw_ BK270 hb)
               have n8_ := am_ (bw_ BK275 hb)
               have n9_ := am_ (bw_ BK280 hb)
               have n10_ := am_ (bw_ BK286 hb)
               have n11_ := am_ (below_step (bb_ HB.out) hb)
               clear HO_271001 HO_276001 HO_281001 HO_287001 BK253 BK254 BK270 BK275 BK280 BK286 HB; revert n0_ n1_ n2_ n3_ n4_ n5_ n6_ n7_ n8_ n9_ n10_ n11_; intro HO_271001 HO_276001 HO_281001 HO_287001 HO309 BK253 BK254 BK270 BK275 BK280 BK286 HB
               (try clear hb)
               (try clear hb2)
               (try clear hk)
               (try clear hi)
               (try clear ho0)
               refine hK.out _ _ ⟨bc_ BK253 0, bc_ BK253 1, bc_ BK254 0, bc_ BK254 1⟩ (fun hHeld => ?_)
               clear hK K
               refine norm_ (a' := ?_) ?_ ?_
               rotate_left
               ·show Act.put _ (some 96) _ = _
                simp only [Act.put, List.setIfInBounds_toArray, List.set_cons_zero, List.set_cons_succ, i64_w, i32_w]
                rfl
               refine two_ (i := 3) (j := 8) (Ni := some 98) (Nj := some 15) #[true, true, true, true, false, false, false, false, false, false, false] #[true, true, true, false, false, false, false, false, true, false, false] rfl rfl rfl rfl (two_of HT_.out (by kernel_rfl)) (by decide) (by decide) (fun K hK => ?_) (fun K hK => ?_)
               ·skip
                refine goes_ Try.func7 (by kernel_rfl) rfl #[.agg #[.int .i64 a1_0, .slice A1_1 l1_1.length c1_1]] (by rfl) rfl rfl lm_ ?_
                with_reducible refine (laws_toLaurent.calls kj109 a1_0 _ _ l1_1 t310 t311 _ ?side1 ?side2 A165.out).mono ?_
                (case side1 => repeat (first | exact (Kd.C_below HR1_1.out HB.out) | (with_reducible refine Kd.C_alloc ?_ _) | (with_reducible refine Kd.C_drewN ?_ _) | (with_reducible refine Kd.C_drew ?_)))
                (case side2 => exact HC1_1.out)
                rintro e w179 ⟨v312, rfl, ho0, hb⟩
                refine ⟨_, rfl, ?_⟩
                have n0_ := am_ (Kd.R_elder' (rk_ HO_271001.out) (Kd.R_base ho0) hb)
                have n1_ := am_ (Kd.R_elder' (rk_ HO_276001.out) (Kd.R_base ho0) hb)
                have n2_ := am_ (Kd.R_elder' (rk_ HO_281001.out) (Kd.R_base ho0) hb)
                have n3_ := am_ (Kd.R_elder' (rk_ HO_287001.out) (Kd.R_base ho0) hb)
                have n4_ := am_ (Kd.R_elder' (rk_ HO309.out) (Kd.R_base ho0) hb)
                have n5_ := am_ (Kd.R_lower (Kd.R_new' (Kd.R_new' (Kd.R_new' (Kd.R_new' (Kd.R_new' ho0 (Kd.R_lt (rk_ HO_271001.out))) (Kd.R_lt (rk_ HO_276001.out))) (Kd.R_lt (rk_ HO_281001.out))) (Kd.R_lt (rk_ HO_287001.out))) (Kd.R_lt (rk_ HO309.out))) (below_size (bb_ HB.out)))
                have n6_ := am_ (bw_ BK253 hb)
                have n7_ := am_ (bw_ BK254 hb)
                have n8_ := am_ (bw_ BK270 hb)
                have n9_ := am_ (bw_ BK275 hb)
                have n10_ := am_ (bw_ BK280 hb)
                have n11_ := am_ (bw_ BK286 hb)
                have n12_ := am_ (below_step (bb_ HB.out) hb)
                clear HO_271001 HO_276001 HO_281001 HO_287001 HO309 BK253 BK254 BK270 BK275 BK280 BK286 HB; revert n0_ n1_ n2_ n3_ n4_ n5_ n6_ n7_ n8_ n9_ n10_ n11_ n12_; intro HO_271001 HO_276001 HO_281001 HO_287001 HO309 HO313 BK253 BK254 BK270 BK275 BK280 BK286 HB
                (try clear hb)
                (try clear hb2)
                (try clear hk)
                (try clear hi)
                (try clear ho0)
                obtain ⟨Ao180, co180, eo180⟩ := Kd.R_slice HO309.out
                (first | subst eo180 | (injection eo180 with f1_ f2_ f3_; have f4_ := f1_.symm; have f5_ := f3_.symm; clear f1_ f2_ f3_; subst f4_; subst f5_))
                obtain ⟨Ao181, co181, eo181⟩ := Kd.R_slice HO313.out
                (first | subst eo181 | (injection eo181 with f1_ f2_ f3_; have f4_ := f1_.symm; have f5_ := f3_.symm; clear f1_ f2_ f3_; subst f4_; subst f5_))
                refine hK.out _ _ ⟨bc_ BK253 0, bc_ BK253 1, bc_ BK254 0, bc_ BK254 1⟩ (fun hHeld => ?_)
                clear hK K
                refine norm_ (a' := ?_) ?_ ?_
                rotate_left
                ·show Act.put _ (some 98) _ = _
                 simp only [Act.put, List.setIfInBounds_toArray, List.set_cons_zero, List.set_cons_succ, i64_w, i32_w]
                 rfl
                refine two_ (i := 4) (j := 8) (Ni := some 99) (Nj := some 15) #[true, true, true, true, true, false, false, false, false, false, false] #[true, true, true, true, false, false, false, false, true, false, false] rfl rfl rfl rfl (two_of HT_.out (by kernel_rfl)) (by decide) (by decide) (fun K hK => ?_) (fun K hK => ?_)
                ·skip
                 refine goes_ Try.func13 (by kernel_rfl) rfl #[.agg #[.int .i64 t306, .slice Ao180 t307.length co180], .agg #[.int .i64 t310, .slice Ao181 t311.length co181]] (by rfl) rfl rfl lm_ ?_
                 with_reducible refine (impl_MultiplyLaurent.calls kj109 t306 (fun k_ => some k_ = (.slice Ao180 t307.length co180 : Value).ownBlock) _ _ t307 t310 (fun k_ => some k_ = (.slice Ao181 t311.length co181 : Value).ownBlock) _ _ t311 t314 t315 t318 _ ?side1 ?side2 A166.out).mono ?_
                 (case side1 => exact Kd.R_V (Kd.R_tight rfl (Kd.R_types (Kd.R_types (Kd.R_types (Kd.R_types (Kd.R_types (Kd.R_types (HO309.out) BK253.out (by decide)) BK254.out (by decide)) BK270.out (by decide)) BK275.out (by decide)) BK280.out (by decide)) BK286.out (by decide))))
                 (case side2 => exact Kd.R_V (Kd.R_tight rfl (Kd.R_types (Kd.R_types (Kd.R_types (Kd.R_types (Kd.R_types (Kd.R_types (HO313.out) BK253.out (by decide)) BK254.out (by decide)) BK270.out (by decide)) BK275.out (by decide)) BK280.out (by decide)) BK286.out (by decide))))
                 rintro e w182 ⟨v316, rfl, ho0, hb⟩
                 refine ⟨_, rfl, ?_⟩
                 have n0_ := am_ (Kd.R_elder' (rk_ HO_271001.out) (Kd.R_base ho0) hb)
                 have n1_ := am_ (Kd.R_elder' (rk_ HO_276001.out) (Kd.R_base ho0) hb)
                 have n2_ := am_ (Kd.R_elder' (rk_ HO_281001.out) (Kd.R_base ho0) hb)
                 have n3_ := am_ (Kd.R_elder' (rk_ HO_287001.out) (Kd.R_base ho0) hb)
                 have n4_ := am_ (Kd.R_elder' (rk_ HO309.out) (Kd.R_base ho0) hb)
                 have n5_ := am_ (Kd.R_elder' (rk_ HO313.out) (Kd.R_base ho0) hb)
                 have n6_ := am_ (Kd.R_lower (Kd.R_new' (Kd.R_new' (Kd.R_new' (Kd.R_new' (Kd.R_new' (Kd.R_new' (Kd.R_mono (ok' := fun k_ => True) ho0 (fun _ hk_ => trivial)) (Kd.R_lt (rk_ HO_271001.out))) (Kd.R_lt (rk_ HO_276001.out))) (Kd.R_lt (rk_ HO_281001.out))) (Kd.R_lt (rk_ HO_287001.out))) (Kd.R_lt (rk_ HO309.out))) (Kd.R_lt (rk_ HO313.out))) (below_size (bb_ HB.out)))
                 have n7_ := am_ (bw_ BK253 hb)
                 have n8_ := am_ (bw_ BK254 hb)
                 have n9_ := am_ (bw_ BK270 hb)
                 have n10_ := am_ (bw_ BK275 hb)
                 have n11_ := am_ (bw_ BK280 hb)
                 have n12_ := am_ (bw_ BK286 hb)
                 have n13_ := am_ (below_step (bb_ HB.out) hb)
                 clear HO_271001 HO_276001 HO_281001 HO_287001 HO309 HO313 BK253 BK254 BK270 BK275 BK280 BK286 HB; revert n0_ n1_ n2_ n3_ n4_ n5_ n6_ n7_ n8_ n9_ n10_ n11_ n12_ n13_; intro HO_271001 HO_276001 HO_281001 HO_287001 HO309 HO313 HO317 BK253 BK254 BK270 BK275 BK280 BK286 HB
                 (try clear hb)
                 (try clear hb2)
                 (try clear hk)
                 (try clear hi)
                 (try clear ho0)
                 refine hK.out _ _ ⟨bc_ BK253 0, bc_ BK253 1, bc_ BK254 0, bc_ BK254 1⟩ (fun hHeld => ?_)
                 clear hK K
                 refine norm_ (a' := ?_) ?_ ?_
                 rotate_left
                 ·show Act.put _ (some 99) _ = _
                  simp only [Act.put, List.setIfInBounds_toArray, List.set_cons_zero, List.set_cons_succ, i64_w, i32_w]
                  rfl
                 refine pure_ (i := 5) (N := some 94) (v := ?_) (a' := ?_) #[true, true, true, true, true, true, false, false, false, false, false] rfl rfl (any_of HT_.out (by kernel_rfl)) (fun _ _ _ h => h) (Or.inl ⟨by rfl, ?_⟩) ?_ ?_
                 rotate_left
                 ·intro w'
                  go_simp
                  with_reducible rfl
                 rotate_left
                 ·simp only [Act.put, List.setIfInBounds_toArray, List.set_cons_zero, List.set_cons_succ, i64_w, i32_w]
                  rfl
                 refine pure_ (i := 6) (N := some 100) (v := ?_) (a' := ?_) #[true, true, true, true, true, true, true, false, false, false, false] rfl rfl (any_of HT_.out (by kernel_rfl)) (fun _ _ _ h => h) (Or.inl ⟨by rfl, ?_⟩) ?_ ?_
                 rotate_left
                 ·intro w'
                  go_simp
                  with_reducible rfl
                 rotate_left
                 ·simp only [Act.put, List.setIfInBounds_toArray, List.set_cons_zero, List.set_cons_succ, i64_w, i32_w]
                  rfl
                 refine pure_ (i := 7) (N := some 101) (v := ?_) (a' := ?_) #[true, true, true, true, true, true, true, true, false, false, false] rfl rfl (any_of HT_.out (by kernel_rfl)) (fun _ _ _ h => h) (Or.inl ⟨by rfl, ?_⟩) ?_ ?_
                 rotate_left
                 ·intro w'
                  go_simp
                  with_reducible rfl
                 rotate_left
                 ·simp only [Act.put, List.setIfInBounds_toArray, List.set_cons_zero, List.set_cons_succ, i64_w, i32_w]
                  rfl
                 refine one_ (i := 8) (N := some 15) #[true, true, true, true, true, true, true, true, true, false, false] rfl rfl (one_of HT_.out (by kernel_rfl)) (by decide) (fun K hK => ?_)
                 refine box_step ?hg (N := 15) ?hd (cs := #[.int .i64 0, .slice none 0 0]) (t := 26) ?hr ?_; (case hd => rfl); (case hg => rfl); (case hr => first | (go_simp; done) | (go_simp; rfl))
                 intro gb319 hg w183 hbox hb
                 have n0_ := am_ (Kd.R_below (rk_ HO_271001.out) hb)
                 have n1_ := am_ (Kd.R_below (rk_ HO_276001.out) hb)
                 have n2_ := am_ (Kd.R_below (rk_ HO_281001.out) hb)
                 have n3_ := am_ (Kd.R_below (rk_ HO_287001.out) hb)
                 have n4_ := am_ (Kd.R_below (rk_ HO309.out) hb)
                 have n5_ := am_ (Kd.R_below (rk_ HO313.out) hb)
                 have n6_ := am_ (Kd.R_below (rk_ HO317.out) hb)
                 have n7_ := am_ (bw_ BK253 hb)
                 have n8_ := am_ (bw_ BK254 hb)
                 have n9_ := am_ (bw_ BK270 hb)
                 have n10_ := am_ (bw_ BK275 hb)
                 have n11_ := am_ (bw_ BK280 hb)
                 have n12_ := am_ (bw_ BK286 hb)
                 have n13_ := am_ (below_step (bb_ HB.out) hb)
                 have n14_ := am_ (hbox)
                 have n15_ := am_ ((by rw [hg]; exact (below_size (bb_ HB.out)) : w.heap.size ≤ gb319))
                 have n16_ := am_ ((by rw [hg]; exact (below_size (bb_ HB.out)) : w.heap.size ≤ gb319))
                 have n17_ := am_ ((by rw [hg]; exact Nat.ne_of_lt (bl_ BK253) : gb253 ≠ gb319))
                 have n18_ := am_ ((by rw [hg]; exact Nat.ne_of_gt (bl_ BK253) : gb319 ≠ gb253))
                 have n19_ := am_ ((by rw [hg]; exact Nat.ne_of_lt (bl_ BK254) : gb254 ≠ gb319))
                 have n20_ := am_ ((by rw [hg]; exact Nat.ne_of_gt (bl_ BK254) : gb319 ≠ gb254))
                 have n21_ := am_ ((by rw [hg]; exact Nat.ne_of_lt (bl_ BK270) : gb270 ≠ gb319))
                 have n22_ := am_ ((by rw [hg]; exact Nat.ne_of_gt (bl_ BK270) : gb319 ≠ gb270))
                 have n23_ := am_ ((by rw [hg]; exact Nat.ne_of_lt (bl_ BK275) : gb275 ≠ gb319))
                 have n24_ := am_ ((by rw [hg]; exact Nat.ne_of_gt (bl_ BK275) : gb319 ≠ gb275))
                 have n25_ := am_ ((by rw [hg]; exact Nat.ne_of_lt (bl_ BK280) : gb280 ≠ gb319))
                 have n26_ := am_ ((by rw [hg]; exact Nat.ne_of_gt (bl_ BK280) : gb319 ≠ gb280))
                 have n27_ := am_ ((by rw [hg]; exact Nat.ne_of_lt (bl_ BK286) : gb286 ≠ gb319))
                 have n28_ := am_ ((by rw [hg]; exact Nat.ne_of_gt (bl_ BK286) : gb319 ≠ gb286))
                 clear HO_271001 HO_276001 HO_281001 HO_287001 HO309 HO313 HO317 BK253 BK254 BK270 BK275 BK280 BK286 HB; revert n0_ n1_ n2_ n3_ n4_ n5_ n6_ n7_ n8_ n9_ n10_ n11_ n12_ n13_ n14_ n15_ n16_ n17_ n18_ n19_ n20_ n21_ n22_ n23_ n24_ n25_ n26_ n27_ n28_; intro HO_271001 HO_276001 HO_281001 HO_287001 HO309 HO313 HO317 BK253 BK254 BK270 BK275 BK280 BK286 HB BK319 GW319 GE319 NB253_319 NB319_253 NB254_319 NB319_254 NB270_319 NB319_270 NB275_319 NB319_275 NB280_319 NB319_280 NB286_319 NB319_286
                 clear hb hbox hg
                 refine hK.out _ _ ⟨bc_ BK253 0, bc_ BK253 1, bc_ BK254 0, bc_ BK254 1⟩ (fun hHeld => ?_)
                 clear hK K
                 refine norm_ (a' := ?_) ?_ ?_
                 rotate_left
                 ·show Act.put _ (some 15) _ = _
                  simp only [Act.put, List.setIfInBounds_toArray, List.set_cons_zero, List.set_cons_succ, i64_w, i32_w]
                  rfl
                 exact norm_ (by simp only [putAll, Act.put, List.setIfInBounds_toArray, List.set_cons_zero, List.set_cons_succ]) (hCont (.slice Ao180 t307.length co180, .slice Ao181 t311.length co181, v316, gb319) _ ⟨hHeld, (rm_ HO309.out (fun _ hk => by first | exact ⟨hk.1.2, ⟨hk.2, ⟨hk.1.1.1.1.1.2, ⟨hk.1.1.1.1.2, ⟨hk.1.1.1.2, hk.1.1.2⟩⟩⟩⟩⟩ | simp only [hk, and_self, ne_eq, not_false_eq_true, true_and, and_true])), (rm_ HO313.out (fun _ hk => by first | exact ⟨hk.1.2, ⟨hk.2, ⟨hk.1.1.1.1.1.2, ⟨hk.1.1.1.1.2, ⟨hk.1.1.1.2, hk.1.1.2⟩⟩⟩⟩⟩ | simp only [hk, and_self, ne_eq, not_false_eq_true, true_and, and_true])), (rm_ HO317.out (fun _ hk => by first | exact ⟨hk.1.2, ⟨hk.2, ⟨hk.1.1.1.1.1.2, ⟨hk.1.1.1.1.2, ⟨hk.1.1.1.2, hk.1.1.2⟩⟩⟩⟩⟩ | simp only [hk, and_self, ne_eq, not_false_eq_true, true_and, and_true])), (rm_ HO_271001.out (fun _ hk => by first | exact ⟨hk.1.1.2, ⟨hk.1.2, ⟨hk.2, ⟨hk.1.1.1.1, ⟨hk.1.1.1.2.1, hk.1.1.1.2.2⟩⟩⟩⟩⟩ | simp only [hk, and_self, ne_eq, not_false_eq_true, true_and, and_true])), (rm_ HO_276001.out (fun _ hk => by first | exact ⟨hk.1.1.2, ⟨hk.1.2, ⟨hk.2, ⟨hk.1.1.1.1, ⟨hk.1.1.1.2.1, hk.1.1.1.2.2⟩⟩⟩⟩⟩ | simp only [hk, and_self, ne_eq, not_false_eq_true, true_and, and_true])), (rm_ HO_281001.out (fun _ hk => by first | exact ⟨hk.1.1.2, ⟨hk.1.2, ⟨hk.2, ⟨hk.1.1.1.1, ⟨hk.1.1.1.2.1, hk.1.1.1.2.2⟩⟩⟩⟩⟩ | simp only [hk, and_self, ne_eq, not_false_eq_true, true_and, and_true])), (rm_ HO_287001.out (fun _ hk => by first | exact ⟨hk.1.1.2, ⟨hk.1.2, ⟨hk.2, ⟨hk.1.1.1.1, ⟨hk.1.1.1.2.1, hk.1.1.1.2.2⟩⟩⟩⟩⟩ | simp only [hk, and_self, ne_eq, not_false_eq_true, true_and, and_true])), (bk_ BK253.out), (bk_ BK254.out), (bk_ BK270.out), (bk_ BK275.out), (bk_ BK280.out), (bk_ BK286.out), (bk_ BK319.out), GW319.out, GE319.out, NB253_319.out, NB319_253.out, NB254_319.out, NB319_254.out, NB270_319.out, NB319_270.out, NB275_319.out, NB319_275.out, NB280_319.out, NB319_280.out, NB286_319.out, NB319_286.out, (bb_ HB.out)⟩)
                ·skip
                 refine box_step ?hg (N := 15) ?hd (cs := #[.int .i64 0, .slice none 0 0]) (t := 26) ?hr ?_; (case hd => rfl); (case hg => rfl); (case hr => first | (go_simp; done) | (go_simp; rfl))
                 intro gb319 hg w180 hbox hb
                 have n0_ := am_ (Kd.R_below (rk_ HO_271001.out) hb)
                 have n1_ := am_ (Kd.R_below (rk_ HO_276001.out) hb)
                 have n2_ := am_ (Kd.R_below (rk_ HO_281001.out) hb)
                 have n3_ := am_ (Kd.R_below (rk_ HO_287001.out) hb)
                 have n4_ := am_ (Kd.R_below (rk_ HO309.out) hb)
                 have n5_ := am_ (Kd.R_below (rk_ HO313.out) hb)
                 have n6_ := am_ (bw_ BK253 hb)
                 have n7_ := am_ (bw_ BK254 hb)
                 have n8_ := am_ (bw_ BK270 hb)
                 have n9_ := am_ (bw_ BK275 hb)
                 have n10_ := am_ (bw_ BK280 hb)
                 have n11_ := am_ (bw_ BK286 hb)
                 have n12_ := am_ (below_step (bb_ HB.out) hb)
                 have n13_ := am_ (hbox)
                 have n14_ := am_ ((by rw [hg]; exact (below_size (bb_ HB.out)) : w.heap.size ≤ gb319))
                 have n15_ := am_ ((by rw [hg]; exact (below_size (bb_ HB.out)) : w.heap.size ≤ gb319))
                 have n16_ := am_ ((by rw [hg]; exact Nat.ne_of_lt (bl_ BK253) : gb253 ≠ gb319))
                 have n17_ := am_ ((by rw [hg]; exact Nat.ne_of_gt (bl_ BK253) : gb319 ≠ gb253))
                 have n18_ := am_ ((by rw [hg]; exact Nat.ne_of_lt (bl_ BK254) : gb254 ≠ gb319))
                 have n19_ := am_ ((by rw [hg]; exact Nat.ne_of_gt (bl_ BK254) : gb319 ≠ gb254))
                 have n20_ := am_ ((by rw [hg]; exact Nat.ne_of_lt (bl_ BK270) : gb270 ≠ gb319))
                 have n21_ := am_ ((by rw [hg]; exact Nat.ne_of_gt (bl_ BK270) : gb319 ≠ gb270))
                 have n22_ := am_ ((by rw [hg]; exact Nat.ne_of_lt (bl_ BK275) : gb275 ≠ gb319))
                 have n23_ := am_ ((by rw [hg]; exact Nat.ne_of_gt (bl_ BK275) : gb319 ≠ gb275))
                 have n24_ := am_ ((by rw [hg]; exact Nat.ne_of_lt (bl_ BK280) : gb280 ≠ gb319))
                 have n25_ := am_ ((by rw [hg]; exact Nat.ne_of_gt (bl_ BK280) : gb319 ≠ gb280))
                 have n26_ := am_ ((by rw [hg]; exact Nat.ne_of_lt (bl_ BK286) : gb286 ≠ gb319))
                 have n27_ := am_ ((by rw [hg]; exact Nat.ne_of_gt (bl_ BK286) : gb319 ≠ gb286))
                 clear HO_271001 HO_276001 HO_281001 HO_287001 HO309 HO313 BK253 BK254 BK270 BK275 BK280 BK286 HB; revert n0_ n1_ n2_ n3_ n4_ n5_ n6_ n7_ n8_ n9_ n10_ n11_ n12_ n13_ n14_ n15_ n16_ n17_ n18_ n19_ n20_ n21_ n22_ n23_ n24_ n25_ n26_ n27_; intro HO_271001 HO_276001 HO_281001 HO_287001 HO309 HO313 BK253 BK254 BK270 BK275 BK280 BK286 HB BK319 GW319 GE319 NB253_319 NB319_253 NB254_319 NB319_254 NB270_319 NB319_270 NB275_319 NB319_275 NB280_319 NB319_280 NB286_319 NB319_286
                 clear hb hbox hg
                 obtain ⟨Ao181, co181, eo181⟩ := Kd.R_slice HO309.out
                 (first | subst eo181 | (injection eo181 with f1_ f2_ f3_; have f4_ := f1_.symm; have f5_ := f3_.symm; clear f1_ f2_ f3_; subst f4_; subst f5_))
                 obtain ⟨Ao182, co182, eo182⟩ := Kd.R_slice HO313.out
                 (first | subst eo182 | (injection eo182 with f1_ f2_ f3_; have f4_ := f1_.symm; have f5_ := f3_.symm; clear f1_ f2_ f3_; subst f4_; subst f5_))
                 refine hK.out _ _ ⟨bc_ BK253 0, bc_ BK253 1, bc_ BK254 0, bc_ BK254 1⟩ (fun hHeld => ?_)
                 clear hK K
                 refine norm_ (a' := ?_) ?_ ?_
                 rotate_left
                 ·show Act.put _ (some 15) _ = _
                  simp only [Act.put, List.setIfInBounds_toArray, List.set_cons_zero, List.set_cons_succ, i64_w, i32_w]
                  rfl
                 refine one_ (i := 4) (N := some 99) #[true, true, true, true, true, false, false, false, true, false, false] rfl rfl (one_of HT_.out (by kernel_rfl)) (by decide) (fun K hK => ?_)
                 refine goes_ Try.func13 (by kernel_rfl) rfl #[.agg #[.int .i64 t306, .slice Ao181 t307.length co181], .agg #[.int .i64 t310, .slice Ao182 t311.length co182]] (by rfl) rfl rfl lm_ ?_
                 with_reducible refine (impl_MultiplyLaurent.calls kj109 t306 (fun k_ => some k_ = (.slice Ao181 t307.length co181 : Value).ownBlock) _ _ t307 t310 (fun k_ => some k_ = (.slice Ao182 t311.length co182 : Value).ownBlock) _ _ t311 t314 t315 t318 _ ?side1 ?side2 A166.out).mono ?_
                 (case side1 => exact Kd.R_V (Kd.R_tight rfl (Kd.R_types (Kd.R_types (Kd.R_types (Kd.R_types (Kd.R_types (Kd.R_types (Kd.R_types (HO309.out) BK253.out (by decide)) BK254.out (by decide)) BK270.out (by decide)) BK275.out (by decide)) BK280.out (by decide)) BK286.out (by decide)) BK319.out (by decide))))
                 (case side2 => exact Kd.R_V (Kd.R_tight rfl (Kd.R_types (Kd.R_types (Kd.R_types (Kd.R_types (Kd.R_types (Kd.R_types (Kd.R_types (HO313.out) BK253.out (by decide)) BK254.out (by decide)) BK270.out (by decide)) BK275.out (by decide)) BK280.out (by decide)) BK286.out (by decide)) BK319.out (by decide))))
                 rintro e w183 ⟨v316, rfl, ho0, hb⟩
                 refine ⟨_, rfl, ?_⟩
                 have n0_ := am_ (Kd.R_elder' (rk_ HO_271001.out) (Kd.R_base ho0) hb)
                 have n1_ := am_ (Kd.R_elder' (rk_ HO_276001.out) (Kd.R_base ho0) hb)
                 have n2_ := am_ (Kd.R_elder' (rk_ HO_281001.out) (Kd.R_base ho0) hb)
                 have n3_ := am_ (Kd.R_elder' (rk_ HO_287001.out) (Kd.R_base ho0) hb)
                 have n4_ := am_ (Kd.R_elder' (rk_ HO309.out) (Kd.R_base ho0) hb)
                 have n5_ := am_ (Kd.R_elder' (rk_ HO313.out) (Kd.R_base ho0) hb)
                 have n6_ := am_ (Kd.R_lower (Kd.R_new' (Kd.R_new' (Kd.R_new' (Kd.R_new' (Kd.R_new' (Kd.R_new' (Kd.R_mono (ok' := fun k_ => True) ho0 (fun _ hk_ => trivial)) (Kd.R_lt (rk_ HO_271001.out))) (Kd.R_lt (rk_ HO_276001.out))) (Kd.R_lt (rk_ HO_281001.out))) (Kd.R_lt (rk_ HO_287001.out))) (Kd.R_lt (rk_ HO309.out))) (Kd.R_lt (rk_ HO313.out))) (below_size (bb_ HB.out)))
                 have n7_ := am_ (bw_ BK253 hb)
                 have n8_ := am_ (bw_ BK254 hb)
                 have n9_ := am_ (bw_ BK270 hb)
                 have n10_ := am_ (bw_ BK275 hb)
                 have n11_ := am_ (bw_ BK280 hb)
                 have n12_ := am_ (bw_ BK286 hb)
                 have n13_ := am_ (bw_ BK319 hb)
                 have n14_ := am_ (below_step (bb_ HB.out) hb)
                 clear HO_271001 HO_276001 HO_281001 HO_287001 HO309 HO313 BK253 BK254 BK270 BK275 BK280 BK286 BK319 HB; revert n0_ n1_ n2_ n3_ n4_ n5_ n6_ n7_ n8_ n9_ n10_ n11_ n12_ n13_ n14_; intro HO_271001 HO_276001 HO_281001 HO_287001 HO309 HO313 HO317 BK253 BK254 BK270 BK275 BK280 BK286 BK319 HB
                 (try clear hb)
                 (try clear hb2)
                 (try clear hk)
                 (try clear hi)
                 (try clear ho0)
                 refine hK.out _ _ ⟨bc_ BK253 0, bc_ BK253 1, bc_ BK254 0, bc_ BK254 1⟩ (fun hHeld => ?_)
                 clear hK K
                 refine norm_ (a' := ?_) ?_ ?_
                 rotate_left
                 ·show Act.put _ (some 99) _ = _
                  simp only [Act.put, List.setIfInBounds_toArray, List.set_cons_zero, List.set_cons_succ, i64_w, i32_w]
                  rfl
                 refine pure_ (i := 5) (N := some 94) (v := ?_) (a' := ?_) #[true, true, true, true, true, true, false, false, true, false, false] rfl rfl (any_of HT_.out (by kernel_rfl)) (fun _ _ _ h => h) (Or.inl ⟨by rfl, ?_⟩) ?_ ?_
                 rotate_left
                 ·intro w'
                  go_simp
                  with_reducible rfl
                 rotate_left
                 ·simp only [Act.put, List.setIfInBounds_toArray, List.set_cons_zero, List.set_cons_succ, i64_w, i32_w]
                  rfl
                 refine pure_ (i := 6) (N := some 100) (v := ?_) (a' := ?_) #[true, true, true, true, true, true, true, false, true, false, false] rfl rfl (any_of HT_.out (by kernel_rfl)) (fun _ _ _ h => h) (Or.inl ⟨by rfl, ?_⟩) ?_ ?_
                 rotate_left
                 ·intro w'
                  go_simp
                  with_reducible rfl
                 rotate_left
                 ·simp only [Act.put, List.setIfInBounds_toArray, List.set_cons_zero, List.set_cons_succ, i64_w, i32_w]
                  rfl
                 refine pure_ (i := 7) (N := some 101) (v := ?_) (a' := ?_) #[true, true, true, true, true, true, true, true, true, false, false] rfl rfl (any_of HT_.out (by kernel_rfl)) (fun _ _ _ h => h) (Or.inl ⟨by rfl, ?_⟩) ?_ ?_
                 rotate_left
                 ·intro w'
                  go_simp
                  with_reducible rfl
                 rotate_left
                 ·simp only [Act.put, List.setIfInBounds_toArray, List.set_cons_zero, List.set_cons_succ, i64_w, i32_w]
                  rfl
                 exact norm_ (by simp only [putAll, Act.put, List.setIfInBounds_toArray, List.set_cons_zero, List.set_cons_succ]) (hCont (.slice Ao181 t307.length co181, .slice Ao182 t311.length co182, v316, gb319) _ ⟨hHeld, (rm_ HO309.out (fun _ hk => by first | exact ⟨hk.1.2, ⟨hk.2, ⟨hk.1.1.1.1.1.2, ⟨hk.1.1.1.1.2, ⟨hk.1.1.1.2, hk.1.1.2⟩⟩⟩⟩⟩ | simp only [hk, and_self, ne_eq, not_false_eq_true, true_and, and_true])), (rm_ HO313.out (fun _ hk => by first | exact ⟨hk.1.2, ⟨hk.2, ⟨hk.1.1.1.1.1.2, ⟨hk.1.1.1.1.2, ⟨hk.1.1.1.2, hk.1.1.2⟩⟩⟩⟩⟩ | simp only [hk, and_self, ne_eq, not_false_eq_true, true_and, and_true])), (rm_ HO317.out (fun _ hk => by first | exact ⟨hk.1.2, ⟨hk.2, ⟨hk.1.1.1.1.1.2, ⟨hk.1.1.1.1.2, ⟨hk.1.1.1.2, hk.1.1.2⟩⟩⟩⟩⟩ | simp only [hk, and_self, ne_eq, not_false_eq_true, true_and, and_true])), (rm_ HO_271001.out (fun _ hk => by first | exact ⟨hk.1.1.2, ⟨hk.1.2, ⟨hk.2, ⟨hk.1.1.1.1, ⟨hk.1.1.1.2.1, hk.1.1.1.2.2⟩⟩⟩⟩⟩ | simp only [hk, and_self, ne_eq, not_false_eq_true, true_and, and_true])), (rm_ HO_276001.out (fun _ hk => by first | exact ⟨hk.1.1.2, ⟨hk.1.2, ⟨hk.2, ⟨hk.1.1.1.1, ⟨hk.1.1.1.2.1, hk.1.1.1.2.2⟩⟩⟩⟩⟩ | simp only [hk, and_self, ne_eq, not_false_eq_true, true_and, and_true])), (rm_ HO_281001.out (fun _ hk => by first | exact ⟨hk.1.1.2, ⟨hk.1.2, ⟨hk.2, ⟨hk.1.1.1.1, ⟨hk.1.1.1.2.1, hk.1.1.1.2.2⟩⟩⟩⟩⟩ | simp only [hk, and_self, ne_eq, not_false_eq_true, true_and, and_true])), (rm_ HO_287001.out (fun _ hk => by first | exact ⟨hk.1.1.2, ⟨hk.1.2, ⟨hk.2, ⟨hk.1.1.1.1, ⟨hk.1.1.1.2.1, hk.1.1.1.2.2⟩⟩⟩⟩⟩ | simp only [hk, and_self, ne_eq, not_false_eq_true, true_and, and_true])), (bk_ BK253.out), (bk_ BK254.out), (bk_ BK270.out), (bk_ BK275.out), (bk_ BK280.out), (bk_ BK286.out), (bk_ BK319.out), GW319.out, GE319.out, NB253_319.out, NB319_253.out, NB254_319.out, NB319_254.out, NB270_319.out, NB319_270.out, NB275_319.out, NB319_275.out, NB280_319.out, NB319_280.out, NB286_319.out, NB319_286.out, (bb_ HB.out)⟩)
               ·skip
                refine box_step ?hg (N := 15) ?hd (cs := #[.int .i64 0, .slice none 0 0]) (t := 26) ?hr ?_; (case hd => rfl); (case hg => rfl); (case hr => first | (go_simp; done) | (go_simp; rfl))
                intro gb319 hg w179 hbox hb
                have n0_ := am_ (Kd.R_below (rk_ HO_271001.out) hb)
                have n1_ := am_ (Kd.R_below (rk_ HO_276001.out) hb)
                have n2_ := am_ (Kd.R_below (rk_ HO_281001.out) hb)
                have n3_ := am_ (Kd.R_below (rk_ HO_287001.out) hb)
                have n4_ := am_ (Kd.R_below (rk_ HO309.out) hb)
                have n5_ := am_ (bw_ BK253 hb)
                have n6_ := am_ (bw_ BK254 hb)
                have n7_ := am_ (bw_ BK270 hb)
                have n8_ := am_ (bw_ BK275 hb)
                have n9_ := am_ (bw_ BK280 hb)
                have n10_ := am_ (bw_ BK286 hb)
                have n11_ := am_ (below_step (bb_ HB.out) hb)
                have n12_ := am_ (hbox)
                have n13_ := am_ ((by rw [hg]; exact (below_size (bb_ HB.out)) : w.heap.size ≤ gb319))
                have n14_ := am_ ((by rw [hg]; exact (below_size (bb_ HB.out)) : w.heap.size ≤ gb319))
                have n15_ := am_ ((by rw [hg]; exact Nat.ne_of_lt (bl_ BK253) : gb253 ≠ gb319))
                have n16_ := am_ ((by rw [hg]; exact Nat.ne_of_gt (bl_ BK253) : gb319 ≠ gb253))
                have n17_ := am_ ((by rw [hg]; exact Nat.ne_of_lt (bl_ BK254) : gb254 ≠ gb319))
                have n18_ := am_ ((by rw [hg]; exact Nat.ne_of_gt (bl_ BK254) : gb319 ≠ gb254))
                have n19_ := am_ ((by rw [hg]; exact Nat.ne_of_lt (bl_ BK270) : gb270 ≠ gb319))
                have n20_ := am_ ((by rw [hg]; exact Nat.ne_of_gt (bl_ BK270) : gb319 ≠ gb270))
                have n21_ := am_ ((by rw [hg]; exact Nat.ne_of_lt (bl_ BK275) : gb275 ≠ gb319))
                have n22_ := am_ ((by rw [hg]; exact Nat.ne_of_gt (bl_ BK275) : gb319 ≠ gb275))
                have n23_ := am_ ((by rw [hg]; exact Nat.ne_of_lt (bl_ BK280) : gb280 ≠ gb319))
                have n24_ := am_ ((by rw [hg]; exact Nat.ne_of_gt (bl_ BK280) : gb319 ≠ gb280))
                have n25_ := am_ ((by rw [hg]; exact Nat.ne_of_lt (bl_ BK286) : gb286 ≠ gb319))
                have n26_ := am_ ((by rw [hg]; exact Nat.ne_of_gt (bl_ BK286) : gb319 ≠ gb286))
                clear HO_271001 HO_276001 HO_281001 HO_287001 HO309 BK253 BK254 BK270 BK275 BK280 BK286 HB; revert n0_ n1_ n2_ n3_ n4_ n5_ n6_ n7_ n8_ n9_ n10_ n11_ n12_ n13_ n14_ n15_ n16_ n17_ n18_ n19_ n20_ n21_ n22_ n23_ n24_ n25_ n26_; intro HO_271001 HO_276001 HO_281001 HO_287001 HO309 BK253 BK254 BK270 BK275 BK280 BK286 HB BK319 GW319 GE319 NB253_319 NB319_253 NB254_319 NB319_254 NB270_319 NB319_270 NB275_319 NB319_275 NB280_319 NB319_280 NB286_319 NB319_286
                clear hb hbox hg
                refine hK.out _ _ ⟨bc_ BK253 0, bc_ BK253 1, bc_ BK254 0, bc_ BK254 1⟩ (fun hHeld => ?_)
                clear hK K
                refine norm_ (a' := ?_) ?_ ?_
                rotate_left
                ·show Act.put _ (some 15) _ = _
                 simp only [Act.put, List.setIfInBounds_toArray, List.set_cons_zero, List.set_cons_succ, i64_w, i32_w]
                 rfl
                refine one_ (i := 3) (N := some 98) #[true, true, true, true, false, false, false, false, true, false, false] rfl rfl (one_of HT_.out (by kernel_rfl)) (by decide) (fun K hK => ?_)
                refine goes_ Try.func7 (by kernel_rfl) rfl #[.agg #[.int .i64 a1_0, .slice A1_1 l1_1.length c1_1]] (by rfl) rfl rfl lm_ ?_
                with_reducible refine (laws_toLaurent.calls kj109 a1_0 _ _ l1_1 t310 t311 _ ?side1 ?side2 A165.out).mono ?_
                (case side1 => repeat (first | exact (Kd.C_below HR1_1.out HB.out) | (with_reducible refine Kd.C_alloc ?_ _) | (with_reducible refine Kd.C_drewN ?_ _) | (with_reducible refine Kd.C_drew ?_)))
                (case side2 => exact HC1_1.out)
                rintro e w180 ⟨v312, rfl, ho0, hb⟩
                refine ⟨_, rfl, ?_⟩
                have n0_ := am_ (Kd.R_elder' (rk_ HO_271001.out) (Kd.R_base ho0) hb)
                have n1_ := am_ (Kd.R_elder' (rk_ HO_276001.out) (Kd.R_base ho0) hb)
                have n2_ := am_ (Kd.R_elder' (rk_ HO_281001.out) (Kd.R_base ho0) hb)
                have n3_ := am_ (Kd.R_elder' (rk_ HO_287001.out) (Kd.R_base ho0) hb)
                have n4_ := am_ (Kd.R_elder' (rk_ HO309.out) (Kd.R_base ho0) hb)
                have n5_ := am_ (Kd.R_lower (Kd.R_new' (Kd.R_new' (Kd.R_new' (Kd.R_new' (Kd.R_new' ho0 (Kd.R_lt (rk_ HO_271001.out))) (Kd.R_lt (rk_ HO_276001.out))) (Kd.R_lt (rk_ HO_281001.out))) (Kd.R_lt (rk_ HO_287001.out))) (Kd.R_lt (rk_ HO309.out))) (below_size (bb_ HB.out)))
                have n6_ := am_ (bw_ BK253 hb)
                have n7_ := am_ (bw_ BK254 hb)
                have n8_ := am_ (bw_ BK270 hb)
                have n9_ := am_ (bw_ BK275 hb)
                have n10_ := am_ (bw_ BK280 hb)
                have n11_ := am_ (bw_ BK286 hb)
                have n12_ := am_ (bw_ BK319 hb)
                have n13_ := am_ (below_step (bb_ HB.out) hb)
                clear HO_271001 HO_276001 HO_281001 HO_287001 HO309 BK253 BK254 BK270 BK275 BK280 BK286 BK319 HB; revert n0_ n1_ n2_ n3_ n4_ n5_ n6_ n7_ n8_ n9_ n10_ n11_ n12_ n13_; intro HO_271001 HO_276001 HO_281001 HO_287001 HO309 HO313 BK253 BK254 BK270 BK275 BK280 BK286 BK319 HB
                (try clear hb)
                (try clear hb2)
                (try clear hk)
                (try clear hi)
                (try clear ho0)
                obtain ⟨Ao181, co181, eo181⟩ := Kd.R_slice HO309.out
                (first | subst eo181 | (injection eo181 with f1_ f2_ f3_; have f4_ := f1_.symm; have f5_ := f3_.symm; clear f1_ f2_ f3_; subst f4_; subst f5_))
                obtain ⟨Ao182, co182, eo182⟩ := Kd.R_slice HO313.out
                (first | subst eo182 | (injection eo182 with f1_ f2_ f3_; have f4_ := f1_.symm; have f5_ := f3_.symm; clear f1_ f2_ f3_; subst f4_; subst f5_))
                refine hK.out _ _ ⟨bc_ BK253 0, bc_ BK253 1, bc_ BK254 0, bc_ BK254 1⟩ (fun hHeld => ?_)
                clear hK K
                refine norm_ (a' := ?_) ?_ ?_
                rotate_left
                ·show Act.put _ (some 98) _ = _
                 simp only [Act.put, List.setIfInBounds_toArray, List.set_cons_zero, List.set_cons_succ, i64_w, i32_w]
                 rfl
                refine one_ (i := 4) (N := some 99) #[true, true, true, true, true, false, false, false, true, false, false] rfl rfl (one_of HT_.out (by kernel_rfl)) (by decide) (fun K hK => ?_)
                refine goes_ Try.func13 (by kernel_rfl) rfl #[.agg #[.int .i64 t306, .slice Ao181 t307.length co181], .agg #[.int .i64 t310, .slice Ao182 t311.length co182]] (by rfl) rfl rfl lm_ ?_
                with_reducible refine (impl_MultiplyLaurent.calls kj109 t306 (fun k_ => some k_ = (.slice Ao181 t307.length co181 : Value).ownBlock) _ _ t307 t310 (fun k_ => some k_ = (.slice Ao182 t311.length co182 : Value).ownBlock) _ _ t311 t314 t315 t318 _ ?side1 ?side2 A166.out).mono ?_
                (case side1 => exact Kd.R_V (Kd.R_tight rfl (Kd.R_types (Kd.R_types (Kd.R_types (Kd.R_types (Kd.R_types (Kd.R_types (Kd.R_types (HO309.out) BK253.out (by decide)) BK254.out (by decide)) BK270.out (by decide)) BK275.out (by decide)) BK280.out (by decide)) BK286.out (by decide)) BK319.out (by decide))))
                (case side2 => exact Kd.R_V (Kd.R_tight rfl (Kd.R_types (Kd.R_types (Kd.R_types (Kd.R_types (Kd.R_types (Kd.R_types (Kd.R_types (HO313.out) BK253.out (by decide)) BK254.out (by decide)) BK270.out (by decide)) BK275.out (by decide)) BK280.out (by decide)) BK286.out (by decide)) BK319.out (by decide))))
                rintro e w183 ⟨v316, rfl, ho0, hb⟩
                refine ⟨_, rfl, ?_⟩
                have n0_ := am_ (Kd.R_elder' (rk_ HO_271001.out) (Kd.R_base ho0) hb)
                have n1_ := am_ (Kd.R_elder' (rk_ HO_276001.out) (Kd.R_base ho0) hb)
                have n2_ := am_ (Kd.R_elder' (rk_ HO_281001.out) (Kd.R_base ho0) hb)
                have n3_ := am_ (Kd.R_elder' (rk_ HO_287001.out) (Kd.R_base ho0) hb)
                have n4_ := am_ (Kd.R_elder' (rk_ HO309.out) (Kd.R_base ho0) hb)
                have n5_ := am_ (Kd.R_elder' (rk_ HO313.out) (Kd.R_base ho0) hb)
                have n6_ := am_ (Kd.R_lower (Kd.R_new' (Kd.R_new' (Kd.R_new' (Kd.R_new' (Kd.R_new' (Kd.R_new' (Kd.R_mono (ok' := fun k_ => True) ho0 (fun _ hk_ => trivial)) (Kd.R_lt (rk_ HO_271001.out))) (Kd.R_lt (rk_ HO_276001.out))) (Kd.R_lt (rk_ HO_281001.out))) (Kd.R_lt (rk_ HO_287001.out))) (Kd.R_lt (rk_ HO309.out))) (Kd.R_lt (rk_ HO313.out))) (below_size (bb_ HB.out)))
                have n7_ := am_ (bw_ BK253 hb)
                have n8_ := am_ (bw_ BK254 hb)
                have n9_ := am_ (bw_ BK270 hb)
                have n10_ := am_ (bw_ BK275 hb)
                have n11_ := am_ (bw_ BK280 hb)
                have n12_ := am_ (bw_ BK286 hb)
                have n13_ := am_ (bw_ BK319 hb)
                have n14_ := am_ (below_step (bb_ HB.out) hb)
                clear HO_271001 HO_276001 HO_281001 HO_287001 HO309 HO313 BK253 BK254 BK270 BK275 BK280 BK286 BK319 HB; revert n0_ n1_ n2_ n3_ n4_ n5_ n6_ n7_ n8_ n9_ n10_ n11_ n12_ n13_ n14_; intro HO_271001 HO_276001 HO_281001 HO_287001 HO309 HO313 HO317 BK253 BK254 BK270 BK275 BK280 BK286 BK319 HB
                (try clear hb)
                (try clear hb2)
                (try clear hk)
                (try clear hi)
                (try clear ho0)
                refine hK.out _ _ ⟨bc_ BK253 0, bc_ BK253 1, bc_ BK254 0, bc_ BK254 1⟩ (fun hHeld => ?_)
                clear hK K
                refine norm_ (a' := ?_) ?_ ?_
                rotate_left
                ·show Act.put _ (some 99) _ = _
                 simp only [Act.put, List.setIfInBounds_toArray, List.set_cons_zero, List.set_cons_succ, i64_w, i32_w]
                 rfl
                refine pure_ (i := 5) (N := some 94) (v := ?_) (a' := ?_) #[true, true, true, true, true, true, false, false, true, false, false] rfl rfl (any_of HT_.out (by kernel_rfl)) (fun _ _ _ h => h) (Or.inl ⟨by rfl, ?_⟩) ?_ ?_
                rotate_left
                ·intro w'
                 go_simp
                 with_reducible rfl
                rotate_left
                ·simp only [Act.put, List.setIfInBounds_toArray, List.set_cons_zero, List.set_cons_succ, i64_w, i32_w]
                 rfl
                refine pure_ (i := 6) (N := some 100) (v := ?_) (a' := ?_) #[true, true, true, true, true, true, true, false, true, false, false] rfl rfl (any_of HT_.out (by kernel_rfl)) (fun _ _ _ h => h) (Or.inl ⟨by rfl, ?_⟩) ?_ ?_
                rotate_left
                ·intro w'
                 go_simp
                 with_reducible rfl
                rotate_left
                ·simp only [Act.put, List.setIfInBounds_toArray, List.set_cons_zero, List.set_cons_succ, i64_w, i32_w]
                 rfl
                refine pure_ (i := 7) (N := some 101) (v := ?_) (a' := ?_) #[true, true, true, true, true, true, true, true, true, false, false] rfl rfl (any_of HT_.out (by kernel_rfl)) (fun _ _ _ h => h) (Or.inl ⟨by rfl, ?_⟩) ?_ ?_
                rotate_left
                ·intro w'
                 go_simp
                 with_reducible rfl
                rotate_left
                ·simp only [Act.put, List.setIfInBounds_toArray, List.set_cons_zero, List.set_cons_succ, i64_w, i32_w]
                 rfl
                exact norm_ (by simp only [putAll, Act.put, List.setIfInBounds_toArray, List.set_cons_zero, List.set_cons_succ]) (hCont (.slice Ao181 t307.length co181, .slice Ao182 t311.length co182, v316, gb319) _ ⟨hHeld, (rm_ HO309.out (fun _ hk => by first | exact ⟨hk.1.2, ⟨hk.2, ⟨hk.1.1.1.1.1.2, ⟨hk.1.1.1.1.2, ⟨hk.1.1.1.2, hk.1.1.2⟩⟩⟩⟩⟩ | simp only [hk, and_self, ne_eq, not_false_eq_true, true_and, and_true])), (rm_ HO313.out (fun _ hk => by first | exact ⟨hk.1.2, ⟨hk.2, ⟨hk.1.1.1.1.1.2, ⟨hk.1.1.1.1.2, ⟨hk.1.1.1.2, hk.1.1.2⟩⟩⟩⟩⟩ | simp only [hk, and_self, ne_eq, not_false_eq_true, true_and, and_true])), (rm_ HO317.out (fun _ hk => by first | exact ⟨hk.1.2, ⟨hk.2, ⟨hk.1.1.1.1.1.2, ⟨hk.1.1.1.1.2, ⟨hk.1.1.1.2, hk.1.1.2⟩⟩⟩⟩⟩ | simp only [hk, and_self, ne_eq, not_false_eq_true, true_and, and_true])), (rm_ HO_271001.out (fun _ hk => by first | exact ⟨hk.1.1.2, ⟨hk.1.2, ⟨hk.2, ⟨hk.1.1.1.1, ⟨hk.1.1.1.2.1, hk.1.1.1.2.2⟩⟩⟩⟩⟩ | simp only [hk, and_self, ne_eq, not_false_eq_true, true_and, and_true])), (rm_ HO_276001.out (fun _ hk => by first | exact ⟨hk.1.1.2, ⟨hk.1.2, ⟨hk.2, ⟨hk.1.1.1.1, ⟨hk.1.1.1.2.1, hk.1.1.1.2.2⟩⟩⟩⟩⟩ | simp only [hk, and_self, ne_eq, not_false_eq_true, true_and, and_true])), (rm_ HO_281001.out (fun _ hk => by first | exact ⟨hk.1.1.2, ⟨hk.1.2, ⟨hk.2, ⟨hk.1.1.1.1, ⟨hk.1.1.1.2.1, hk.1.1.1.2.2⟩⟩⟩⟩⟩ | simp only [hk, and_self, ne_eq, not_false_eq_true, true_and, and_true])), (rm_ HO_287001.out (fun _ hk => by first | exact ⟨hk.1.1.2, ⟨hk.1.2, ⟨hk.2, ⟨hk.1.1.1.1, ⟨hk.1.1.1.2.1, hk.1.1.1.2.2⟩⟩⟩⟩⟩ | simp only [hk, and_self, ne_eq, not_false_eq_true, true_and, and_true])), (bk_ BK253.out), (bk_ BK254.out), (bk_ BK270.out), (bk_ BK275.out), (bk_ BK280.out), (bk_ BK286.out), (bk_ BK319.out), GW319.out, GE319.out, NB253_319.out, NB319_253.out, NB254_319.out, NB319_254.out, NB270_319.out, NB319_270.out, NB275_319.out, NB319_275.out, NB280_319.out, NB319_280.out, NB286_319.out, NB319_286.out, (bb_ HB.out)⟩)
              ·skip
               refine box_step ?hg (N := 15) ?hd (cs := #[.int .i64 0, .slice none 0 0]) (t := 26) ?hr ?_; (case hd => rfl); (case hg => rfl); (case hr => first | (go_simp; done) | (go_simp; rfl))
               intro gb319 hg w178 hbox hb
               have n0_ := am_ (Kd.R_below (rk_ HO_271001.out) hb)
               have n1_ := am_ (Kd.R_below (rk_ HO_276001.out) hb)
               have n2_ := am_ (Kd.R_below (rk_ HO_281001.out) hb)
               have n3_ := am_ (Kd.R_below (rk_ HO_287001.out) hb)
               have n4_ := am_ (bw_ BK253 hb)
               have n5_ := am_ (bw_ BK254 hb)
               have n6_ := am_ (bw_ BK270 hb)
               have n7_ := am_ (bw_ BK275 hb)
               have n8_ := am_ (bw_ BK280 hb)
               have n9_ := am_ (bw_ BK286 hb)
               have n10_ := am_ (below_step (bb_ HB.out) hb)
               have n11_ := am_ (hbox)
               have n12_ := am_ ((by rw [hg]; exact (below_size (bb_ HB.out)) : w.heap.size ≤ gb319))
               have n13_ := am_ ((by rw [hg]; exact (below_size (bb_ HB.out)) : w.heap.size ≤ gb319))
               have n14_ := am_ ((by rw [hg]; exact Nat.ne_of_lt (bl_ BK253) : gb253 ≠ gb319))
               have n15_ := am_ ((by rw [hg]; exact Nat.ne_of_gt (bl_ BK253) : gb319 ≠ gb253))
               have n16_ := am_ ((by rw [hg]; exact Nat.ne_of_lt (bl_ BK254) : gb254 ≠ gb319))
               have n17_ := am_ ((by rw [hg]; exact Nat.ne_of_gt (bl_ BK254) : gb319 ≠ gb254))
               have n18_ := am_ ((by rw [hg]; exact Nat.ne_of_lt (bl_ BK270) : gb270 ≠ gb319))
               have n19_ := am_ ((by rw [hg]; exact Nat.ne_of_gt (bl_ BK270) : gb319 ≠ gb270))
               have n20_ := am_ ((by rw [hg]; exact Nat.ne_of_lt (bl_ BK275) : gb275 ≠ gb319))
               have n21_ := am_ ((by rw [hg]; exact Nat.ne_of_gt (bl_ BK275) : gb319 ≠ gb275))
               have n22_ := am_ ((by rw [hg]; exact Nat.ne_of_lt (bl_ BK280) : gb280 ≠ gb319))
               have n23_ := am_ ((by rw [hg]; exact Nat.ne_of_gt (bl_ BK280) : gb319 ≠ gb280))
               have n24_ := am_ ((by rw [hg]; exact Nat.ne_of_lt (bl_ BK286) : gb286 ≠ gb319))
               have n25_ := am_ ((by rw [hg]; exact Nat.ne_of_gt (bl_ BK286) : gb319 ≠ gb286))
               clear HO_271001 HO_276001 HO_281001 HO_287001 BK253 BK254 BK270 BK275 BK280 BK286 HB; revert n0_ n1_ n2_ n3_ n4_ n5_ n6_ n7_ n8_ n9_ n10_ n11_ n12_ n13_ n14_ n15_ n16_ n17_ n18_ n19_ n20_ n21_ n22_ n23_ n24_ n25_; intro HO_271001 HO_276001 HO_281001 HO_287001 BK253 BK254 BK270 BK275 BK280 BK286 HB BK319 GW319 GE319 NB253_319 NB319_253 NB254_319 NB319_254 NB270_319 NB319_270 NB275_319 NB319_275 NB280_319 NB319_280 NB286_319 NB319_286
               clear hb hbox hg
               refine hK.out _ _ ⟨bc_ BK253 0, bc_ BK253 1, bc_ BK254 0, bc_ BK254 1⟩ (fun hHeld => ?_)
               clear hK K
               refine norm_ (a' := ?_) ?_ ?_
               rotate_left
               ·show Act.put _ (some 15) _ = _
                simp only [Act.put, List.setIfInBounds_toArray, List.set_cons_zero, List.set_cons_succ, i64_w, i32_w]
                rfl
               refine one_ (i := 1) (N := some 96) #[true, true, true, false, false, false, false, false, true, false, false] rfl rfl (one_of HT_.out (by kernel_rfl)) (by decide) (fun K hK => ?_)
               refine goes_ Try.func7 (by kernel_rfl) rfl #[.agg #[.int .i64 a0_0, .slice A0_1 l0_1.length c0_1]] (by rfl) rfl rfl lm_ ?_
               with_reducible refine (laws_toLaurent.calls kj109 a0_0 _ _ l0_1 t306 t307 _ ?side1 ?side2 A164.out).mono ?_
               (case side1 => repeat (first | exact (Kd.C_below HR0_1.out HB.out) | (with_reducible refine Kd.C_alloc ?_ _) | (with_reducible refine Kd.C_drewN ?_ _) | (with_reducible refine Kd.C_drew ?_)))
               (case side2 => exact HC0_1.out)
               rintro e w179 ⟨v308, rfl, ho0, hb⟩
               refine ⟨_, rfl, ?_⟩
               have n0_ := am_ (Kd.R_elder' (rk_ HO_271001.out) (Kd.R_base ho0) hb)
               have n1_ := am_ (Kd.R_elder' (rk_ HO_276001.out) (Kd.R_base ho0) hb)
               have n2_ := am_ (Kd.R_elder' (rk_ HO_281001.out) (Kd.R_base ho0) hb)
               have n3_ := am_ (Kd.R_elder' (rk_ HO_287001.out) (Kd.R_base ho0) hb)
               have n4_ := am_ (Kd.R_lower (Kd.R_new' (Kd.R_new' (Kd.R_new' (Kd.R_new' ho0 (Kd.R_lt (rk_ HO_271001.out))) (Kd.R_lt (rk_ HO_276001.out))) (Kd.R_lt (rk_ HO_281001.out))) (Kd.R_lt (rk_ HO_287001.out))) (below_size (bb_ HB.out)))
               have n5_ := am_ (bw_ BK253 hb)
               have n6_ := am_ (bw_ BK254 hb)
               have n7_ := am_ (bw_ BK270 hb)
               have n8_ := am_ (bw_ BK275 hb)
               have n9_ := am_ (bw_ BK280 hb)
               have n10_ := am_ (bw_ BK286 hb)
               have n11_ := am_ (bw_ BK319 hb)
               have n12_ := am_ (below_step (bb_ HB.out) hb)
               clear HO_271001 HO_276001 HO_281001 HO_287001 BK253 BK254 BK270 BK275 BK280 BK286 BK319 HB; revert n0_ n1_ n2_ n3_ n4_ n5_ n6_ n7_ n8_ n9_ n10_ n11_ n12_; intro HO_271001 HO_276001 HO_281001 HO_287001 HO309 BK253 BK254 BK270 BK275 BK280 BK286 BK319 HB
               (try clear hb)
               (try clear hb2)
               (try clear hk)
               (try clear hi)
               (try clear ho0)
               refine hK.out _ _ ⟨bc_ BK253 0, bc_ BK253 1, bc_ BK254 0, bc_ BK254 1⟩ (fun hHeld => ?_)
               clear hK K
               refine norm_ (a' := ?_) ?_ ?_
               rotate_left
               ·show Act.put _ (some 96) _ = _
                simp only [Act.put, List.setIfInBounds_toArray, List.set_cons_zero, List.set_cons_succ, i64_w, i32_w]
                rfl
               refine one_ (i := 3) (N := some 98) #[true, true, true, true, false, false, false, false, true, false, false] rfl rfl (one_of HT_.out (by kernel_rfl)) (by decide) (fun K hK => ?_)
               refine goes_ Try.func7 (by kernel_rfl) rfl #[.agg #[.int .i64 a1_0, .slice A1_1 l1_1.length c1_1]] (by rfl) rfl rfl lm_ ?_
               with_reducible refine (laws_toLaurent.calls kj109 a1_0 _ _ l1_1 t310 t311 _ ?side1 ?side2 A165.out).mono ?_
               (case side1 => repeat (first | exact (Kd.C_below HR1_1.out HB.out) | (with_reducible refine Kd.C_alloc ?_ _) | (with_reducible refine Kd.C_drewN ?_ _) | (with_reducible refine Kd.C_drew ?_)))
               (case side2 => exact HC1_1.out)
               rintro e w180 ⟨v312, rfl, ho0, hb⟩
               refine ⟨_, rfl, ?_⟩
               have n0_ := am_ (Kd.R_elder' (rk_ HO_271001.out) (Kd.R_base ho0) hb)
               have n1_ := am_ (Kd.R_elder' (rk_ HO_276001.out) (Kd.R_base ho0) hb)
               have n2_ := am_ (Kd.R_elder' (rk_ HO_281001.out) (Kd.R_base ho0) hb)
               have n3_ := am_ (Kd.R_elder' (rk_ HO_287001.out) (Kd.R_base ho0) hb)
               have n4_ := am_ (Kd.R_elder' (rk_ HO309.out) (Kd.R_base ho0) hb)
               have n5_ := am_ (Kd.R_lower (Kd.R_new' (Kd.R_new' (Kd.R_new' (Kd.R_new' (Kd.R_new' ho0 (Kd.R_lt (rk_ HO_271001.out))) (Kd.R_lt (rk_ HO_276001.out))) (Kd.R_lt (rk_ HO_281001.out))) (Kd.R_lt (rk_ HO_287001.out))) (Kd.R_lt (rk_ HO309.out))) (below_size (bb_ HB.out)))
               have n6_ := am_ (bw_ BK253 hb)
               have n7_ := am_ (bw_ BK254 hb)
               have n8_ := am_ (bw_ BK270 hb)
               have n9_ := am_ (bw_ BK275 hb)
               have n10_ := am_ (bw_ BK280 hb)
               have n11_ := am_ (bw_ BK286 hb)
               have n12_ := am_ (bw_ BK319 hb)
               have n13_ := am_ (below_step (bb_ HB.out) hb)
               clear HO_271001 HO_276001 HO_281001 HO_287001 HO309 BK253 BK254 BK270 BK275 BK280 BK286 BK319 HB; revert n0_ n1_ n2_ n3_ n4_ n5_ n6_ n7_ n8_ n9_ n10_ n11_ n12_ n13_; intro HO_271001 HO_276001 HO_281001 HO_287001 HO309 HO313 BK253 BK254 BK270 BK275 BK280 BK286 BK319 HB
               (try clear hb)
               (try clear hb2)
               (try clear hk)
               (try clear hi)
               (try clear ho0)
               obtain ⟨Ao181, co181, eo181⟩ := Kd.R_slice HO309.out
               (first | subst eo181 | (injection eo181 with f1_ f2_ f3_; have f4_ := f1_.symm; have f5_ := f3_.symm; clear f1_ f2_ f3_; subst f4_; subst f5_))
               obtain ⟨Ao182, co182, eo182⟩ := Kd.R_slice HO313.out
               (first | subst eo182 | (injection eo182 with f1_ f2_ f3_; have f4_ := f1_.symm; have f5_ := f3_.symm; clear f1_ f2_ f3_; subst f4_; subst f5_))
               refine hK.out _ _ ⟨bc_ BK253 0, bc_ BK253 1, bc_ BK254 0, bc_ BK254 1⟩ (fun hHeld => ?_)
               clear hK K
               refine norm_ (a' := ?_) ?_ ?_
               rotate_left
               ·show Act.put _ (some 98) _ = _
                simp only [Act.put, List.setIfInBounds_toArray, List.set_cons_zero, List.set_cons_succ, i64_w, i32_w]
                rfl
               refine one_ (i := 4) (N := some 99) #[true, true, true, true, true, false, false, false, true, false, false] rfl rfl (one_of HT_.out (by kernel_rfl)) (by decide) (fun K hK => ?_)
               refine goes_ Try.func13 (by kernel_rfl) rfl #[.agg #[.int .i64 t306, .slice Ao181 t307.length co181], .agg #[.int .i64 t310, .slice Ao182 t311.length co182]] (by rfl) rfl rfl lm_ ?_
               with_reducible refine (impl_MultiplyLaurent.calls kj109 t306 (fun k_ => some k_ = (.slice Ao181 t307.length co181 : Value).ownBlock) _ _ t307 t310 (fun k_ => some k_ = (.slice Ao182 t311.length co182 : Value).ownBlock) _ _ t311 t314 t315 t318 _ ?side1 ?side2 A166.out).mono ?_
               (case side1 => exact Kd.R_V (Kd.R_tight rfl (Kd.R_types (Kd.R_types (Kd.R_types (Kd.R_types (Kd.R_types (Kd.R_types (Kd.R_types (HO309.out) BK253.out (by decide)) BK254.out (by decide)) BK270.out (by decide)) BK275.out (by decide)) BK280.out (by decide)) BK286.out (by decide)) BK319.out (by decide))))
               (case side2 => exact Kd.R_V (Kd.R_tight rfl (Kd.R_types (Kd.R_types (Kd.R_types (Kd.R_types (Kd.R_types (Kd.R_types (Kd.R_types (HO313.out) BK253.out (by decide)) BK254.out (by decide)) BK270.out (by decide)) BK275.out (by decide)) BK280.out (by decide)) BK286.out (by decide)) BK319.out (by decide))))
               rintro e w183 ⟨v316, rfl, ho0, hb⟩
               refine ⟨_, rfl, ?_⟩
               have n0_ := am_ (Kd.R_elder' (rk_ HO_271001.out) (Kd.R_base ho0) hb)
               have n1_ := am_ (Kd.R_elder' (rk_ HO_276001.out) (Kd.R_base ho0) hb)
               have n2_ := am_ (Kd.R_elder' (rk_ HO_281001.out) (Kd.R_base ho0) hb)
               have n3_ := am_ (Kd.R_elder' (rk_ HO_287001.out) (Kd.R_base ho0) hb)
               have n4_ := am_ (Kd.R_elder' (rk_ HO309.out) (Kd.R_base ho0) hb)
               have n5_ := am_ (Kd.R_elder' (rk_ HO313.out) (Kd.R_base ho0) hb)
               have n6_ := am_ (Kd.R_lower (Kd.R_new' (Kd.R_new' (Kd.R_new' (Kd.R_new' (Kd.R_new' (Kd.R_new' (Kd.R_mono (ok' := fun k_ => True) ho0 (fun _ hk_ => trivial)) (Kd.R_lt (rk_ HO_271001.out))) (Kd.R_lt (rk_ HO_276001.out))) (Kd.R_lt (rk_ HO_281001.out))) (Kd.R_lt (rk_ HO_287001.out))) (Kd.R_lt (rk_ HO309.out))) (Kd.R_lt (rk_ HO313.out))) (below_size (bb_ HB.out)))
               have n7_ := am_ (bw_ BK253 hb)
               have n8_ := am_ (bw_ BK254 hb)
               have n9_ := am_ (bw_ BK270 hb)
               have n10_ := am_ (bw_ BK275 hb)
               have n11_ := am_ (bw_ BK280 hb)
               have n12_ := am_ (bw_ BK286 hb)
               have n13_ := am_ (bw_ BK319 hb)
               have n14_ := am_ (below_step (bb_ HB.out) hb)
               clear HO_271001 HO_276001 HO_281001 HO_287001 HO309 HO313 BK253 BK254 BK270 BK275 BK280 BK286 BK319 HB; revert n0_ n1_ n2_ n3_ n4_ n5_ n6_ n7_ n8_ n9_ n10_ n11_ n12_ n13_ n14_; intro HO_271001 HO_276001 HO_281001 HO_287001 HO309 HO313 HO317 BK253 BK254 BK270 BK275 BK280 BK286 BK319 HB
               (try clear hb)
               (try clear hb2)
               (try clear hk)
               (try clear hi)
               (try clear ho0)
               refine hK.out _ _ ⟨bc_ BK253 0, bc_ BK253 1, bc_ BK254 0, bc_ BK254 1⟩ (fun hHeld => ?_)
               clear hK K
               refine norm_ (a' := ?_) ?_ ?_
               rotate_left
               ·show Act.put _ (some 99) _ = _
                simp only [Act.put, List.setIfInBounds_toArray, List.set_cons_zero, List.set_cons_succ, i64_w, i32_w]
                rfl
               refine pure_ (i := 5) (N := some 94) (v := ?_) (a' := ?_) #[true, true, true, true, true, true, false, false, true, false, false] rfl rfl (any_of HT_.out (by kernel_rfl)) (fun _ _ _ h => h) (Or.inl ⟨by rfl, ?_⟩) ?_ ?_
               rotate_left
               ·intro w'
                go_simp
                with_reducible rfl
               rotate_left
               ·simp only [Act.put, List.setIfInBounds_toArray, List.set_cons_zero, List.set_cons_succ, i64_w, i32_w]
                rfl
               refine pure_ (i := 6) (N := some 100) (v := ?_) (a' := ?_) #[true, true, true, true, true, true, true, false, true, false, false] rfl rfl (any_of HT_.out (by kernel_rfl)) (fun _ _ _ h => h) (Or.inl ⟨by rfl, ?_⟩) ?_ ?_
               rotate_left
               ·intro w'
                go_simp
                with_reducible rfl
               rotate_left
               ·simp only [Act.put, List.setIfInBounds_toArray, List.set_cons_zero, List.set_cons_succ, i64_w, i32_w]
                rfl
               refine pure_ (i := 7) (N := some 101) (v := ?_) (a' := ?_) #[true, true, true, true, true, true, true, true, true, false, false] rfl rfl (any_of HT_.out (by kernel_rfl)) (fun _ _ _ h => h) (Or.inl ⟨by rfl, ?_⟩) ?_ ?_
               rotate_left
               ·intro w'
                go_simp
                with_reducible rfl
               rotate_left
               ·simp only [Act.put, List.setIfInBounds_toArray, List.set_cons_zero, List.set_cons_succ, i64_w, i32_w]
                rfl
               exact norm_ (by simp only [putAll, Act.put, List.setIfInBounds_toArray, List.set_cons_zero, List.set_cons_succ]) (hCont (.slice Ao181 t307.length co181, .slice Ao182 t311.length co182, v316, gb319) _ ⟨hHeld, (rm_ HO309.out (fun _ hk => by first | exact ⟨hk.1.2, ⟨hk.2, ⟨hk.1.1.1.1.1.2, ⟨hk.1.1.1.1.2, ⟨hk.1.1.1.2, hk.1.1.2⟩⟩⟩⟩⟩ | simp only [hk, and_self, ne_eq, not_false_eq_true, true_and, and_true])), (rm_ HO313.out (fun _ hk => by first | exact ⟨hk.1.2, ⟨hk.2, ⟨hk.1.1.1.1.1.2, ⟨hk.1.1.1.1.2, ⟨hk.1.1.1.2, hk.1.1.2⟩⟩⟩⟩⟩ | simp only [hk, and_self, ne_eq, not_false_eq_true, true_and, and_true])), (rm_ HO317.out (fun _ hk => by first | exact ⟨hk.1.2, ⟨hk.2, ⟨hk.1.1.1.1.1.2, ⟨hk.1.1.1.1.2, ⟨hk.1.1.1.2, hk.1.1.2⟩⟩⟩⟩⟩ | simp only [hk, and_self, ne_eq, not_false_eq_true, true_and, and_true])), (rm_ HO_271001.out (fun _ hk => by first | exact ⟨hk.1.1.2, ⟨hk.1.2, ⟨hk.2, ⟨hk.1.1.1.1, ⟨hk.1.1.1.2.1, hk.1.1.1.2.2⟩⟩⟩⟩⟩ | simp only [hk, and_self, ne_eq, not_false_eq_true, true_and, and_true])), (rm_ HO_276001.out (fun _ hk => by first | exact ⟨hk.1.1.2, ⟨hk.1.2, ⟨hk.2, ⟨hk.1.1.1.1, ⟨hk.1.1.1.2.1, hk.1.1.1.2.2⟩⟩⟩⟩⟩ | simp only [hk, and_self, ne_eq, not_false_eq_true, true_and, and_true])), (rm_ HO_281001.out (fun _ hk => by first | exact ⟨hk.1.1.2, ⟨hk.1.2, ⟨hk.2, ⟨hk.1.1.1.1, ⟨hk.1.1.1.2.1, hk.1.1.1.2.2⟩⟩⟩⟩⟩ | simp only [hk, and_self, ne_eq, not_false_eq_true, true_and, and_true])), (rm_ HO_287001.out (fun _ hk => by first | exact ⟨hk.1.1.2, ⟨hk.1.2, ⟨hk.2, ⟨hk.1.1.1.1, ⟨hk.1.1.1.2.1, hk.1.1.1.2.2⟩⟩⟩⟩⟩ | simp only [hk, and_self, ne_eq, not_false_eq_true, true_and, and_true])), (bk_ BK253.out), (bk_ BK254.out), (bk_ BK270.out), (bk_ BK275.out), (bk_ BK280.out), (bk_ BK286.out), (bk_ BK319.out), GW319.out, GE319.out, NB253_319.out, NB319_253.out, NB254_319.out, NB319_254.out, NB270_319.out, NB319_270.out, NB275_319.out, NB319_275.out, NB280_319.out, NB319_280.out, NB286_319.out, NB319_286.out, (bb_ HB.out)⟩)
             rintro ⟨v308, v312, v316, gb319⟩ w184 ⟨hS_, h0_, h1_, h2_, h3_, h4_, h5_, h6_, h7_, h8_, h9_, h10_, h11_, h12_, h13_, h14_, h15_, h16_, h17_, h18_, h19_, h20_, h21_, h22_, h23_, h24_, h25_, h26_, h27_, h28_⟩
             have n0_ : Aside0 (Kd.R (Kd.int .i64) 2 w184 w.heap.size (fun k_ => some k_ ≠ (v312 : Value).ownBlock ∧ some k_ ≠ (v316 : Value).ownBlock ∧ some k_ ≠ (.slice Ao42 t266.length co42 : Value).ownBlock ∧ some k_ ≠ (.slice Ao52 t299.length co52 : Value).ownBlock ∧ some k_ ≠ (.slice Ao62 t301.length co62 : Value).ownBlock ∧ some k_ ≠ (.slice Ao74 t282.length co74 : Value).ownBlock) v308 t307) := ⟨h0_⟩
             have n1_ : Aside0 (Kd.R (Kd.int .i64) 2 w184 w.heap.size (fun k_ => some k_ ≠ (v308 : Value).ownBlock ∧ some k_ ≠ (v316 : Value).ownBlock ∧ some k_ ≠ (.slice Ao42 t266.length co42 : Value).ownBlock ∧ some k_ ≠ (.slice Ao52 t299.length co52 : Value).ownBlock ∧ some k_ ≠ (.slice Ao62 t301.length co62 : Value).ownBlock ∧ some k_ ≠ (.slice Ao74 t282.length co74 : Value).ownBlock) v312 t311) := ⟨h1_⟩
             have n2_ : Aside0 (Kd.R (Kd.int .i64) 2 w184 w.heap.size (fun k_ => some k_ ≠ (v308 : Value).ownBlock ∧ some k_ ≠ (v312 : Value).ownBlock ∧ some k_ ≠ (.slice Ao42 t266.length co42 : Value).ownBlock ∧ some k_ ≠ (.slice Ao52 t299.length co52 : Value).ownBlock ∧ some k_ ≠ (.slice Ao62 t301.length co62 : Value).ownBlock ∧ some k_ ≠ (.slice Ao74 t282.length co74 : Value).ownBlock) v316 t315) := ⟨h2_⟩
             have n3_ : Aside0 (Kd.R (Kd.int .i64) 2 w184 w.heap.size (fun k_ => some k_ ≠ (v308 : Value).ownBlock ∧ some k_ ≠ (v312 : Value).ownBlock ∧ some k_ ≠ (v316 : Value).ownBlock ∧ some k_ ≠ (.slice Ao52 t299.length co52 : Value).ownBlock ∧ some k_ ≠ (.slice Ao62 t301.length co62 : Value).ownBlock ∧ some k_ ≠ (.slice Ao74 t282.length co74 : Value).ownBlock) (.slice Ao42 t266.length co42) t266) := ⟨h3_⟩
             have n4_ : Aside0 (Kd.R (Kd.int .i64) 2 w184 w.heap.size (fun k_ => some k_ ≠ (v308 : Value).ownBlock ∧ some k_ ≠ (v312 : Value).ownBlock ∧ some k_ ≠ (v316 : Value).ownBlock ∧ some k_ ≠ (.slice Ao42 t266.length co42 : Value).ownBlock ∧ some k_ ≠ (.slice Ao62 t301.length co62 : Value).ownBlock ∧ some k_ ≠ (.slice Ao74 t282.length co74 : Value).ownBlock) (.slice Ao52 t299.length co52) t299) := ⟨h4_⟩
             have n5_ : Aside0 (Kd.R (Kd.int .i64) 2 w184 w.heap.size (fun k_ => some k_ ≠ (v308 : Value).ownBlock ∧ some k_ ≠ (v312 : Value).ownBlock ∧ some k_ ≠ (v316 : Value).ownBlock ∧ some k_ ≠ (.slice Ao42 t266.length co42 : Value).ownBlock ∧ some k_ ≠ (.slice Ao52 t299.length co52 : Value).ownBlock ∧ some k_ ≠ (.slice Ao74 t282.length co74 : Value).ownBlock) (.slice Ao62 t301.length co62) t301) := ⟨h5_⟩
             have n6_ : Aside0 (Kd.R (Kd.int .i64) 2 w184 w.heap.size (fun k_ => some k_ ≠ (v308 : Value).ownBlock ∧ some k_ ≠ (v312 : Value).ownBlock ∧ some k_ ≠ (v316 : Value).ownBlock ∧ some k_ ≠ (.slice Ao42 t266.length co42 : Value).ownBlock ∧ some k_ ≠ (.slice Ao52 t299.length co52 : Value).ownBlock ∧ some k_ ≠ (.slice Ao62 t301.length co62 : Value).ownBlock) (.slice Ao74 t282.length co74) t304) := ⟨h6_⟩
             have n7_ : Aside0 (w184.heap[gb253]? = some (.cells #[.int .i64 a0_0, .slice A0_1 l0_1.length c0_1] 24 (0, 0))) := ⟨h7_⟩
             have n8_ : Aside0 (w184.heap[gb254]? = some (.cells #[.int .i64 a1_0, .slice A1_1 l1_1.length c1_1] 24 (0, 0))) := ⟨h8_⟩
             have n9_ : Aside0 (w184.heap[gb270]? = some (.cells #[.int .i64 t265, .slice Ao42 t266.length co42] 26 (0, 0))) := ⟨h9_⟩
             have n10_ : Aside0 (w184.heap[gb275]? = some (.cells #[.int .i64 t271, .slice Ao52 t299.length co52] 26 (0, 0))) := ⟨h10_⟩
             have n11_ : Aside0 (w184.heap[gb280]? = some (.cells #[.int .i64 t276, .slice Ao62 t301.length co62] 26 (0, 0))) := ⟨h11_⟩
             have n12_ : Aside0 (w184.heap[gb286]? = some (.cells #[.int .i64 t281, .slice Ao74 t282.length co74] 26 (0, 0))) := ⟨h12_⟩
             have n13_ : Aside0 (w184.heap[gb319]? = some (.cells #[.int .i64 0, .slice none 0 0] 26 (0, 0))) := ⟨h13_⟩
             have n14_ : Aside0 (w.heap.size ≤ gb319) := ⟨h14_⟩
             have n15_ : Aside0 (w.heap.size ≤ gb319) := ⟨h15_⟩
             have n16_ : Aside0 (gb253 ≠ gb319) := ⟨h16_⟩
             have n17_ : Aside0 (gb319 ≠ gb253) := ⟨h17_⟩
             have n18_ : Aside0 (gb254 ≠ gb319) := ⟨h18_⟩
             have n19_ : Aside0 (gb319 ≠ gb254) := ⟨h19_⟩
             have n20_ : Aside0 (gb270 ≠ gb319) := ⟨h20_⟩
             have n21_ : Aside0 (gb319 ≠ gb270) := ⟨h21_⟩
             have n22_ : Aside0 (gb275 ≠ gb319) := ⟨h22_⟩
             have n23_ : Aside0 (gb319 ≠ gb275) := ⟨h23_⟩
             have n24_ : Aside0 (gb280 ≠ gb319) := ⟨h24_⟩
             have n25_ : Aside0 (gb319 ≠ gb280) := ⟨h25_⟩
             have n26_ : Aside0 (gb286 ≠ gb319) := ⟨h26_⟩
             have n27_ : Aside0 (gb319 ≠ gb286) := ⟨h27_⟩
             have n28_ : Aside0 (Below w.heap.size w w184) := ⟨h28_⟩
             clear HO_271001
             clear HO_276001
             clear HO_281001
             clear HO_287001
             clear BK253
             clear BK254
             clear BK270
             clear BK275
             clear BK280
             clear BK286
             clear HB
             clear h0_ h1_ h2_ h3_ h4_ h5_ h6_ h7_ h8_ h9_ h10_ h11_ h12_ h13_ h14_ h15_ h16_ h17_ h18_ h19_ h20_ h21_ h22_ h23_ h24_ h25_ h26_ h27_ h28_
             have HO309 := n0_
             have HO313 := n1_
             have HO317 := n2_
             have HO_271001 := n3_
             have HO_276001 := n4_
             have HO_281001 := n5_
             have HO_287001 := n6_
             have BK253 := n7_
             have BK254 := n8_
             have BK270 := n9_
             have BK275 := n10_
             have BK280 := n11_
             have BK286 := n12_
             have BK319 := n13_
             have GW319 := n14_
             have GE319 := n15_
             have NB253_319 := n16_
             have NB319_253 := n17_
             have NB254_319 := n18_
             have NB319_254 := n19_
             have NB270_319 := n20_
             have NB319_270 := n21_
             have NB275_319 := n22_
             have NB319_275 := n23_
             have NB280_319 := n24_
             have NB319_280 := n25_
             have NB286_319 := n26_
             have NB319_286 := n27_
             have HB := n28_
             clear n0_ n1_ n2_ n3_ n4_ n5_ n6_ n7_ n8_ n9_ n10_ n11_ n12_ n13_ n14_ n15_ n16_ n17_ n18_ n19_ n20_ n21_ n22_ n23_ n24_ n25_ n26_ n27_ n28_
             have hHeld : w184.cell? ⟨gb253, 0, none⟩ = some (.int .i64 a0_0) ∧ w184.cell? ⟨gb253, 1, none⟩ = some (.slice A0_1 l0_1.length c0_1) ∧ w184.cell? ⟨gb254, 0, none⟩ = some (.int .i64 a1_0) ∧ w184.cell? ⟨gb254, 1, none⟩ = some (.slice A1_1 l1_1.length c1_1) := hS_
             obtain ⟨Ao186, co186, eo186⟩ := Kd.R_slice HO317.out
             (first | subst eo186 | (injection eo186 with f1_ f2_ f3_; have f4_ := f1_.symm; have f5_ := f3_.symm; clear f1_ f2_ f3_; subst f4_; subst f5_))
             refine norm_ (a' := ?_) ?_ ?_
             rotate_left
             ·simp only [putAll, Act.put, List.setIfInBounds_toArray, List.set_cons_zero, List.set_cons_succ]
              rfl
             refine one_ (i := 9) (N := none) #[true, true, true, true, true, true, true, true, true, true, false] rfl rfl (one_of HT_.out (by kernel_rfl)) (by decide) (fun K hK => ?_)
             have hs185 : w184.cell? ⟨gb319, 0, none⟩ = some (.int .i64 0) := bc_ BK319 0
             have hfs185 := blk_frozen BK319.out 0
             have hns185_0 := NB253_319.out
             have hns185_1 := NB254_319.out
             have hns185_2 := NB270_319.out
             have hns185_3 := NB275_319.out
             have hns185_4 := NB280_319.out
             have hns185_5 := NB286_319.out
             have hms185_0 := NB319_253.out
             have hms185_1 := NB319_254.out
             have hms185_2 := NB319_270.out
             have hms185_3 := NB319_275.out
             have hms185_4 := NB319_280.out
             have hms185_5 := NB319_286.out
             have hs187 : w184.cell? ⟨gb319, 1, none⟩ = some (.slice none 0 0) := bc_ BK319 1
             have hfs187 := blk_frozen BK319.out 1
             have hns187_0 := NB253_319.out
             have hns187_1 := NB254_319.out
             have hns187_2 := NB270_319.out
             have hns187_3 := NB275_319.out
             have hns187_4 := NB280_319.out
             have hns187_5 := NB286_319.out
             have hms187_0 := NB319_253.out
             have hms187_1 := NB319_254.out
             have hms187_2 := NB319_270.out
             have hms187_3 := NB319_275.out
             have hms187_4 := NB319_280.out
             have hms187_5 := NB319_286.out
             refine skip_ (w1 := ?_) (by rfl) rfl ?_ ?_
             rotate_left
             ·go_simp
              rfl
             refine hK.out _ _ ⟨((cell_far (p := ⟨gb319, _, none⟩) NB253_319.out _).trans (((cell_far (p := ⟨gb319, _, none⟩) NB253_319.out _).trans (hHeld.1)))), ((cell_far (p := ⟨gb319, _, none⟩) NB253_319.out _).trans (((cell_far (p := ⟨gb319, _, none⟩) NB253_319.out _).trans (hHeld.2.1)))), ((cell_far (p := ⟨gb319, _, none⟩) NB254_319.out _).trans (((cell_far (p := ⟨gb319, _, none⟩) NB254_319.out _).trans (hHeld.2.2.1)))), ((cell_far (p := ⟨gb319, _, none⟩) NB254_319.out _).trans (((cell_far (p := ⟨gb319, _, none⟩) NB254_319.out _).trans (hHeld.2.2.2))))⟩ (fun hHeld => ?_)
             clear hK K
             refine pure_ (i := 10) (N := some 16) (v := ?_) (a' := ?_) #[true, true, true, true, true, true, true, true, true, true, true] rfl rfl (any_of HT_.out (by kernel_rfl)) (fun _ _ _ h => h) (Or.inl ⟨by rfl, ?_⟩) ?_ ?_
             rotate_left
             ·intro w'
              go_simp
              with_reducible rfl
             rotate_left
             ·simp only [Act.put, List.setIfInBounds_toArray, List.set_cons_zero, List.set_cons_succ, i64_w, i32_w]
              rfl
             refine done_ (done_of HT_.out (by kernel_rfl)) ?_
             go_upto_region 32 with (fail)
             go_cut [110] (fun v110 wc => ∃ (kq : Nat) (x110_166 : Bool), v110 = .bool x110_166 ∧ Aside0 (laws_FnExactMultiplyLaurent.j2 kq t303 x110_166 t281 t304 = some r) ∧ Aside0 (kq ≤ kj109) ∧ Aside0 (Kd.R (Kd.int .i64) 2 wc w.heap.size (fun k_ => some k_ ≠ ((.slice Ao52 t299.length co52) : Value).ownBlock ∧ some k_ ≠ ((.slice Ao62 t301.length co62) : Value).ownBlock ∧ some k_ ≠ ((.slice Ao74 t282.length co74) : Value).ownBlock ∧ some k_ ≠ ((.slice Ao186 t315.length co186) : Value).ownBlock) (.slice Ao42 t266.length co42) t266) ∧ Aside0 (Kd.R (Kd.int .i64) 2 wc w.heap.size (fun k_ => some k_ ≠ ((.slice Ao42 t266.length co42) : Value).ownBlock ∧ some k_ ≠ ((.slice Ao62 t301.length co62) : Value).ownBlock ∧ some k_ ≠ ((.slice Ao74 t282.length co74) : Value).ownBlock ∧ some k_ ≠ ((.slice Ao186 t315.length co186) : Value).ownBlock) (.slice Ao52 t299.length co52) t299) ∧ Aside0 (Kd.R (Kd.int .i64) 2 wc w.heap.size (fun k_ => some k_ ≠ ((.slice Ao42 t266.length co42) : Value).ownBlock ∧ some k_ ≠ ((.slice Ao52 t299.length co52) : Value).ownBlock ∧ some k_ ≠ ((.slice Ao74 t282.length co74) : Value).ownBlock ∧ some k_ ≠ ((.slice Ao186 t315.length co186) : Value).ownBlock) (.slice Ao62 t301.length co62) t301) ∧ Aside0 (Kd.R (Kd.int .i64) 2 wc w.heap.size (fun k_ => some k_ ≠ ((.slice Ao42 t266.length co42) : Value).ownBlock ∧ some k_ ≠ ((.slice Ao52 t299.length co52) : Value).ownBlock ∧ some k_ ≠ ((.slice Ao62 t301.length co62) : Value).ownBlock ∧ some k_ ≠ ((.slice Ao186 t315.length co186) : Value).ownBlock) (.slice Ao74 t282.length co74) t304) ∧ Aside0 (Kd.R (Kd.int .i64) 2 wc w.heap.size (fun k_ => some k_ ≠ ((.slice Ao42 t266.length co42) : Value).ownBlock ∧ some k_ ≠ ((.slice Ao52 t299.length co52) : Value).ownBlock ∧ some k_ ≠ ((.slice Ao62 t301.length co62) : Value).ownBlock ∧ some k_ ≠ ((.slice Ao74 t282.length co74) : Value).ownBlock) (.slice Ao186 t315.length co186) t315) ∧ Aside0 (wc.heap[gb253]? = some (.cells #[.int .i64 a0_0, (.slice A0_1 l0_1.length c0_1)] 24 (0, 0))) ∧ Aside0 (wc.heap[gb254]? = some (.cells #[.int .i64 a1_0, (.slice A1_1 l1_1.length c1_1)] 24 (0, 0))) ∧ Aside0 (wc.heap[gb270]? = some (.cells #[.int .i64 t265, (.slice Ao42 t266.length co42)] 26 (0, 0))) ∧ Aside0 (wc.heap[gb275]? = some (.cells #[.int .i64 t271, (.slice Ao52 t299.length co52)] 26 (0, 0))) ∧ Aside0 (wc.heap[gb280]? = some (.cells #[.int .i64 t276, (.slice Ao62 t301.length co62)] 26 (0, 0))) ∧ Aside0 (wc.heap[gb286]? = some (.cells #[.int .i64 t281, (.slice Ao74 t282.length co74)] 26 (0, 0))) ∧ Aside0 (wc.heap[gb319]? = some (.cells #[.int .i64 t314, (.slice Ao186 t315.length co186)] 26 (0, 0))) ∧ Aside0 (Below w.heap.size w wc))
             case first =>
              have H := HC167.out
              clear HC167
              replace H := Option.bind_eq_some_iff.mp H
              obtain ⟨t320, A1880, H⟩ := H
              replace H : (if t320 = true then (laws_FnExactMultiplyLaurent.j2 kj109 t303 (t318 != t269) t281 t304) else (laws_FnExactMultiplyLaurent.j2 kj109 t303 true t281 t304)) = some r := H
              have A188 := am_ A1880
              clear A1880
              by_cases c189 : t320 = true
              ·subst c189
               have H1 : (laws_FnExactMultiplyLaurent.j2 kj109 t303 (t318 != t269) t281 t304) = some r := by rw [if_pos rfl] at H; exact H
               clear H
               have H := H1
               clear H1
               have H' := am_ H
               clear H
               have hnb190 := NB319_253.out
               have hnc190 := NB253_319.out
               have hnb191 := NB319_254.out
               have hnc191 := NB254_319.out
               have hnb192 := NB319_270.out
               have hnc192 := NB270_319.out
               have hnb193 := NB319_275.out
               have hnc193 := NB275_319.out
               have hnb194 := NB319_280.out
               have hnc194 := NB280_319.out
               have hnb195 := NB319_286.out
               have hnc195 := NB286_319.out
               have hcz196_0 : w184.cell? ⟨gb319, 0, none⟩ = some (.int .i64 0) := bc_ BK319 0
               have hcz196_1 : w184.cell? ⟨gb319, 1, none⟩ = some (.slice none 0 0) := bc_ BK319 1
               have hfz196_0 := blk_frozen BK319.out 0
               have hfz196_1 := blk_frozen BK319.out 1
               have hnb197 := NB270_253.out
               have hnc197 := NB253_270.out
               have hnb198 := NB270_254.out
               have hnc198 := NB254_270.out
               have hnb199 := NB270_275.out
               have hnc199 := NB275_270.out
               have hnb200 := NB270_280.out
               have hnc200 := NB280_270.out
               have hnb201 := NB270_286.out
               have hnc201 := NB286_270.out
               have hcz202_0 : w184.cell? ⟨gb270, 0, none⟩ = some (.int .i64 t265) := bc_ BK270 0
               have hcz202_1 : w184.cell? ⟨gb270, 1, none⟩ = some (.slice Ao42 t266.length co42) := bc_ BK270 1
               have hfz202_0 := blk_frozen BK270.out 0
               have hfz202_1 := blk_frozen BK270.out 1
               go_wp2_with (first | ((with_reducible refine gate_callee (f := 9) rfl ?_); refine goesL_ (some 104) rfl rfl Try.func9 (by kernel_rfl) rfl #[.agg #[.int .i64 t314, .slice Ao186 t315.length co186], .agg #[.int .i64 t265, .slice Ao42 t266.length co42]] rfl lm_ ?_; (with_reducible refine (laws_eqLaurent.calls kj109 t314 _ _ t315 t265 _ _ t266 true _ ?side1 ?side2 ?side3 ?side4 A188.out).mono ?_); (case side1 => refine (Kd.R_reads' (e := 2) (base := w.heap.size) (ok := fun k_ => (some k_ ≠ (v308 : Value).ownBlock ∧ (some k_ ≠ (v312 : Value).ownBlock ∧ (some k_ ≠ (.slice Ao42 t266.length co42 : Value).ownBlock ∧ (some k_ ≠ (.slice Ao52 t299.length co52 : Value).ownBlock ∧ (some k_ ≠ (.slice Ao62 t301.length co62 : Value).ownBlock ∧ some k_ ≠ (.slice Ao74 t282.length co74 : Value).ownBlock)))))) (n := t315.length) (c := co186) ?_).2.2; exact ((rm_ (Kd.R_far (p := ⟨gb319, 1, none⟩) (Kd.R_far (p := ⟨gb319, 0, none⟩) (Kd.R_types HO317.out BK319.out (by decide)) (fun _ hk => hk.2) (.int .i64 t314)) (fun _ hk => hk.2) (.slice Ao186 t315.length co186)) (fun _ h_ => h_.1)))); (case side2 => exact (Kd.R_reads' HO317.out).2.1); (case side3 => refine (Kd.R_reads' (e := 2) (base := w.heap.size) (ok := fun k_ => (some k_ ≠ (v308 : Value).ownBlock ∧ (some k_ ≠ (v312 : Value).ownBlock ∧ (some k_ ≠ (.slice Ao186 t315.length co186 : Value).ownBlock ∧ (some k_ ≠ (.slice Ao52 t299.length co52 : Value).ownBlock ∧ (some k_ ≠ (.slice Ao62 t301.length co62 : Value).ownBlock ∧ some k_ ≠ (.slice Ao74 t282.length co74 : Value).ownBlock)))))) (n := t266.length) (c := co42) ?_).2.2; exact ((rm_ (Kd.R_far (p := ⟨gb319, 1, none⟩) (Kd.R_far (p := ⟨gb319, 0, none⟩) (Kd.R_types HO_271001.out BK319.out (by decide)) (fun _ hk => hk.2) (.int .i64 t314)) (fun _ hk => hk.2) (.slice Ao186 t315.length co186)) (fun _ h_ => h_.1)))); (case side4 => exact (Kd.R_reads' HO_271001.out).2.1); rintro e w203 ⟨rfl, hb⟩; refine ⟨_, rfl, ?_⟩; have n0_ := am_ (Kd.R_below ((rm_ (Kd.R_far (p := ⟨gb319, 1, none⟩) (Kd.R_far (p := ⟨gb319, 0, none⟩) (Kd.R_types HO_271001.out BK319.out (by decide)) (fun _ hk => hk.2) (.int .i64 t314)) (fun _ hk => hk.2) (.slice Ao186 t315.length co186)) (fun _ h_ => h_.1))) hb); have n1_ := am_ (Kd.R_below ((rm_ (Kd.R_far (p := ⟨gb319, 1, none⟩) (Kd.R_far (p := ⟨gb319, 0, none⟩) (Kd.R_types HO_276001.out BK319.out (by decide)) (fun _ hk => hk.2) (.int .i64 t314)) (fun _ hk => hk.2) (.slice Ao186 t315.length co186)) (fun _ h_ => h_.1))) hb); have n2_ := am_ (Kd.R_below ((rm_ (Kd.R_far (p := ⟨gb319, 1, none⟩) (Kd.R_far (p := ⟨gb319, 0, none⟩) (Kd.R_types HO_281001.out BK319.out (by decide)) (fun _ hk => hk.2) (.int .i64 t314)) (fun _ hk => hk.2) (.slice Ao186 t315.length co186)) (fun _ h_ => h_.1))) hb); have n3_ := am_ (Kd.R_below ((rm_ (Kd.R_far (p := ⟨gb319, 1, none⟩) (Kd.R_far (p := ⟨gb319, 0, none⟩) (Kd.R_types HO_287001.out BK319.out (by decide)) (fun _ hk => hk.2) (.int .i64 t314)) (fun _ hk => hk.2) (.slice Ao186 t315.length co186)) (fun _ h_ => h_.1))) hb); have n4_ := am_ (Kd.R_below ((rm_ (Kd.R_far (p := ⟨gb319, 1, none⟩) (Kd.R_far (p := ⟨gb319, 0, none⟩) (Kd.R_types HO309.out BK319.out (by decide)) (fun _ hk => hk.2) (.int .i64 t314)) (fun _ hk => hk.2) (.slice Ao186 t315.length co186)) (fun _ h_ => h_.1))) hb); have n5_ := am_ (Kd.R_below ((rm_ (Kd.R_far (p := ⟨gb319, 1, none⟩) (Kd.R_far (p := ⟨gb319, 0, none⟩) (Kd.R_types HO313.out BK319.out (by decide)) (fun _ hk => hk.2) (.int .i64 t314)) (fun _ hk => hk.2) (.slice Ao186 t315.length co186)) (fun _ h_ => h_.1))) hb); have n6_ := am_ (Kd.R_below ((rm_ (Kd.R_far (p := ⟨gb319, 1, none⟩) (Kd.R_far (p := ⟨gb319, 0, none⟩) (Kd.R_types HO317.out BK319.out (by decide)) (fun _ hk => hk.2) (.int .i64 t314)) (fun _ hk => hk.2) (.slice Ao186 t315.length co186)) (fun _ h_ => h_.1))) hb); have n7_ := am_ (bw_ BK253 hb); have n8_ := am_ (bw_ BK254 hb); have n9_ := am_ (bw_ BK270 hb); have n10_ := am_ (bw_ BK275 hb); have n11_ := am_ (bw_ BK280 hb); have n12_ := am_ (bw_ BK286 hb); have n13_ := am_ (blk_below (g := gb319) (o := .cells #[.int .i64 t314, .slice Ao186 t315.length co186] 26 (0, 0)) (by (with_reducible repeat (first | refine blk_drewN ?_ _ | refine blk_drew ?_ | refine blk_alloc ?_ _)); refine blk_put (cs := #[.int .i64 t314, .slice none 0 0]) ?_ 1 _ rfl; (with_reducible repeat (first | refine blk_drewN ?_ _ | refine blk_drew ?_ | refine blk_alloc ?_ _)); refine blk_put (cs := #[.int .i64 0, .slice none 0 0]) ?_ 0 _ rfl; (with_reducible repeat (first | refine blk_drewN ?_ _ | refine blk_drew ?_ | refine blk_alloc ?_ _)); exact BK319.out) hb); have n14_ := am_ (below_step (bb_ HB.out) hb); clear HO_271001 HO_276001 HO_281001 HO_287001 HO309 HO313 HO317 BK253 BK254 BK270 BK275 BK280 BK286 BK319 HB; revert n0_ n1_ n2_ n3_ n4_ n5_ n6_ n7_ n8_ n9_ n10_ n11_ n12_ n13_ n14_; intro HO_271001 HO_276001 HO_281001 HO_287001 HO309 HO313 HO317 BK253 BK254 BK270 BK275 BK280 BK286 BK319 HB; (try clear hb); (try clear hb2); (try clear hk); (try clear hi)))
               go_meet
               case rel => exact ⟨_, ((t318 != t269)), (by first | rfl | (simp; done) | (simp [*]; done)), H', ⟨by have := HJ24.out; have := HJ109.out; first | omega | exact Nat.le_refl _⟩, ⟨by (try simp only [hl276001_109]); (try simp only [hl281001_109]); (with_reducible repeat (first | apply Kd.R_alloc | apply Kd.R_drewN | apply Kd.R_drew)); exact Kd.R_mono HO_271001.out (fun _ hk => by first | exact ⟨hk.2.2.2.1, ⟨hk.2.2.2.2.1, ⟨hk.2.2.2.2.2, hk.2.2.1⟩⟩⟩ | simp only [hk, and_self, ne_eq, not_false_eq_true, true_and, and_true])⟩, ⟨by (try simp only [hl276001_109]); (try simp only [hl281001_109]); (with_reducible repeat (first | apply Kd.R_alloc | apply Kd.R_drewN | apply Kd.R_drew)); exact Kd.R_mono HO_276001.out (fun _ hk => by first | exact ⟨hk.2.2.2.1, ⟨hk.2.2.2.2.1, ⟨hk.2.2.2.2.2, hk.2.2.1⟩⟩⟩ | simp only [hk, and_self, ne_eq, not_false_eq_true, true_and, and_true])⟩, ⟨by (try simp only [hl276001_109]); (try simp only [hl281001_109]); (with_reducible repeat (first | apply Kd.R_alloc | apply Kd.R_drewN | apply Kd.R_drew)); exact Kd.R_mono HO_281001.out (fun _ hk => by first | exact ⟨hk.2.2.2.1, ⟨hk.2.2.2.2.1, ⟨hk.2.2.2.2.2, hk.2.2.1⟩⟩⟩ | simp only [hk, and_self, ne_eq, not_false_eq_true, true_and, and_true])⟩, ⟨by (try simp only [hl276001_109]); (try simp only [hl281001_109]); (with_reducible repeat (first | apply Kd.R_alloc | apply Kd.R_drewN | apply Kd.R_drew)); exact Kd.R_mono HO_287001.out (fun _ hk => by first | exact ⟨hk.2.2.2.1, ⟨hk.2.2.2.2.1, ⟨hk.2.2.2.2.2, hk.2.2.1⟩⟩⟩ | simp only [hk, and_self, ne_eq, not_false_eq_true, true_and, and_true])⟩, ⟨by (try simp only [hl276001_109]); (try simp only [hl281001_109]); (with_reducible repeat (first | apply Kd.R_alloc | apply Kd.R_drewN | apply Kd.R_drew)); exact Kd.R_mono HO317.out (fun _ hk => by first | exact ⟨hk.2.2.1, ⟨hk.2.2.2.1, ⟨hk.2.2.2.2.1, hk.2.2.2.2.2⟩⟩⟩ | simp only [hk, and_self, ne_eq, not_false_eq_true, true_and, and_true])⟩, ⟨by (try simp only [hl276001_109]); (try simp only [hl281001_109]); (with_reducible repeat (first | refine blk_drewN ?_ _ | refine blk_drew ?_ | refine blk_alloc ?_ _)); exact BK253.out⟩, ⟨by (try simp only [hl276001_109]); (try simp only [hl281001_109]); (with_reducible repeat (first | refine blk_drewN ?_ _ | refine blk_drew ?_ | refine blk_alloc ?_ _)); exact BK254.out⟩, ⟨by (try simp only [hl276001_109]); (try simp only [hl281001_109]); (with_reducible repeat (first | refine blk_drewN ?_ _ | refine blk_drew ?_ | refine blk_alloc ?_ _)); exact BK270.out⟩, ⟨by (try simp only [hl276001_109]); (try simp only [hl281001_109]); (with_reducible repeat (first | refine blk_drewN ?_ _ | refine blk_drew ?_ | refine blk_alloc ?_ _)); exact BK275.out⟩, ⟨by (try simp only [hl276001_109]); (try simp only [hl281001_109]); (with_reducible repeat (first | refine blk_drewN ?_ _ | refine blk_drew ?_ | refine blk_alloc ?_ _)); exact BK280.out⟩, ⟨by (try simp only [hl276001_109]); (try simp only [hl281001_109]); (with_reducible repeat (first | refine blk_drewN ?_ _ | refine blk_drew ?_ | refine blk_alloc ?_ _)); exact BK286.out⟩, ⟨by (try simp only [hl276001_109]); (try simp only [hl281001_109]); (with_reducible repeat (first | refine blk_drewN ?_ _ | refine blk_drew ?_ | refine blk_alloc ?_ _)); exact BK319.out⟩, ⟨bb_ HB.out⟩⟩
              ·replace c189 := Bool.eq_false_iff.mpr c189
               subst c189
               have H1 : (laws_FnExactMultiplyLaurent.j2 kj109 t303 true t281 t304) = some r := by rw [if_neg (show ¬ (false = true) by decide)] at H; exact H
               clear H
               have H := H1
               clear H1
               have H' := am_ H
               clear H
               have hnb204 := NB319_253.out
               have hnc204 := NB253_319.out
               have hnb205 := NB319_254.out
               have hnc205 := NB254_319.out
               have hnb206 := NB319_270.out
               have hnc206 := NB270_319.out
               have hnb207 := NB319_275.out
               have hnc207 := NB275_319.out
               have hnb208 := NB319_280.out
               have hnc208 := NB280_319.out
               have hnb209 := NB319_286.out
               have hnc209 := NB286_319.out
               have hcz210_0 : w184.cell? ⟨gb319, 0, none⟩ = some (.int .i64 0) := bc_ BK319 0
               have hcz210_1 : w184.cell? ⟨gb319, 1, none⟩ = some (.slice none 0 0) := bc_ BK319 1
               have hfz210_0 := blk_frozen BK319.out 0
               have hfz210_1 := blk_frozen BK319.out 1
               have hnb211 := NB270_253.out
               have hnc211 := NB253_270.out
               have hnb212 := NB270_254.out
               have hnc212 := NB254_270.out
               have hnb213 := NB270_275.out
               have hnc213 := NB275_270.out
               have hnb214 := NB270_280.out
               have hnc214 := NB280_270.out
               have hnb215 := NB270_286.out
               have hnc215 := NB286_270.out
               have hcz216_0 : w184.cell? ⟨gb270, 0, none⟩ = some (.int .i64 t265) := bc_ BK270 0
               have hcz216_1 : w184.cell? ⟨gb270, 1, none⟩ = some (.slice Ao42 t266.length co42) := bc_ BK270 1
               have hfz216_0 := blk_frozen BK270.out 0
               have hfz216_1 := blk_frozen BK270.out 1
               go_wp2_with (first | ((with_reducible refine gate_callee (f := 9) rfl ?_); refine goesL_ (some 104) rfl rfl Try.func9 (by kernel_rfl) rfl #[.agg #[.int .i64 t314, .slice Ao186 t315.length co186], .agg #[.int .i64 t265, .slice Ao42 t266.length co42]] rfl lm_ ?_; (with_reducible refine (laws_eqLaurent.calls kj109 t314 _ _ t315 t265 _ _ t266 false _ ?side1 ?side2 ?side3 ?side4 A188.out).mono ?_); (case side1 => refine (Kd.R_reads' (e := 2) (base := w.heap.size) (ok := fun k_ => (some k_ ≠ (v308 : Value).ownBlock ∧ (some k_ ≠ (v312 : Value).ownBlock ∧ (some k_ ≠ (.slice Ao42 t266.length co42 : Value).ownBlock ∧ (some k_ ≠ (.slice Ao52 t299.length co52 : Value).ownBlock ∧ (some k_ ≠ (.slice Ao62 t301.length co62 : Value).ownBlock ∧ some k_ ≠ (.slice Ao74 t282.length co74 : Value).ownBlock)))))) (n := t315.length) (c := co186) ?_).2.2; exact ((rm_ (Kd.R_far (p := ⟨gb319, 1, none⟩) (Kd.R_far (p := ⟨gb319, 0, none⟩) (Kd.R_types HO317.out BK319.out (by decide)) (fun _ hk => hk.2) (.int .i64 t314)) (fun _ hk => hk.2) (.slice Ao186 t315.length co186)) (fun _ h_ => h_.1)))); (case side2 => exact (Kd.R_reads' HO317.out).2.1); (case side3 => refine (Kd.R_reads' (e := 2) (base := w.heap.size) (ok := fun k_ => (some k_ ≠ (v308 : Value).ownBlock ∧ (some k_ ≠ (v312 : Value).ownBlock ∧ (some k_ ≠ (.slice Ao186 t315.length co186 : Value).ownBlock ∧ (some k_ ≠ (.slice Ao52 t299.length co52 : Value).ownBlock ∧ (some k_ ≠ (.slice Ao62 t301.length co62 : Value).ownBlock ∧ some k_ ≠ (.slice Ao74 t282.length co74 : Value).ownBlock)))))) (n := t266.length) (c := co42) ?_).2.2; exact ((rm_ (Kd.R_far (p := ⟨gb319, 1, none⟩) (Kd.R_far (p := ⟨gb319, 0, none⟩) (Kd.R_types HO_271001.out BK319.out (by decide)) (fun _ hk => hk.2) (.int .i64 t314)) (fun _ hk => hk.2) (.slice Ao186 t315.length co186)) (fun _ h_ => h_.1)))); (case side4 => exact (Kd.R_reads' HO_271001.out).2.1); rintro e w217 ⟨rfl, hb⟩; refine ⟨_, rfl, ?_⟩; have n0_ := am_ (Kd.R_below ((rm_ (Kd.R_far (p := ⟨gb319, 1, none⟩) (Kd.R_far (p := ⟨gb319, 0, none⟩) (Kd.R_types HO_271001.out BK319.out (by decide)) (fun _ hk => hk.2) (.int .i64 t314)) (fun _ hk => hk.2) (.slice Ao186 t315.length co186)) (fun _ h_ => h_.1))) hb); have n1_ := am_ (Kd.R_below ((rm_ (Kd.R_far (p := ⟨gb319, 1, none⟩) (Kd.R_far (p := ⟨gb319, 0, none⟩) (Kd.R_types HO_276001.out BK319.out (by decide)) (fun _ hk => hk.2) (.int .i64 t314)) (fun _ hk => hk.2) (.slice Ao186 t315.length co186)) (fun _ h_ => h_.1))) hb); have n2_ := am_ (Kd.R_below ((rm_ (Kd.R_far (p := ⟨gb319, 1, none⟩) (Kd.R_far (p := ⟨gb319, 0, none⟩) (Kd.R_types HO_281001.out BK319.out (by decide)) (fun _ hk => hk.2) (.int .i64 t314)) (fun _ hk => hk.2) (.slice Ao186 t315.length co186)) (fun _ h_ => h_.1))) hb); have n3_ := am_ (Kd.R_below ((rm_ (Kd.R_far (p := ⟨gb319, 1, none⟩) (Kd.R_far (p := ⟨gb319, 0, none⟩) (Kd.R_types HO_287001.out BK319.out (by decide)) (fun _ hk => hk.2) (.int .i64 t314)) (fun _ hk => hk.2) (.slice Ao186 t315.length co186)) (fun _ h_ => h_.1))) hb); have n4_ := am_ (Kd.R_below ((rm_ (Kd.R_far (p := ⟨gb319, 1, none⟩) (Kd.R_far (p := ⟨gb319, 0, none⟩) (Kd.R_types HO309.out BK319.out (by decide)) (fun _ hk => hk.2) (.int .i64 t314)) (fun _ hk => hk.2) (.slice Ao186 t315.length co186)) (fun _ h_ => h_.1))) hb); have n5_ := am_ (Kd.R_below ((rm_ (Kd.R_far (p := ⟨gb319, 1, none⟩) (Kd.R_far (p := ⟨gb319, 0, none⟩) (Kd.R_types HO313.out BK319.out (by decide)) (fun _ hk => hk.2) (.int .i64 t314)) (fun _ hk => hk.2) (.slice Ao186 t315.length co186)) (fun _ h_ => h_.1))) hb); have n6_ := am_ (Kd.R_below ((rm_ (Kd.R_far (p := ⟨gb319, 1, none⟩) (Kd.R_far (p := ⟨gb319, 0, none⟩) (Kd.R_types HO317.out BK319.out (by decide)) (fun _ hk => hk.2) (.int .i64 t314)) (fun _ hk => hk.2) (.slice Ao186 t315.length co186)) (fun _ h_ => h_.1))) hb); have n7_ := am_ (bw_ BK253 hb); have n8_ := am_ (bw_ BK254 hb); have n9_ := am_ (bw_ BK270 hb); have n10_ := am_ (bw_ BK275 hb); have n11_ := am_ (bw_ BK280 hb); have n12_ := am_ (bw_ BK286 hb); have n13_ := am_ (blk_below (g := gb319) (o := .cells #[.int .i64 t314, .slice Ao186 t315.length co186] 26 (0, 0)) (by (with_reducible repeat (first | refine blk_drewN ?_ _ | refine blk_drew ?_ | refine blk_alloc ?_ _)); refine blk_put (cs := #[.int .i64 t314, .slice none 0 0]) ?_ 1 _ rfl; (with_reducible repeat (first | refine blk_drewN ?_ _ | refine blk_drew ?_ | refine blk_alloc ?_ _)); refine blk_put (cs := #[.int .i64 0, .slice none 0 0]) ?_ 0 _ rfl; (with_reducible repeat (first | refine blk_drewN ?_ _ | refine blk_drew ?_ | refine blk_alloc ?_ _)); exact BK319.out) hb); have n14_ := am_ (below_step (bb_ HB.out) hb); clear HO_271001 HO_276001 HO_281001 HO_287001 HO309 HO313 HO317 BK253 BK254 BK270 BK275 BK280 BK286 BK319 HB; revert n0_ n1_ n2_ n3_ n4_ n5_ n6_ n7_ n8_ n9_ n10_ n11_ n12_ n13_ n14_; intro HO_271001 HO_276001 HO_281001 HO_287001 HO309 HO313 HO317 BK253 BK254 BK270 BK275 BK280 BK286 BK319 HB; (try clear hb); (try clear hb2); (try clear hk); (try clear hi)))
               go_meet
               case rel => exact ⟨_, (true), (by first | rfl | (simp; done) | (simp [*]; done)), H', ⟨by have := HJ24.out; have := HJ109.out; first | omega | exact Nat.le_refl _⟩, ⟨by (try simp only [hl276001_109]); (try simp only [hl281001_109]); (with_reducible repeat (first | apply Kd.R_alloc | apply Kd.R_drewN | apply Kd.R_drew)); exact Kd.R_mono HO_271001.out (fun _ hk => by first | exact ⟨hk.2.2.2.1, ⟨hk.2.2.2.2.1, ⟨hk.2.2.2.2.2, hk.2.2.1⟩⟩⟩ | simp only [hk, and_self, ne_eq, not_false_eq_true, true_and, and_true])⟩, ⟨by (try simp only [hl276001_109]); (try simp only [hl281001_109]); (with_reducible repeat (first | apply Kd.R_alloc | apply Kd.R_drewN | apply Kd.R_drew)); exact Kd.R_mono HO_276001.out (fun _ hk => by first | exact ⟨hk.2.2.2.1, ⟨hk.2.2.2.2.1, ⟨hk.2.2.2.2.2, hk.2.2.1⟩⟩⟩ | simp only [hk, and_self, ne_eq, not_false_eq_true, true_and, and_true])⟩, ⟨by (try simp only [hl276001_109]); (try simp only [hl281001_109]); (with_reducible repeat (first | apply Kd.R_alloc | apply Kd.R_drewN | apply Kd.R_drew)); exact Kd.R_mono HO_281001.out (fun _ hk => by first | exact ⟨hk.2.2.2.1, ⟨hk.2.2.2.2.1, ⟨hk.2.2.2.2.2, hk.2.2.1⟩⟩⟩ | simp only [hk, and_self, ne_eq, not_false_eq_true, true_and, and_true])⟩, ⟨by (try simp only [hl276001_109]); (try simp only [hl281001_109]); (with_reducible repeat (first | apply Kd.R_alloc | apply Kd.R_drewN | apply Kd.R_drew)); exact Kd.R_mono HO_287001.out (fun _ hk => by first | exact ⟨hk.2.2.2.1, ⟨hk.2.2.2.2.1, ⟨hk.2.2.2.2.2, hk.2.2.1⟩⟩⟩ | simp only [hk, and_self, ne_eq, not_false_eq_true, true_and, and_true])⟩, ⟨by (try simp only [hl276001_109]); (try simp only [hl281001_109]); (with_reducible repeat (first | apply Kd.R_alloc | apply Kd.R_drewN | apply Kd.R_drew)); exact Kd.R_mono HO317.out (fun _ hk => by first | exact ⟨hk.2.2.1, ⟨hk.2.2.2.1, ⟨hk.2.2.2.2.1, hk.2.2.2.2.2⟩⟩⟩ | simp only [hk, and_self, ne_eq, not_false_eq_true, true_and, and_true])⟩, ⟨by (try simp only [hl276001_109]); (try simp only [hl281001_109]); (with_reducible repeat (first | refine blk_drewN ?_ _ | refine blk_drew ?_ | refine blk_alloc ?_ _)); exact BK253.out⟩, ⟨by (try simp only [hl276001_109]); (try simp only [hl281001_109]); (with_reducible repeat (first | refine blk_drewN ?_ _ | refine blk_drew ?_ | refine blk_alloc ?_ _)); exact BK254.out⟩, ⟨by (try simp only [hl276001_109]); (try simp only [hl281001_109]); (with_reducible repeat (first | refine blk_drewN ?_ _ | refine blk_drew ?_ | refine blk_alloc ?_ _)); exact BK270.out⟩, ⟨by (try simp only [hl276001_109]); (try simp only [hl281001_109]); (with_reducible repeat (first | refine blk_drewN ?_ _ | refine blk_drew ?_ | refine blk_alloc ?_ _)); exact BK275.out⟩, ⟨by (try simp only [hl276001_109]); (try simp only [hl281001_109]); (with_reducible repeat (first | refine blk_drewN ?_ _ | refine blk_drew ?_ | refine blk_alloc ?_ _)); exact BK280.out⟩, ⟨by (try simp only [hl276001_109]); (try simp only [hl281001_109]); (with_reducible repeat (first | refine blk_drewN ?_ _ | refine blk_drew ?_ | refine blk_alloc ?_ _)); exact BK286.out⟩, ⟨by (try simp only [hl276001_109]); (try simp only [hl281001_109]); (with_reducible repeat (first | refine blk_drewN ?_ _ | refine blk_drew ?_ | refine blk_alloc ?_ _)); exact BK319.out⟩, ⟨bb_ HB.out⟩⟩
             case rest =>
              clear HC167
              try clear c1
              try clear c2
              try clear p2
              try clear c7
              try clear c9
              try clear c13
              try clear c18
              try clear c19
              try clear c20
              try clear c21
              try clear c189
              try clear c190
              try clear c191
              try clear c192
              try clear c193
              try clear c194
              try clear c195
              try clear c197
              try clear c198
              try clear c199
              try clear c200
              try clear c201
              try clear c204
              try clear c205
              try clear c206
              try clear c207
              try clear c208
              try clear c209
              try clear c211
              try clear c212
              try clear c213
              try clear c214
              try clear c215
              try clear hcz196_0
              try clear hcz196_1
              try clear hcz202_0
              try clear hcz202_1
              try clear hcz210_0
              try clear hcz210_1
              try clear hcz216_0
              try clear hcz216_1
              try clear hfz196_0
              try clear hfz196_1
              try clear hfz202_0
              try clear hfz202_1
              try clear hfz210_0
              try clear hfz210_1
              try clear hfz216_0
              try clear hfz216_1
              obtain ⟨kq, x110_166, rfl, HA, HJ166, HO_271001, HO_276001, HO_281001, HO_287001, HO_320001, BK253, BK254, BK270, BK275, BK280, BK286, BK319, HB⟩ := hcut
              have hl287001_166 := (Kd.R_reads' HO_287001.out).1
              rw [hl287001_166] at HO_287001
              (try simp only [hl287001_166])
              (try simp only [hl287001_166] at BK253)
              (try simp only [hl287001_166] at BK254)
              (try simp only [hl287001_166] at BK270)
              (try simp only [hl287001_166] at BK275)
              (try simp only [hl287001_166] at BK280)
              (try simp only [hl287001_166] at BK286)
              (try simp only [hl287001_166] at BK319)
              (try simp only [hl287001_166] at HO_271001)
              (try simp only [hl287001_166] at HO_276001)
              (try simp only [hl287001_166] at HO_281001)
              (try simp only [hl287001_166] at HO_320001)
              cases kq with
              | zero => exact absurd HA.out (by simp [laws_FnExactMultiplyLaurent.j2])
              | succ kj166 =>
               have H := HA.out
               clear HA
               simp only [laws_FnExactMultiplyLaurent.j2] at H
               by_cases c218 : x110_166 = true
               ·subst c218
                have H1 : (some false) = some r := by rw [if_pos rfl] at H; exact H
                clear H
                have H := H1
                clear H1
                exact absurd ((Option.some.inj H).trans HTRUE_.out) (by simp)
               ·replace c218 := Bool.eq_false_iff.mpr c218
                subst c218
                have H1 : ((laws_heldLaurent.f kj166 t281 t304 1).bind fun t321 => (if t321 < 0 then (some false) else (if t321 = t303 then (some true) else (some false)))) = some r := by rw [if_neg (show ¬ (false = true) by decide)] at H; exact H
                clear H
                have H := H1
                clear H1
                replace H := Option.bind_eq_some_iff.mp H
                obtain ⟨t321, A2190, H⟩ := H
                replace H : (if t321 < 0 then (some false) else (if t321 = t303 then (some true) else (some false))) = some r := H
                have A219 := am_ A2190
                clear A2190
                by_cases c220 : t321 < 0
                ·rw [if_pos c220] at H
                 have c220b0 : decide (t321 < 0) = true := decide_eq_true c220
                 clear c220
                 exact absurd ((Option.some.inj H).trans HTRUE_.out) (by simp)
                ·rw [if_neg c220] at H
                 have c220b0 : decide (t321 < 0) = false := decide_eq_false c220
                 clear c220
                 by_cases c221 : t321 = t303
                 ·rw [if_pos c221] at H
                  have c221b0 : (t321 == t303) = true := beq_iff_eq.mpr c221
                  have c221b1 : (t321 != t303) = false := bne_eq_false_iff_eq.mpr c221
                  clear c221
                  obtain rfl := Option.some.inj H
                  have hnb222 := NB286_253.out
                  have hnc222 := NB253_286.out
                  have hnb223 := NB286_254.out
                  have hnc223 := NB254_286.out
                  have hnb224 := NB286_270.out
                  have hnc224 := NB270_286.out
                  have hnb225 := NB286_275.out
                  have hnc225 := NB275_286.out
                  have hnb226 := NB286_280.out
                  have hnc226 := NB280_286.out
                  have hnb227 := NB286_319.out
                  have hnc227 := NB319_286.out
                  have hcz228_0 : wc.cell? ⟨gb286, 0, none⟩ = some (.int .i64 t281) := bc_ BK286 0
                  have hcz228_1 : wc.cell? ⟨gb286, 1, none⟩ = some (.slice Ao74 t304.length co74) := bc_ BK286 1
                  have hfz228_0 := blk_frozen BK286.out 0
                  have hfz228_1 := blk_frozen BK286.out 1
                  go_wp2_with (first | ((with_reducible refine gate_callee (f := 11) rfl ?_); refine goesL_ (some 113) rfl rfl Try.func11 (by kernel_rfl) rfl #[.agg #[.int .i64 t281, .slice Ao74 t304.length co74], .int .i64 1] rfl lm_ ?_; (with_reducible refine (laws_heldLaurent.calls kj166 t281 _ _ t304 1 t321 _ ?side1 ?side2 A219.out).mono ?_); (case side1 => repeat (first | exact (Kd.R_reads' HO_287001.out).2.2 | (with_reducible refine Kd.C_alloc ?_ _) | (with_reducible refine Kd.C_drewN ?_ _) | (with_reducible refine Kd.C_drew ?_))); (case side2 => exact (Kd.R_reads' HO_287001.out).2.1); rintro e w229 ⟨rfl, hb⟩; refine ⟨_, rfl, ?_⟩; have n0_ := am_ (Kd.R_below (rk_ HO_271001.out) hb); have n1_ := am_ (Kd.R_below (rk_ HO_276001.out) hb); have n2_ := am_ (Kd.R_below (rk_ HO_281001.out) hb); have n3_ := am_ (Kd.R_below (rk_ HO_287001.out) hb); have n4_ := am_ (Kd.R_below (rk_ HO_320001.out) hb); have n5_ := am_ (bw_ BK253 hb); have n6_ := am_ (bw_ BK254 hb); have n7_ := am_ (bw_ BK270 hb); have n8_ := am_ (bw_ BK275 hb); have n9_ := am_ (bw_ BK280 hb); have n10_ := am_ (bw_ BK286 hb); have n11_ := am_ (bw_ BK319 hb); have n12_ := am_ (below_step (bb_ HB.out) hb); clear HO_271001 HO_276001 HO_281001 HO_287001 HO_320001 BK253 BK254 BK270 BK275 BK280 BK286 BK319 HB; revert n0_ n1_ n2_ n3_ n4_ n5_ n6_ n7_ n8_ n9_ n10_ n11_ n12_; intro HO_271001 HO_276001 HO_281001 HO_287001 HO_320001 BK253 BK254 BK270 BK275 BK280 BK286 BK319 HB; (try clear hb); (try clear hb2); (try clear hk); (try clear hi)))
                  go_ret
                  exact ⟨by first | rfl | (simp [errW_none, errW_some] <;> rfl) | (simp [*, errW_none, errW_some] <;> rfl), by repeat (first | (with_reducible first | exact HB.out | apply below_alloc | apply pw_below_drewN | apply below_drew1 | refine below_set ?_ GE253.out | refine below_set ?_ GE254.out | refine below_set ?_ GE270.out | refine below_set ?_ GE275.out | refine below_set ?_ GE280.out | refine below_set ?_ GE286.out | refine below_set ?_ GE319.out) | exact HB.out)⟩
                 ·rw [if_neg c221] at H
                  have c221b0 : (t321 == t303) = false := beq_eq_false_iff_ne.mpr c221
                  have c221b1 : (t321 != t303) = true := bne_iff_ne.mpr c221
                  exact absurd ((Option.some.inj H).trans HTRUE_.out) (by simp)
            ·rw [if_neg c163] at H
             have c163b0 : (t305 == t303) = false := beq_eq_false_iff_ne.mpr c163
             have c163b1 : (t305 != t303) = true := bne_iff_ne.mpr c163
             exact absurd ((Option.some.inj H).trans HTRUE_.out) (by simp)
       ·replace c107 := Bool.eq_false_iff.mpr c107
        subst c107
        have H1 : (some false) = some r := by rw [if_neg (show ¬ (false = true) by decide)] at H; exact H
        clear H
        have H := H1
        clear H1
        exact absurd ((Option.some.inj H).trans HTRUE_.out) (by simp)
      ·replace c104 := Bool.eq_false_iff.mpr c104
       subst c104
       have H1 : (some false) = some r := by rw [if_neg (show ¬ (false = true) by decide)] at H; exact H
       clear H
       have H := H1
       clear H1
       exact absurd ((Option.some.inj H).trans HTRUE_.out) (by simp)

end Go.Proofs.Ytpkocglndlmhkaa.PFnExactMultiplyLaurent
