/- Written by this session's program out of the kit's print and this session's contracts. -/
import Derived.Test.YtifbfloifdkacaaVFnExactIsReductionPx0
import Derived.Test.YtifbfloifdkacaaVFnExactIsReductionPx1
import Derived.Test.YtifbfloifdkacaaVFnExactIsReductionPx4
import Derived.Test.YtifbfloifdkacaaVFnExactIsReductionPx5
namespace Go.Proofs.Ytifbfloifdkacaa.PFnExactIsReduction
open Go.RowKit Go.Proofs.YtifbfloifdkacaaW.PrintWords Go.Proofs.YtifbfloifdkacaaW.PrintLast Go.Proofs.YtifbfloifdkacaaW.PrintMore
attribute [local go_sem] max2_int min2_int max_two min_two max_three min_three max_four min_four   -- for this text's walks alone
set_option linter.unusedVariables false
set_option linter.unusedSimpArgs false

/-! ### spec_IsReduction: function 18 -/
mutual
def spec_IsReduction.j0 : Nat → Bool → Int → Int → List Int → Int → Int → List Int → Int → Int → List Int → Int → Int → List Int → Int → Int → List Int → Int → Int → List Int → Option (Bool)
 | 0, _, _, _, _, _, _, _, _, _, _, _, _, _, _, _, _, _, _, _ => none
 | k + 1, x41, x196000, x196001, x196002, x197000, x197001, x197002, x197003, x197004, x197005, x197006, x197007, x197008, x197009, x197010, x197011, x197012, x197013, x197014 => if x41 = true then (some false) else ((spec_l02Inverse.f k x197000 x197001 x197002 x197003 x197004 x197005 x196000).bind fun t203 => (if t203 = true then ((spec_l02Inverse.f k x197009 x197010 x197011 x197012 x197013 x197014 x196001).bind fun t204 => (if t204 = true then ((spec_l02Diagonal.f k x197006 x197007 x197008).bind fun t205 => (spec_IsReduction.j1 k (!t205) x196000 x196001 x196002 x197000 x197001 x197002 x197003 x197004 x197005 x197006 x197007 x197008 x197009 x197010 x197011 x197012 x197013 x197014)) else (spec_IsReduction.j1 k true x196000 x196001 x196002 x197000 x197001 x197002 x197003 x197004 x197005 x197006 x197007 x197008 x197009 x197010 x197011 x197012 x197013 x197014))) else (spec_IsReduction.j1 k true x196000 x196001 x196002 x197000 x197001 x197002 x197003 x197004 x197005 x197006 x197007 x197008 x197009 x197010 x197011 x197012 x197013 x197014)))
def spec_IsReduction.j1 : Nat → Bool → Int → Int → List Int → Int → Int → List Int → Int → Int → List Int → Int → Int → List Int → Int → Int → List Int → Int → Int → List Int → Option (Bool)
 | 0, _, _, _, _, _, _, _, _, _, _, _, _, _, _, _, _, _, _, _ => none
 | k + 1, x65, x196000, x196001, x196002, x197000, x197001, x197002, x197003, x197004, x197005, x197006, x197007, x197008, x197009, x197010, x197011, x197012, x197013, x197014 => if x65 = true then (some false) else ((spec_MultiplyMatrices.f k x197000 x197001 x197002 x196000 x196001 x196002).bind fun bt206 => ((spec_MultiplyMatrices.f k bt206.1 bt206.2.1 bt206.2.2.1 x197009 x197010 x197011).bind fun bt213 => (if bt206.2.2.2 = 0 then (if bt213.2.2.2 = 0 then ((spec_l02Same.f k bt213.1 bt213.2.1 bt213.2.2.1 x197006 x197007 x197008).bind fun t220 => (some t220)) else (some false)) else (some false))))
end
def spec_IsReduction.f (k : Nat) (a0_0 : Int) (a0_1 : Int) (l0_2 : List Int) (a1_0 : Int) (a1_1 : Int) (l1_2 : List Int) (a1_3 : Int) (a1_4 : Int) (l1_5 : List Int) (a1_6 : Int) (a1_7 : Int) (l1_8 : List Int) (a1_9 : Int) (a1_10 : Int) (l1_11 : List Int) (a1_12 : Int) (a1_13 : Int) (l1_14 : List Int) : Option (Bool) := (spec_IsMatrix.f k a0_0 a0_1 l0_2).bind fun t197 => (if t197 = true then ((spec_IsMatrix.f k a1_0 a1_1 l1_2).bind fun t198 => (if t198 = true then ((spec_IsMatrix.f k a1_3 a1_4 l1_5).bind fun t199 => (if t199 = true then ((spec_IsMatrix.f k a1_6 a1_7 l1_8).bind fun t200 => (if t200 = true then ((spec_IsMatrix.f k a1_9 a1_10 l1_11).bind fun t201 => (if t201 = true then ((spec_IsMatrix.f k a1_12 a1_13 l1_14).bind fun t202 => (spec_IsReduction.j0 k (!t202) a0_0 a0_1 l0_2 a1_0 a1_1 l1_2 a1_3 a1_4 l1_5 a1_6 a1_7 l1_8 a1_9 a1_10 l1_11 a1_12 a1_13 l1_14)) else (spec_IsReduction.j0 k true a0_0 a0_1 l0_2 a1_0 a1_1 l1_2 a1_3 a1_4 l1_5 a1_6 a1_7 l1_8 a1_9 a1_10 l1_11 a1_12 a1_13 l1_14))) else (spec_IsReduction.j0 k true a0_0 a0_1 l0_2 a1_0 a1_1 l1_2 a1_3 a1_4 l1_5 a1_6 a1_7 l1_8 a1_9 a1_10 l1_11 a1_12 a1_13 l1_14))) else (spec_IsReduction.j0 k true a0_0 a0_1 l0_2 a1_0 a1_1 l1_2 a1_3 a1_4 l1_5 a1_6 a1_7 l1_8 a1_9 a1_10 l1_11 a1_12 a1_13 l1_14))) else (spec_IsReduction.j0 k true a0_0 a0_1 l0_2 a1_0 a1_1 l1_2 a1_3 a1_4 l1_5 a1_6 a1_7 l1_8 a1_9 a1_10 l1_11 a1_12 a1_13 l1_14))) else (spec_IsReduction.j0 k true a0_0 a0_1 l0_2 a1_0 a1_1 l1_2 a1_3 a1_4 l1_5 a1_6 a1_7 l1_8 a1_9 a1_10 l1_11 a1_12 a1_13 l1_14))
theorem spec_IsReduction.mono_l : ∀ k, (∀ y0 y1 y2 y3 y4 y5 y6 y7 y8 y9 y10 y11 y12 y13 y14 y15 y16 y17 y18, LeO (spec_IsReduction.j0 k y0 y1 y2 y3 y4 y5 y6 y7 y8 y9 y10 y11 y12 y13 y14 y15 y16 y17 y18) (spec_IsReduction.j0 (k + 1) y0 y1 y2 y3 y4 y5 y6 y7 y8 y9 y10 y11 y12 y13 y14 y15 y16 y17 y18)) ∧ (∀ y0 y1 y2 y3 y4 y5 y6 y7 y8 y9 y10 y11 y12 y13 y14 y15 y16 y17 y18, LeO (spec_IsReduction.j1 k y0 y1 y2 y3 y4 y5 y6 y7 y8 y9 y10 y11 y12 y13 y14 y15 y16 y17 y18) (spec_IsReduction.j1 (k + 1) y0 y1 y2 y3 y4 y5 y6 y7 y8 y9 y10 y11 y12 y13 y14 y15 y16 y17 y18))
 | 0 => ⟨fun _ _ _ _ _ _ _ _ _ _ _ _ _ _ _ _ _ _ _ r h => by simp [spec_IsReduction.j0] at h, fun _ _ _ _ _ _ _ _ _ _ _ _ _ _ _ _ _ _ _ r h => by simp [spec_IsReduction.j1] at h⟩
 | k + 1 => by
  obtain ⟨ih0, ih1⟩ := spec_IsReduction.mono_l k
  refine ⟨?_, ?_⟩
  ·intro y0 y1 y2 y3 y4 y5 y6 y7 y8 y9 y10 y11 y12 y13 y14 y15 y16 y17 y18
   unfold spec_IsReduction.j0
   repeat' first
   | (with_reducible exact ih0 _ _ _ _ _ _ _ _ _ _ _ _ _ _ _ _ _ _ _)
   | (with_reducible exact ih1 _ _ _ _ _ _ _ _ _ _ _ _ _ _ _ _ _ _ _)
   | (with_reducible exact spec_IsMatrix.mono _ _ _ _)
   | (with_reducible exact spec_MultiplyMatrices.mono _ _ _ _ _ _ _)
   | (with_reducible exact spec_l02Diagonal.mono _ _ _ _)
   | (with_reducible exact spec_l02Inverse.mono _ _ _ _ _ _ _ _)
   | (with_reducible exact spec_l02Same.mono _ _ _ _ _ _ _)
   | (with_reducible exact LeO.refl _)
   | (with_reducible exact LeO.none _)
   | (with_reducible refine LeO.ite ?_ ?_)
   | (with_reducible refine LeO.bind ?_ (fun _ => ?_))
   | exact ih0 _ _ _ _ _ _ _ _ _ _ _ _ _ _ _ _ _ _ _
   | exact ih1 _ _ _ _ _ _ _ _ _ _ _ _ _ _ _ _ _ _ _
   | exact spec_IsMatrix.mono _ _ _ _
   | exact spec_MultiplyMatrices.mono _ _ _ _ _ _ _
   | exact spec_l02Diagonal.mono _ _ _ _
   | exact spec_l02Inverse.mono _ _ _ _ _ _ _ _
   | exact spec_l02Same.mono _ _ _ _ _ _ _
   | exact LeO.none _
   | refine LeO.ite ?_ ?_
   | refine LeO.bind ?_ (fun _ => ?_)
  ·intro y0 y1 y2 y3 y4 y5 y6 y7 y8 y9 y10 y11 y12 y13 y14 y15 y16 y17 y18
   unfold spec_IsReduction.j1
   repeat' first
   | (with_reducible exact ih0 _ _ _ _ _ _ _ _ _ _ _ _ _ _ _ _ _ _ _)
   | (with_reducible exact ih1 _ _ _ _ _ _ _ _ _ _ _ _ _ _ _ _ _ _ _)
   | (with_reducible exact spec_IsMatrix.mono _ _ _ _)
   | (with_reducible exact spec_MultiplyMatrices.mono _ _ _ _ _ _ _)
   | (with_reducible exact spec_l02Diagonal.mono _ _ _ _)
   | (with_reducible exact spec_l02Inverse.mono _ _ _ _ _ _ _ _)
   | (with_reducible exact spec_l02Same.mono _ _ _ _ _ _ _)
   | (with_reducible exact LeO.refl _)
   | (with_reducible exact LeO.none _)
   | (with_reducible refine LeO.ite ?_ ?_)
   | (with_reducible refine LeO.bind ?_ (fun _ => ?_))
   | exact ih0 _ _ _ _ _ _ _ _ _ _ _ _ _ _ _ _ _ _ _
   | exact ih1 _ _ _ _ _ _ _ _ _ _ _ _ _ _ _ _ _ _ _
   | exact spec_IsMatrix.mono _ _ _ _
   | exact spec_MultiplyMatrices.mono _ _ _ _ _ _ _
   | exact spec_l02Diagonal.mono _ _ _ _
   | exact spec_l02Inverse.mono _ _ _ _ _ _ _ _
   | exact spec_l02Same.mono _ _ _ _ _ _ _
   | exact LeO.none _
   | refine LeO.ite ?_ ?_
   | refine LeO.bind ?_ (fun _ => ?_)
theorem spec_IsReduction.mono : ∀ a0 a1 a2 a3 a4 a5 a6 a7 a8 a9 a10 a11 a12 a13 a14 a15 a16 a17 k, LeO (spec_IsReduction.f k a0 a1 a2 a3 a4 a5 a6 a7 a8 a9 a10 a11 a12 a13 a14 a15 a16 a17) (spec_IsReduction.f (k + 1) a0 a1 a2 a3 a4 a5 a6 a7 a8 a9 a10 a11 a12 a13 a14 a15 a16 a17) := by
 intro a0 a1 a2 a3 a4 a5 a6 a7 a8 a9 a10 a11 a12 a13 a14 a15 a16 a17 k
 obtain ⟨ih0, ih1⟩ := spec_IsReduction.mono_l k
 unfold spec_IsReduction.f
 repeat' first
   | (with_reducible exact ih0 _ _ _ _ _ _ _ _ _ _ _ _ _ _ _ _ _ _ _)
   | (with_reducible exact ih1 _ _ _ _ _ _ _ _ _ _ _ _ _ _ _ _ _ _ _)
   | (with_reducible exact spec_IsMatrix.mono _ _ _ _)
   | (with_reducible exact spec_MultiplyMatrices.mono _ _ _ _ _ _ _)
   | (with_reducible exact spec_l02Diagonal.mono _ _ _ _)
   | (with_reducible exact spec_l02Inverse.mono _ _ _ _ _ _ _ _)
   | (with_reducible exact spec_l02Same.mono _ _ _ _ _ _ _)
   | (with_reducible exact LeO.refl _)
   | (with_reducible exact LeO.none _)
   | (with_reducible refine LeO.ite ?_ ?_)
   | (with_reducible refine LeO.bind ?_ (fun _ => ?_))
   | exact ih0 _ _ _ _ _ _ _ _ _ _ _ _ _ _ _ _ _ _ _
   | exact ih1 _ _ _ _ _ _ _ _ _ _ _ _ _ _ _ _ _ _ _
   | exact spec_IsMatrix.mono _ _ _ _
   | exact spec_MultiplyMatrices.mono _ _ _ _ _ _ _
   | exact spec_l02Diagonal.mono _ _ _ _
   | exact spec_l02Inverse.mono _ _ _ _ _ _ _ _
   | exact spec_l02Same.mono _ _ _ _ _ _ _
   | exact LeO.none _
   | refine LeO.ite ?_ ?_
   | refine LeO.bind ?_ (fun _ => ?_)
set_option maxHeartbeats 8000000 in
set_option maxRecDepth 100000 in
theorem spec_IsReduction.calls (k : Nat) (a0_0 : Int) (a0_1 : Int) (A0_2 : Option Addr) (c0_2 : Nat) (l0_2 : List Int) (a1_0 : Int) (a1_1 : Int) (A1_2 : Option Addr) (c1_2 : Nat) (l1_2 : List Int) (a1_3 : Int) (a1_4 : Int) (A1_5 : Option Addr) (c1_5 : Nat) (l1_5 : List Int) (a1_6 : Int) (a1_7 : Int) (A1_8 : Option Addr) (c1_8 : Nat) (l1_8 : List Int) (a1_9 : Int) (a1_10 : Int) (A1_11 : Option Addr) (c1_11 : Nat) (l1_11 : List Int) (a1_12 : Int) (a1_13 : Int) (A1_14 : Option Addr) (c1_14 : Nat) (l1_14 : List Int) (r : Bool) (w : World) (hr0_2 : Kd.C (Kd.int .i64) w A0_2 l0_2.length l0_2) (hc0_2 : l0_2.length ≤ c0_2) (hr1_2 : Kd.C (Kd.int .i64) w A1_2 l1_2.length l1_2) (hc1_2 : l1_2.length ≤ c1_2) (hr1_5 : Kd.C (Kd.int .i64) w A1_5 l1_5.length l1_5) (hc1_5 : l1_5.length ≤ c1_5) (hr1_8 : Kd.C (Kd.int .i64) w A1_8 l1_8.length l1_8) (hc1_8 : l1_8.length ≤ c1_8) (hr1_11 : Kd.C (Kd.int .i64) w A1_11 l1_11.length l1_11) (hc1_11 : l1_11.length ≤ c1_11) (hr1_14 : Kd.C (Kd.int .i64) w A1_14 l1_14.length l1_14) (hc1_14 : l1_14.length ≤ c1_14) (h : spec_IsReduction.f k a0_0 a0_1 l0_2 a1_0 a1_1 l1_2 a1_3 a1_4 l1_5 a1_6 a1_7 l1_8 a1_9 a1_10 l1_11 a1_12 a1_13 l1_14 = some r) :
  Calls Try.prog 18 #[.agg #[.int .i64 a0_0, .int .i64 a0_1, .slice A0_2 l0_2.length c0_2], .agg #[.int .i64 a1_0, .int .i64 a1_1, .slice A1_2 l1_2.length c1_2, .int .i64 a1_3, .int .i64 a1_4, .slice A1_5 l1_5.length c1_5, .int .i64 a1_6, .int .i64 a1_7, .slice A1_8 l1_8.length c1_8, .int .i64 a1_9, .int .i64 a1_10, .slice A1_11 l1_11.length c1_11, .int .i64 a1_12, .int .i64 a1_13, .slice A1_14 l1_14.length c1_14]] w fun e w' => e = .returned (.bool r) ∧ Below w.heap.size w w' := by
 have hu28 := Try.underlying28
 have hu44 := Try.underlying44
 have HR0_2 := am_ hr0_2
 have HC0_2 := am_ hc0_2
 clear hr0_2 hc0_2
 have HR1_2 := am_ hr1_2
 have HC1_2 := am_ hc1_2
 clear hr1_2 hc1_2
 have HR1_5 := am_ hr1_5
 have HC1_5 := am_ hc1_5
 clear hr1_5 hc1_5
 have HR1_8 := am_ hr1_8
 have HC1_8 := am_ hc1_8
 clear hr1_8 hc1_8
 have HR1_11 := am_ hr1_11
 have HC1_11 := am_ hc1_11
 clear hr1_11 hc1_11
 have HR1_14 := am_ hr1_14
 have HC1_14 := am_ hc1_14
 clear hr1_14 hc1_14
 have HB := am_ (Below.refl w.heap.size w)
 have H : ((spec_IsMatrix.f k a0_0 a0_1 l0_2).bind fun t197 => (if t197 = true then ((spec_IsMatrix.f k a1_0 a1_1 l1_2).bind fun t198 => (if t198 = true then ((spec_IsMatrix.f k a1_3 a1_4 l1_5).bind fun t199 => (if t199 = true then ((spec_IsMatrix.f k a1_6 a1_7 l1_8).bind fun t200 => (if t200 = true then ((spec_IsMatrix.f k a1_9 a1_10 l1_11).bind fun t201 => (if t201 = true then ((spec_IsMatrix.f k a1_12 a1_13 l1_14).bind fun t202 => (spec_IsReduction.j0 k (!t202) a0_0 a0_1 l0_2 a1_0 a1_1 l1_2 a1_3 a1_4 l1_5 a1_6 a1_7 l1_8 a1_9 a1_10 l1_11 a1_12 a1_13 l1_14)) else (spec_IsReduction.j0 k true a0_0 a0_1 l0_2 a1_0 a1_1 l1_2 a1_3 a1_4 l1_5 a1_6 a1_7 l1_8 a1_9 a1_10 l1_11 a1_12 a1_13 l1_14))) else (spec_IsReduction.j0 k true a0_0 a0_1 l0_2 a1_0 a1_1 l1_2 a1_3 a1_4 l1_5 a1_6 a1_7 l1_8 a1_9 a1_10 l1_11 a1_12 a1_13 l1_14))) else (spec_IsReduction.j0 k true a0_0 a0_1 l0_2 a1_0 a1_1 l1_2 a1_3 a1_4 l1_5 a1_6 a1_7 l1_8 a1_9 a1_10 l1_11 a1_12 a1_13 l1_14))) else (spec_IsReduction.j0 k true a0_0 a0_1 l0_2 a1_0 a1_1 l1_2 a1_3 a1_4 l1_5 a1_6 a1_7 l1_8 a1_9 a1_10 l1_11 a1_12 a1_13 l1_14))) else (spec_IsReduction.j0 k true a0_0 a0_1 l0_2 a1_0 a1_1 l1_2 a1_3 a1_4 l1_5 a1_6 a1_7 l1_8 a1_9 a1_10 l1_11 a1_12 a1_13 l1_14))) = some r := h
 clear h
 have HC3 := am_ H
 clear H
 go_enter Try.func18, Try.ntmps18
 go_upto_region 1 with (first | ((with_reducible refine gate_dst (N := 2) rfl ?_); refine box_event ?hg (N := 2) ?hd (cs := #[.int .i64 a0_0, .int .i64 a0_1, .slice A0_2 l0_2.length c0_2]) (t := 28) ?hr ?_; (case hd => rfl); (case hg => rfl); (case hr => first | (go_simp; done) | (go_simp; rfl)); intro gb195 hg w4 hbox hb; have n0_ := am_ (below_step (bb_ HB.out) hb); have n1_ := am_ (hbox); have n2_ := am_ ((by rw [hg]; exact (below_size (bb_ HB.out)) : w.heap.size ≤ gb195)); have n3_ := am_ ((by rw [hg]; exact (below_size (bb_ HB.out)) : w.heap.size ≤ gb195)); clear HB; revert n0_ n1_ n2_ n3_; intro HB BK195 GW195 GE195; clear hb hbox hg) | ((with_reducible refine gate_dst (N := 3) rfl ?_); refine box_event ?hg (N := 3) ?hd (cs := #[.int .i64 a1_0, .int .i64 a1_1, .slice A1_2 l1_2.length c1_2, .int .i64 a1_3, .int .i64 a1_4, .slice A1_5 l1_5.length c1_5, .int .i64 a1_6, .int .i64 a1_7, .slice A1_8 l1_8.length c1_8, .int .i64 a1_9, .int .i64 a1_10, .slice A1_11 l1_11.length c1_11, .int .i64 a1_12, .int .i64 a1_13, .slice A1_14 l1_14.length c1_14]) (t := 44) ?hr ?_; (case hd => rfl); (case hg => rfl); (case hr => first | (go_simp; done) | (go_simp; rfl)); intro gb196 hg w5 hbox hb; have n0_ := am_ (bw_ BK195 hb); have n1_ := am_ (below_step (bb_ HB.out) hb); have n2_ := am_ (hbox); have n3_ := am_ ((by rw [hg]; exact (below_size (bb_ HB.out)) : w.heap.size ≤ gb196)); have n4_ := am_ ((by rw [hg]; exact (below_size (bb_ HB.out)) : w.heap.size ≤ gb196)); have n5_ := am_ (nl_ BK195 hg); have n6_ := am_ (ng_ BK195 hg); clear BK195 HB; revert n0_ n1_ n2_ n3_ n4_ n5_ n6_; intro BK195 HB BK196 GW196 GE196 NB195_196 NB196_195; clear hb hbox hg))
 (try simp only [Act.put, List.setIfInBounds_toArray, List.set_cons_zero, List.set_cons_succ])
 go_cut [41] (fun v41 wc => ∃ (kq : Nat) (x41_2 : Bool), v41 = .bool x41_2 ∧ Aside0 (spec_IsReduction.j0 kq x41_2 a0_0 a0_1 l0_2 a1_0 a1_1 l1_2 a1_3 a1_4 l1_5 a1_6 a1_7 l1_8 a1_9 a1_10 l1_11 a1_12 a1_13 l1_14 = some r) ∧ Aside0 (kq ≤ k) ∧ Aside0 (wc.heap[gb195]? = some (.cells #[.int .i64 a0_0, .int .i64 a0_1, (.slice A0_2 l0_2.length c0_2)] 28 (0, 0))) ∧ Aside0 (wc.heap[gb196]? = some (.cells #[.int .i64 a1_0, .int .i64 a1_1, (.slice A1_2 l1_2.length c1_2), .int .i64 a1_3, .int .i64 a1_4, (.slice A1_5 l1_5.length c1_5), .int .i64 a1_6, .int .i64 a1_7, (.slice A1_8 l1_8.length c1_8), .int .i64 a1_9, .int .i64 a1_10, (.slice A1_11 l1_11.length c1_11), .int .i64 a1_12, .int .i64 a1_13, (.slice A1_14 l1_14.length c1_14)] 44 (0, 0))) ∧ Aside0 (Below w.heap.size w wc))
 case first =>
  have H := HC3.out
  clear HC3
  replace H := Option.bind_eq_some_iff.mp H
  obtain ⟨t197, A60, H⟩ := H
  replace H : (if t197 = true then ((spec_IsMatrix.f k a1_0 a1_1 l1_2).bind fun t198 => (if t198 = true then ((spec_IsMatrix.f k a1_3 a1_4 l1_5).bind fun t199 => (if t199 = true then ((spec_IsMatrix.f k a1_6 a1_7 l1_8).bind fun t200 => (if t200 = true then ((spec_IsMatrix.f k a1_9 a1_10 l1_11).bind fun t201 => (if t201 = true then ((spec_IsMatrix.f k a1_12 a1_13 l1_14).bind fun t202 => (spec_IsReduction.j0 k (!t202) a0_0 a0_1 l0_2 a1_0 a1_1 l1_2 a1_3 a1_4 l1_5 a1_6 a1_7 l1_8 a1_9 a1_10 l1_11 a1_12 a1_13 l1_14)) else (spec_IsReduction.j0 k true a0_0 a0_1 l0_2 a1_0 a1_1 l1_2 a1_3 a1_4 l1_5 a1_6 a1_7 l1_8 a1_9 a1_10 l1_11 a1_12 a1_13 l1_14))) else (spec_IsReduction.j0 k true a0_0 a0_1 l0_2 a1_0 a1_1 l1_2 a1_3 a1_4 l1_5 a1_6 a1_7 l1_8 a1_9 a1_10 l1_11 a1_12 a1_13 l1_14))) else (spec_IsReduction.j0 k true a0_0 a0_1 l0_2 a1_0 a1_1 l1_2 a1_3 a1_4 l1_5 a1_6 a1_7 l1_8 a1_9 a1_10 l1_11 a1_12 a1_13 l1_14))) else (spec_IsReduction.j0 k true a0_0 a0_1 l0_2 a1_0 a1_1 l1_2 a1_3 a1_4 l1_5 a1_6 a1_7 l1_8 a1_9 a1_10 l1_11 a1_12 a1_13 l1_14))) else (spec_IsReduction.j0 k true a0_0 a0_1 l0_2 a1_0 a1_1 l1_2 a1_3 a1_4 l1_5 a1_6 a1_7 l1_8 a1_9 a1_10 l1_11 a1_12 a1_13 l1_14)) = some r := H
  have A6 := am_ A60
  clear A60
  by_cases c7 : t197 = true
  ·subst c7
   have H1 : ((spec_IsMatrix.f k a1_0 a1_1 l1_2).bind fun t198 => (if t198 = true then ((spec_IsMatrix.f k a1_3 a1_4 l1_5).bind fun t199 => (if t199 = true then ((spec_IsMatrix.f k a1_6 a1_7 l1_8).bind fun t200 => (if t200 = true then ((spec_IsMatrix.f k a1_9 a1_10 l1_11).bind fun t201 => (if t201 = true then ((spec_IsMatrix.f k a1_12 a1_13 l1_14).bind fun t202 => (spec_IsReduction.j0 k (!t202) a0_0 a0_1 l0_2 a1_0 a1_1 l1_2 a1_3 a1_4 l1_5 a1_6 a1_7 l1_8 a1_9 a1_10 l1_11 a1_12 a1_13 l1_14)) else (spec_IsReduction.j0 k true a0_0 a0_1 l0_2 a1_0 a1_1 l1_2 a1_3 a1_4 l1_5 a1_6 a1_7 l1_8 a1_9 a1_10 l1_11 a1_12 a1_13 l1_14))) else (spec_IsReduction.j0 k true a0_0 a0_1 l0_2 a1_0 a1_1 l1_2 a1_3 a1_4 l1_5 a1_6 a1_7 l1_8 a1_9 a1_10 l1_11 a1_12 a1_13 l1_14))) else (spec_IsReduction.j0 k true a0_0 a0_1 l0_2 a1_0 a1_1 l1_2 a1_3 a1_4 l1_5 a1_6 a1_7 l1_8 a1_9 a1_10 l1_11 a1_12 a1_13 l1_14))) else (spec_IsReduction.j0 k true a0_0 a0_1 l0_2 a1_0 a1_1 l1_2 a1_3 a1_4 l1_5 a1_6 a1_7 l1_8 a1_9 a1_10 l1_11 a1_12 a1_13 l1_14))) = some r := by rw [if_pos rfl] at H; exact H
   clear H
   have H := H1
   clear H1
   replace H := Option.bind_eq_some_iff.mp H
   obtain ⟨t198, A80, H⟩ := H
   replace H : (if t198 = true then ((spec_IsMatrix.f k a1_3 a1_4 l1_5).bind fun t199 => (if t199 = true then ((spec_IsMatrix.f k a1_6 a1_7 l1_8).bind fun t200 => (if t200 = true then ((spec_IsMatrix.f k a1_9 a1_10 l1_11).bind fun t201 => (if t201 = true then ((spec_IsMatrix.f k a1_12 a1_13 l1_14).bind fun t202 => (spec_IsReduction.j0 k (!t202) a0_0 a0_1 l0_2 a1_0 a1_1 l1_2 a1_3 a1_4 l1_5 a1_6 a1_7 l1_8 a1_9 a1_10 l1_11 a1_12 a1_13 l1_14)) else (spec_IsReduction.j0 k true a0_0 a0_1 l0_2 a1_0 a1_1 l1_2 a1_3 a1_4 l1_5 a1_6 a1_7 l1_8 a1_9 a1_10 l1_11 a1_12 a1_13 l1_14))) else (spec_IsReduction.j0 k true a0_0 a0_1 l0_2 a1_0 a1_1 l1_2 a1_3 a1_4 l1_5 a1_6 a1_7 l1_8 a1_9 a1_10 l1_11 a1_12 a1_13 l1_14))) else (spec_IsReduction.j0 k true a0_0 a0_1 l0_2 a1_0 a1_1 l1_2 a1_3 a1_4 l1_5 a1_6 a1_7 l1_8 a1_9 a1_10 l1_11 a1_12 a1_13 l1_14))) else (spec_IsReduction.j0 k true a0_0 a0_1 l0_2 a1_0 a1_1 l1_2 a1_3 a1_4 l1_5 a1_6 a1_7 l1_8 a1_9 a1_10 l1_11 a1_12 a1_13 l1_14)) = some r := H
   have A8 := am_ A80
   clear A80
   by_cases c9 : t198 = true
   ·subst c9
    have H1 : ((spec_IsMatrix.f k a1_3 a1_4 l1_5).bind fun t199 => (if t199 = true then ((spec_IsMatrix.f k a1_6 a1_7 l1_8).bind fun t200 => (if t200 = true then ((spec_IsMatrix.f k a1_9 a1_10 l1_11).bind fun t201 => (if t201 = true then ((spec_IsMatrix.f k a1_12 a1_13 l1_14).bind fun t202 => (spec_IsReduction.j0 k (!t202) a0_0 a0_1 l0_2 a1_0 a1_1 l1_2 a1_3 a1_4 l1_5 a1_6 a1_7 l1_8 a1_9 a1_10 l1_11 a1_12 a1_13 l1_14)) else (spec_IsReduction.j0 k true a0_0 a0_1 l0_2 a1_0 a1_1 l1_2 a1_3 a1_4 l1_5 a1_6 a1_7 l1_8 a1_9 a1_10 l1_11 a1_12 a1_13 l1_14))) else (spec_IsReduction.j0 k true a0_0 a0_1 l0_2 a1_0 a1_1 l1_2 a1_3 a1_4 l1_5 a1_6 a1_7 l1_8 a1_9 a1_10 l1_11 a1_12 a1_13 l1_14))) else (spec_IsReduction.j0 k true a0_0 a0_1 l0_2 a1_0 a1_1 l1_2 a1_3 a1_4 l1_5 a1_6 a1_7 l1_8 a1_9 a1_10 l1_11 a1_12 a1_13 l1_14))) = some r := by rw [if_pos rfl] at H; exact H
    clear H
    have H := H1
    clear H1
    replace H := Option.bind_eq_some_iff.mp H
    obtain ⟨t199, A100, H⟩ := H
    replace H : (if t199 = true then ((spec_IsMatrix.f k a1_6 a1_7 l1_8).bind fun t200 => (if t200 = true then ((spec_IsMatrix.f k a1_9 a1_10 l1_11).bind fun t201 => (if t201 = true then ((spec_IsMatrix.f k a1_12 a1_13 l1_14).bind fun t202 => (spec_IsReduction.j0 k (!t202) a0_0 a0_1 l0_2 a1_0 a1_1 l1_2 a1_3 a1_4 l1_5 a1_6 a1_7 l1_8 a1_9 a1_10 l1_11 a1_12 a1_13 l1_14)) else (spec_IsReduction.j0 k true a0_0 a0_1 l0_2 a1_0 a1_1 l1_2 a1_3 a1_4 l1_5 a1_6 a1_7 l1_8 a1_9 a1_10 l1_11 a1_12 a1_13 l1_14))) else (spec_IsReduction.j0 k true a0_0 a0_1 l0_2 a1_0 a1_1 l1_2 a1_3 a1_4 l1_5 a1_6 a1_7 l1_8 a1_9 a1_10 l1_11 a1_12 a1_13 l1_14))) else (spec_IsReduction.j0 k true a0_0 a0_1 l0_2 a1_0 a1_1 l1_2 a1_3 a1_4 l1_5 a1_6 a1_7 l1_8 a1_9 a1_10 l1_11 a1_12 a1_13 l1_14)) = some r := H
    have A10 := am_ A100
    clear A100
    by_cases c11 : t199 = true
    ·subst c11
     have H1 : ((spec_IsMatrix.f k a1_6 a1_7 l1_8).bind fun t200 => (if t200 = true then ((spec_IsMatrix.f k a1_9 a1_10 l1_11).bind fun t201 => (if t201 = true then ((spec_IsMatrix.f k a1_12 a1_13 l1_14).bind fun t202 => (spec_IsReduction.j0 k (!t202) a0_0 a0_1 l0_2 a1_0 a1_1 l1_2 a1_3 a1_4 l1_5 a1_6 a1_7 l1_8 a1_9 a1_10 l1_11 a1_12 a1_13 l1_14)) else (spec_IsReduction.j0 k true a0_0 a0_1 l0_2 a1_0 a1_1 l1_2 a1_3 a1_4 l1_5 a1_6 a1_7 l1_8 a1_9 a1_10 l1_11 a1_12 a1_13 l1_14))) else (spec_IsReduction.j0 k true a0_0 a0_1 l0_2 a1_0 a1_1 l1_2 a1_3 a1_4 l1_5 a1_6 a1_7 l1_8 a1_9 a1_10 l1_11 a1_12 a1_13 l1_14))) = some r := by rw [if_pos rfl] at H; exact H
     clear H
     have H := H1
     clear H1
     replace H := Option.bind_eq_some_iff.mp H
     obtain ⟨t200, A120, H⟩ := H
     replace H : (if t200 = true then ((spec_IsMatrix.f k a1_9 a1_10 l1_11).bind fun t201 => (if t201 = true then ((spec_IsMatrix.f k a1_12 a1_13 l1_14).bind fun t202 => (spec_IsReduction.j0 k (!t202) a0_0 a0_1 l0_2 a1_0 a1_1 l1_2 a1_3 a1_4 l1_5 a1_6 a1_7 l1_8 a1_9 a1_10 l1_11 a1_12 a1_13 l1_14)) else (spec_IsReduction.j0 k true a0_0 a0_1 l0_2 a1_0 a1_1 l1_2 a1_3 a1_4 l1_5 a1_6 a1_7 l1_8 a1_9 a1_10 l1_11 a1_12 a1_13 l1_14))) else (spec_IsReduction.j0 k true a0_0 a0_1 l0_2 a1_0 a1_1 l1_2 a1_3 a1_4 l1_5 a1_6 a1_7 l1_8 a1_9 a1_10 l1_11 a1_12 a1_13 l1_14)) = some r := H
     have A12 := am_ A120
     clear A120
     by_cases c13 : t200 = true
     ·subst c13
      have H1 : ((spec_IsMatrix.f k a1_9 a1_10 l1_11).bind fun t201 => (if t201 = true then ((spec_IsMatrix.f k a1_12 a1_13 l1_14).bind fun t202 => (spec_IsReduction.j0 k (!t202) a0_0 a0_1 l0_2 a1_0 a1_1 l1_2 a1_3 a1_4 l1_5 a1_6 a1_7 l1_8 a1_9 a1_10 l1_11 a1_12 a1_13 l1_14)) else (spec_IsReduction.j0 k true a0_0 a0_1 l0_2 a1_0 a1_1 l1_2 a1_3 a1_4 l1_5 a1_6 a1_7 l1_8 a1_9 a1_10 l1_11 a1_12 a1_13 l1_14))) = some r := by rw [if_pos rfl] at H; exact H
      clear H
      have H := H1
      clear H1
      replace H := Option.bind_eq_some_iff.mp H
      obtain ⟨t201, A140, H⟩ := H
      replace H : (if t201 = true then ((spec_IsMatrix.f k a1_12 a1_13 l1_14).bind fun t202 => (spec_IsReduction.j0 k (!t202) a0_0 a0_1 l0_2 a1_0 a1_1 l1_2 a1_3 a1_4 l1_5 a1_6 a1_7 l1_8 a1_9 a1_10 l1_11 a1_12 a1_13 l1_14)) else (spec_IsReduction.j0 k true a0_0 a0_1 l0_2 a1_0 a1_1 l1_2 a1_3 a1_4 l1_5 a1_6 a1_7 l1_8 a1_9 a1_10 l1_11 a1_12 a1_13 l1_14)) = some r := H
      have A14 := am_ A140
      clear A140
      by_cases c15 : t201 = true
      ·subst c15
       have H1 : ((spec_IsMatrix.f k a1_12 a1_13 l1_14).bind fun t202 => (spec_IsReduction.j0 k (!t202) a0_0 a0_1 l0_2 a1_0 a1_1 l1_2 a1_3 a1_4 l1_5 a1_6 a1_7 l1_8 a1_9 a1_10 l1_11 a1_12 a1_13 l1_14)) = some r := by rw [if_pos rfl] at H; exact H
       clear H
       have H := H1
       clear H1
       replace H := Option.bind_eq_some_iff.mp H
       obtain ⟨t202, A160, H⟩ := H
       replace H : (spec_IsReduction.j0 k (!t202) a0_0 a0_1 l0_2 a1_0 a1_1 l1_2 a1_3 a1_4 l1_5 a1_6 a1_7 l1_8 a1_9 a1_10 l1_11 a1_12 a1_13 l1_14) = some r := H
       have A16 := am_ A160
       clear A160
       have H' := am_ H
       clear H
       have hnb17 := NB195_196.out
       have hnc17 := NB196_195.out
       obtain ⟨hcz18_0, hcz18_1, hcz18_2, hfz18_0, hfz18_1, hfz18_2⟩ := bx3_ BK195
       go_wp2_with (first | ((with_reducible refine gate_callee (f := 23) rfl ?_); refine goesL_ (some 10) rfl rfl Try.func23 (by kernel_rfl) rfl #[.agg #[.int .i64 a0_0, .int .i64 a0_1, .slice A0_2 l0_2.length c0_2]] rfl lm_ ?_; (with_reducible refine (spec_IsMatrix.calls k a0_0 a0_1 _ _ l0_2 true _ ?side1 ?side2 A6.out).mono ?_); (case side1 => repeat (first | exact (Kd.C_below HR0_2.out HB.out) | (with_reducible refine Kd.C_alloc ?_ _) | (with_reducible refine Kd.C_drewN ?_ _) | (with_reducible refine Kd.C_drew ?_))); (case side2 => exact HC0_2.out); rintro e w19 ⟨rfl, hb⟩; refine ⟨_, rfl, ?_⟩; have n0_ := am_ (bw_ BK195 hb); have n1_ := am_ (bw_ BK196 hb); have n2_ := am_ (below_step (bb_ HB.out) hb); clear BK195 BK196 HB; revert n0_ n1_ n2_; intro BK195 BK196 HB; (try clear hb); (try clear hb2); (try clear hk); (try clear hi); obtain ⟨hcz20_0, hcz20_1, hcz20_2, hcz20_3, hcz20_4, hcz20_5, hcz20_6, hcz20_7, hcz20_8, hcz20_9, hcz20_10, hcz20_11, hcz20_12, hcz20_13, hcz20_14, hfz20_0, hfz20_1, hfz20_2, hfz20_3, hfz20_4, hfz20_5, hfz20_6, hfz20_7, hfz20_8, hfz20_9, hfz20_10, hfz20_11, hfz20_12, hfz20_13, hfz20_14⟩ := bx15_ BK196) | (go_at_call 23; (with_reducible refine (spec_IsMatrix.calls k a1_0 a1_1 _ _ l1_2 true _ ?side1 ?side2 A8.out).mono ?_); (case side1 => repeat (first | exact (Kd.C_below HR1_2.out HB.out) | (with_reducible refine Kd.C_alloc ?_ _) | (with_reducible refine Kd.C_drewN ?_ _) | (with_reducible refine Kd.C_drew ?_))); (case side2 => exact HC1_2.out); rintro e w21 ⟨rfl, hb⟩; have n0_ := am_ (bw_ BK195 hb); have n1_ := am_ (bw_ BK196 hb); have n2_ := am_ (below_step (bb_ HB.out) hb); clear BK195 BK196 HB; revert n0_ n1_ n2_; intro BK195 BK196 HB; (try clear hb); (try clear hb2); (try clear hk); (try clear hi); obtain ⟨hcz22_0, hcz22_1, hcz22_2, hcz22_3, hcz22_4, hcz22_5, hcz22_6, hcz22_7, hcz22_8, hcz22_9, hcz22_10, hcz22_11, hcz22_12, hcz22_13, hcz22_14, hfz22_0, hfz22_1, hfz22_2, hfz22_3, hfz22_4, hfz22_5, hfz22_6, hfz22_7, hfz22_8, hfz22_9, hfz22_10, hfz22_11, hfz22_12, hfz22_13, hfz22_14⟩ := bx15_ BK196) | (go_at_call 23; (with_reducible refine (spec_IsMatrix.calls k a1_3 a1_4 _ _ l1_5 true _ ?side1 ?side2 A10.out).mono ?_); (case side1 => repeat (first | exact (Kd.C_below HR1_5.out HB.out) | (with_reducible refine Kd.C_alloc ?_ _) | (with_reducible refine Kd.C_drewN ?_ _) | (with_reducible refine Kd.C_drew ?_))); (case side2 => exact HC1_5.out); rintro e w23 ⟨rfl, hb⟩; have n0_ := am_ (bw_ BK195 hb); have n1_ := am_ (bw_ BK196 hb); have n2_ := am_ (below_step (bb_ HB.out) hb); clear BK195 BK196 HB; revert n0_ n1_ n2_; intro BK195 BK196 HB; (try clear hb); (try clear hb2); (try clear hk); (try clear hi); obtain ⟨hcz24_0, hcz24_1, hcz24_2, hcz24_3, hcz24_4, hcz24_5, hcz24_6, hcz24_7, hcz24_8, hcz24_9, hcz24_10, hcz24_11, hcz24_12, hcz24_13, hcz24_14, hfz24_0, hfz24_1, hfz24_2, hfz24_3, hfz24_4, hfz24_5, hfz24_6, hfz24_7, hfz24_8, hfz24_9, hfz24_10, hfz24_11, hfz24_12, hfz24_13, hfz24_14⟩ := bx15_ BK196) | (go_at_call 23; (with_reducible refine (spec_IsMatrix.calls k a1_6 a1_7 _ _ l1_8 true _ ?side1 ?side2 A12.out).mono ?_); (case side1 => repeat (first | exact (Kd.C_below HR1_8.out HB.out) | (with_reducible refine Kd.C_alloc ?_ _) | (with_reducible refine Kd.C_drewN ?_ _) | (with_reducible refine Kd.C_drew ?_))); (case side2 => exact HC1_8.out); rintro e w25 ⟨rfl, hb⟩; have n0_ := am_ (bw_ BK195 hb); have n1_ := am_ (bw_ BK196 hb); have n2_ := am_ (below_step (bb_ HB.out) hb); clear BK195 BK196 HB; revert n0_ n1_ n2_; intro BK195 BK196 HB; (try clear hb); (try clear hb2); (try clear hk); (try clear hi); obtain ⟨hcz26_0, hcz26_1, hcz26_2, hcz26_3, hcz26_4, hcz26_5, hcz26_6, hcz26_7, hcz26_8, hcz26_9, hcz26_10, hcz26_11, hcz26_12, hcz26_13, hcz26_14, hfz26_0, hfz26_1, hfz26_2, hfz26_3, hfz26_4, hfz26_5, hfz26_6, hfz26_7, hfz26_8, hfz26_9, hfz26_10, hfz26_11, hfz26_12, hfz26_13, hfz26_14⟩ := bx15_ BK196) | (go_at_call 23; (with_reducible refine (spec_IsMatrix.calls k a1_9 a1_10 _ _ l1_11 true _ ?side1 ?side2 A14.out).mono ?_); (case side1 => repeat (first | exact (Kd.C_below HR1_11.out HB.out) | (with_reducible refine Kd.C_alloc ?_ _) | (with_reducible refine Kd.C_drewN ?_ _) | (with_reducible refine Kd.C_drew ?_))); (case side2 => exact HC1_11.out); rintro e w27 ⟨rfl, hb⟩; have n0_ := am_ (bw_ BK195 hb); have n1_ := am_ (bw_ BK196 hb); have n2_ := am_ (below_step (bb_ HB.out) hb); clear BK195 BK196 HB; revert n0_ n1_ n2_; intro BK195 BK196 HB; (try clear hb); (try clear hb2); (try clear hk); (try clear hi); obtain ⟨hcz28_0, hcz28_1, hcz28_2, hcz28_3, hcz28_4, hcz28_5, hcz28_6, hcz28_7, hcz28_8, hcz28_9, hcz28_10, hcz28_11, hcz28_12, hcz28_13, hcz28_14, hfz28_0, hfz28_1, hfz28_2, hfz28_3, hfz28_4, hfz28_5, hfz28_6, hfz28_7, hfz28_8, hfz28_9, hfz28_10, hfz28_11, hfz28_12, hfz28_13, hfz28_14⟩ := bx15_ BK196) | (go_at_call 23; (with_reducible refine (spec_IsMatrix.calls k a1_12 a1_13 _ _ l1_14 t202 _ ?side1 ?side2 A16.out).mono ?_); (case side1 => repeat (first | exact (Kd.C_below HR1_14.out HB.out) | (with_reducible refine Kd.C_alloc ?_ _) | (with_reducible refine Kd.C_drewN ?_ _) | (with_reducible refine Kd.C_drew ?_))); (case side2 => exact HC1_14.out); rintro e w29 ⟨rfl, hb⟩; have n0_ := am_ (bw_ BK195 hb); have n1_ := am_ (bw_ BK196 hb); have n2_ := am_ (below_step (bb_ HB.out) hb); clear BK195 BK196 HB; revert n0_ n1_ n2_; intro BK195 BK196 HB; (try clear hb); (try clear hb2); (try clear hk); (try clear hi)))
       go_meet
       case rel => exact ⟨_, (!t202), (by first | rfl | (simp; done) | (simp [*]; done)), H', ⟨by first | omega | exact Nat.le_refl _⟩, ⟨bk_ BK195.out⟩, ⟨bk_ BK196.out⟩, ⟨bb_ HB.out⟩⟩
      ·replace c15 := Bool.eq_false_iff.mpr c15
       subst c15
       have H1 : (spec_IsReduction.j0 k true a0_0 a0_1 l0_2 a1_0 a1_1 l1_2 a1_3 a1_4 l1_5 a1_6 a1_7 l1_8 a1_9 a1_10 l1_11 a1_12 a1_13 l1_14) = some r := by rw [if_neg (show ¬ (false = true) by decide)] at H; exact H
       clear H
       have H := H1
       clear H1
       have H' := am_ H
       clear H
       have hnb30 := NB195_196.out
       have hnc30 := NB196_195.out
       obtain ⟨hcz31_0, hcz31_1, hcz31_2, hfz31_0, hfz31_1, hfz31_2⟩ := bx3_ BK195
       go_wp2_with (first | ((with_reducible refine gate_callee (f := 23) rfl ?_); refine goesL_ (some 10) rfl rfl Try.func23 (by kernel_rfl) rfl #[.agg #[.int .i64 a0_0, .int .i64 a0_1, .slice A0_2 l0_2.length c0_2]] rfl lm_ ?_; (with_reducible refine (spec_IsMatrix.calls k a0_0 a0_1 _ _ l0_2 true _ ?side1 ?side2 A6.out).mono ?_); (case side1 => repeat (first | exact (Kd.C_below HR0_2.out HB.out) | (with_reducible refine Kd.C_alloc ?_ _) | (with_reducible refine Kd.C_drewN ?_ _) | (with_reducible refine Kd.C_drew ?_))); (case side2 => exact HC0_2.out); rintro e w32 ⟨rfl, hb⟩; refine ⟨_, rfl, ?_⟩; have n0_ := am_ (bw_ BK195 hb); have n1_ := am_ (bw_ BK196 hb); have n2_ := am_ (below_step (bb_ HB.out) hb); clear BK195 BK196 HB; revert n0_ n1_ n2_; intro BK195 BK196 HB; (try clear hb); (try clear hb2); (try clear hk); (try clear hi); obtain ⟨hcz33_0, hcz33_1, hcz33_2, hcz33_3, hcz33_4, hcz33_5, hcz33_6, hcz33_7, hcz33_8, hcz33_9, hcz33_10, hcz33_11, hcz33_12, hcz33_13, hcz33_14, hfz33_0, hfz33_1, hfz33_2, hfz33_3, hfz33_4, hfz33_5, hfz33_6, hfz33_7, hfz33_8, hfz33_9, hfz33_10, hfz33_11, hfz33_12, hfz33_13, hfz33_14⟩ := bx15_ BK196) | (go_at_call 23; (with_reducible refine (spec_IsMatrix.calls k a1_0 a1_1 _ _ l1_2 true _ ?side1 ?side2 A8.out).mono ?_); (case side1 => repeat (first | exact (Kd.C_below HR1_2.out HB.out) | (with_reducible refine Kd.C_alloc ?_ _) | (with_reducible refine Kd.C_drewN ?_ _) | (with_reducible refine Kd.C_drew ?_))); (case side2 => exact HC1_2.out); rintro e w34 ⟨rfl, hb⟩; have n0_ := am_ (bw_ BK195 hb); have n1_ := am_ (bw_ BK196 hb); have n2_ := am_ (below_step (bb_ HB.out) hb); clear BK195 BK196 HB; revert n0_ n1_ n2_; intro BK195 BK196 HB; (try clear hb); (try clear hb2); (try clear hk); (try clear hi); obtain ⟨hcz35_0, hcz35_1, hcz35_2, hcz35_3, hcz35_4, hcz35_5, hcz35_6, hcz35_7, hcz35_8, hcz35_9, hcz35_10, hcz35_11, hcz35_12, hcz35_13, hcz35_14, hfz35_0, hfz35_1, hfz35_2, hfz35_3, hfz35_4, hfz35_5, hfz35_6, hfz35_7, hfz35_8, hfz35_9, hfz35_10, hfz35_11, hfz35_12, hfz35_13, hfz35_14⟩ := bx15_ BK196) | (go_at_call 23; (with_reducible refine (spec_IsMatrix.calls k a1_3 a1_4 _ _ l1_5 true _ ?side1 ?side2 A10.out).mono ?_); (case side1 => repeat (first | exact (Kd.C_below HR1_5.out HB.out) | (with_reducible refine Kd.C_alloc ?_ _) | (with_reducible refine Kd.C_drewN ?_ _) | (with_reducible refine Kd.C_drew ?_))); (case side2 => exact HC1_5.out); rintro e w36 ⟨rfl, hb⟩; have n0_ := am_ (bw_ BK195 hb); have n1_ := am_ (bw_ BK196 hb); have n2_ := am_ (below_step (bb_ HB.out) hb); clear BK195 BK196 HB; revert n0_ n1_ n2_; intro BK195 BK196 HB; (try clear hb); (try clear hb2); (try clear hk); (try clear hi); obtain ⟨hcz37_0, hcz37_1, hcz37_2, hcz37_3, hcz37_4, hcz37_5, hcz37_6, hcz37_7, hcz37_8, hcz37_9, hcz37_10, hcz37_11, hcz37_12, hcz37_13, hcz37_14, hfz37_0, hfz37_1, hfz37_2, hfz37_3, hfz37_4, hfz37_5, hfz37_6, hfz37_7, hfz37_8, hfz37_9, hfz37_10, hfz37_11, hfz37_12, hfz37_13, hfz37_14⟩ := bx15_ BK196) | (go_at_call 23; (with_reducible refine (spec_IsMatrix.calls k a1_6 a1_7 _ _ l1_8 true _ ?side1 ?side2 A12.out).mono ?_); (case side1 => repeat (first | exact (Kd.C_below HR1_8.out HB.out) | (with_reducible refine Kd.C_alloc ?_ _) | (with_reducible refine Kd.C_drewN ?_ _) | (with_reducible refine Kd.C_drew ?_))); (case side2 => exact HC1_8.out); rintro e w38 ⟨rfl, hb⟩; have n0_ := am_ (bw_ BK195 hb); have n1_ := am_ (bw_ BK196 hb); have n2_ := am_ (below_step (bb_ HB.out) hb); clear BK195 BK196 HB; revert n0_ n1_ n2_; intro BK195 BK196 HB; (try clear hb); (try clear hb2); (try clear hk); (try clear hi); obtain ⟨hcz39_0, hcz39_1, hcz39_2, hcz39_3, hcz39_4, hcz39_5, hcz39_6, hcz39_7, hcz39_8, hcz39_9, hcz39_10, hcz39_11, hcz39_12, hcz39_13, hcz39_14, hfz39_0, hfz39_1, hfz39_2, hfz39_3, hfz39_4, hfz39_5, hfz39_6, hfz39_7, hfz39_8, hfz39_9, hfz39_10, hfz39_11, hfz39_12, hfz39_13, hfz39_14⟩ := bx15_ BK196) | (go_at_call 23; (with_reducible refine (spec_IsMatrix.calls k a1_9 a1_10 _ _ l1_11 false _ ?side1 ?side2 A14.out).mono ?_); (case side1 => repeat (first | exact (Kd.C_below HR1_11.out HB.out) | (with_reducible refine Kd.C_alloc ?_ _) | (with_reducible refine Kd.C_drewN ?_ _) | (with_reducible refine Kd.C_drew ?_))); (case side2 => exact HC1_11.out); rintro e w40 ⟨rfl, hb⟩; have n0_ := am_ (bw_ BK195 hb); have n1_ := am_ (bw_ BK196 hb); have n2_ := am_ (below_step (bb_ HB.out) hb); clear BK195 BK196 HB; revert n0_ n1_ n2_; intro BK195 BK196 HB; (try clear hb); (try clear hb2); (try clear hk); (try clear hi)))
       go_meet
       case rel => exact ⟨_, (true), (by first | rfl | (simp; done) | (simp [*]; done)), H', ⟨by first | omega | exact Nat.le_refl _⟩, ⟨bk_ BK195.out⟩, ⟨bk_ BK196.out⟩, ⟨bb_ HB.out⟩⟩
     ·replace c13 := Bool.eq_false_iff.mpr c13
      subst c13
      have H1 : (spec_IsReduction.j0 k true a0_0 a0_1 l0_2 a1_0 a1_1 l1_2 a1_3 a1_4 l1_5 a1_6 a1_7 l1_8 a1_9 a1_10 l1_11 a1_12 a1_13 l1_14) = some r := by rw [if_neg (show ¬ (false = true) by decide)] at H; exact H
      clear H
      have H := H1
      clear H1
      have H' := am_ H
      clear H
      have hnb41 := NB195_196.out
      have hnc41 := NB196_195.out
      obtain ⟨hcz42_0, hcz42_1, hcz42_2, hfz42_0, hfz42_1, hfz42_2⟩ := bx3_ BK195
      go_wp2_with (first | ((with_reducible refine gate_callee (f := 23) rfl ?_); refine goesL_ (some 10) rfl rfl Try.func23 (by kernel_rfl) rfl #[.agg #[.int .i64 a0_0, .int .i64 a0_1, .slice A0_2 l0_2.length c0_2]] rfl lm_ ?_; (with_reducible refine (spec_IsMatrix.calls k a0_0 a0_1 _ _ l0_2 true _ ?side1 ?side2 A6.out).mono ?_); (case side1 => repeat (first | exact (Kd.C_below HR0_2.out HB.out) | (with_reducible refine Kd.C_alloc ?_ _) | (with_reducible refine Kd.C_drewN ?_ _) | (with_reducible refine Kd.C_drew ?_))); (case side2 => exact HC0_2.out); rintro e w43 ⟨rfl, hb⟩; refine ⟨_, rfl, ?_⟩; have n0_ := am_ (bw_ BK195 hb); have n1_ := am_ (bw_ BK196 hb); have n2_ := am_ (below_step (bb_ HB.out) hb); clear BK195 BK196 HB; revert n0_ n1_ n2_; intro BK195 BK196 HB; (try clear hb); (try clear hb2); (try clear hk); (try clear hi); obtain ⟨hcz44_0, hcz44_1, hcz44_2, hcz44_3, hcz44_4, hcz44_5, hcz44_6, hcz44_7, hcz44_8, hcz44_9, hcz44_10, hcz44_11, hcz44_12, hcz44_13, hcz44_14, hfz44_0, hfz44_1, hfz44_2, hfz44_3, hfz44_4, hfz44_5, hfz44_6, hfz44_7, hfz44_8, hfz44_9, hfz44_10, hfz44_11, hfz44_12, hfz44_13, hfz44_14⟩ := bx15_ BK196) | (go_at_call 23; (with_reducible refine (spec_IsMatrix.calls k a1_0 a1_1 _ _ l1_2 true _ ?side1 ?side2 A8.out).mono ?_); (case side1 => repeat (first | exact (Kd.C_below HR1_2.out HB.out) | (with_reducible refine Kd.C_alloc ?_ _) | (with_reducible refine Kd.C_drewN ?_ _) | (with_reducible refine Kd.C_drew ?_))); (case side2 => exact HC1_2.out); rintro e w45 ⟨rfl, hb⟩; have n0_ := am_ (bw_ BK195 hb); have n1_ := am_ (bw_ BK196 hb); have n2_ := am_ (below_step (bb_ HB.out) hb); clear BK195 BK196 HB; revert n0_ n1_ n2_; intro BK195 BK196 HB; (try clear hb); (try clear hb2); (try clear hk); (try clear hi); obtain ⟨hcz46_0, hcz46_1, hcz46_2, hcz46_3, hcz46_4, hcz46_5, hcz46_6, hcz46_7, hcz46_8, hcz46_9, hcz46_10, hcz46_11, hcz46_12, hcz46_13, hcz46_14, hfz46_0, hfz46_1, hfz46_2, hfz46_3, hfz46_4, hfz46_5, hfz46_6, hfz46_7, hfz46_8, hfz46_9, hfz46_10, hfz46_11, hfz46_12, hfz46_13, hfz46_14⟩ := bx15_ BK196) | (go_at_call 23; (with_reducible refine (spec_IsMatrix.calls k a1_3 a1_4 _ _ l1_5 true _ ?side1 ?side2 A10.out).mono ?_); (case side1 => repeat (first | exact (Kd.C_below HR1_5.out HB.out) | (with_reducible refine Kd.C_alloc ?_ _) | (with_reducible refine Kd.C_drewN ?_ _) | (with_reducible refine Kd.C_drew ?_))); (case side2 => exact HC1_5.out); rintro e w47 ⟨rfl, hb⟩; have n0_ := am_ (bw_ BK195 hb); have n1_ := am_ (bw_ BK196 hb); have n2_ := am_ (below_step (bb_ HB.out) hb); clear BK195 BK196 HB; revert n0_ n1_ n2_; intro BK195 BK196 HB; (try clear hb); (try clear hb2); (try clear hk); (try clear hi); obtain ⟨hcz48_0, hcz48_1, hcz48_2, hcz48_3, hcz48_4, hcz48_5, hcz48_6, hcz48_7, hcz48_8, hcz48_9, hcz48_10, hcz48_11, hcz48_12, hcz48_13, hcz48_14, hfz48_0, hfz48_1, hfz48_2, hfz48_3, hfz48_4, hfz48_5, hfz48_6, hfz48_7, hfz48_8, hfz48_9, hfz48_10, hfz48_11, hfz48_12, hfz48_13, hfz48_14⟩ := bx15_ BK196) | (go_at_call 23; (with_reducible refine (spec_IsMatrix.calls k a1_6 a1_7 _ _ l1_8 false _ ?side1 ?side2 A12.out).mono ?_); (case side1 => repeat (first | exact (Kd.C_below HR1_8.out HB.out) | (with_reducible refine Kd.C_alloc ?_ _) | (with_reducible refine Kd.C_drewN ?_ _) | (with_reducible refine Kd.C_drew ?_))); (case side2 => exact HC1_8.out); rintro e w49 ⟨rfl, hb⟩; have n0_ := am_ (bw_ BK195 hb); have n1_ := am_ (bw_ BK196 hb); have n2_ := am_ (below_step (bb_ HB.out) hb); clear BK195 BK196 HB; revert n0_ n1_ n2_; intro BK195 BK196 HB; (try clear hb); (try clear hb2); (try clear hk); (try clear hi)))
      go_meet
      case rel => exact ⟨_, (true), (by first | rfl | (simp; done) | (simp [*]; done)), H', ⟨by first | omega | exact Nat.le_refl _⟩, ⟨bk_ BK195.out⟩, ⟨bk_ BK196.out⟩, ⟨bb_ HB.out⟩⟩
    ·replace c11 := Bool.eq_false_iff.mpr c11
     subst c11
     have H1 : (spec_IsReduction.j0 k true a0_0 a0_1 l0_2 a1_0 a1_1 l1_2 a1_3 a1_4 l1_5 a1_6 a1_7 l1_8 a1_9 a1_10 l1_11 a1_12 a1_13 l1_14) = some r := by rw [if_neg (show ¬ (false = true) by decide)] at H; exact H
     clear H
     have H := H1
     clear H1
     have H' := am_ H
     clear H
     have hnb50 := NB195_196.out
     have hnc50 := NB196_195.out
     obtain ⟨hcz51_0, hcz51_1, hcz51_2, hfz51_0, hfz51_1, hfz51_2⟩ := bx3_ BK195
     go_wp2_with (first | ((with_reducible refine gate_callee (f := 23) rfl ?_); refine goesL_ (some 10) rfl rfl Try.func23 (by kernel_rfl) rfl #[.agg #[.int .i64 a0_0, .int .i64 a0_1, .slice A0_2 l0_2.length c0_2]] rfl lm_ ?_; (with_reducible refine (spec_IsMatrix.calls k a0_0 a0_1 _ _ l0_2 true _ ?side1 ?side2 A6.out).mono ?_); (case side1 => repeat (first | exact (Kd.C_below HR0_2.out HB.out) | (with_reducible refine Kd.C_alloc ?_ _) | (with_reducible refine Kd.C_drewN ?_ _) | (with_reducible refine Kd.C_drew ?_))); (case side2 => exact HC0_2.out); rintro e w52 ⟨rfl, hb⟩; refine ⟨_, rfl, ?_⟩; have n0_ := am_ (bw_ BK195 hb); have n1_ := am_ (bw_ BK196 hb); have n2_ := am_ (below_step (bb_ HB.out) hb); clear BK195 BK196 HB; revert n0_ n1_ n2_; intro BK195 BK196 HB; (try clear hb); (try clear hb2); (try clear hk); (try clear hi); obtain ⟨hcz53_0, hcz53_1, hcz53_2, hcz53_3, hcz53_4, hcz53_5, hcz53_6, hcz53_7, hcz53_8, hcz53_9, hcz53_10, hcz53_11, hcz53_12, hcz53_13, hcz53_14, hfz53_0, hfz53_1, hfz53_2, hfz53_3, hfz53_4, hfz53_5, hfz53_6, hfz53_7, hfz53_8, hfz53_9, hfz53_10, hfz53_11, hfz53_12, hfz53_13, hfz53_14⟩ := bx15_ BK196) | (go_at_call 23; (with_reducible refine (spec_IsMatrix.calls k a1_0 a1_1 _ _ l1_2 true _ ?side1 ?side2 A8.out).mono ?_); (case side1 => repeat (first | exact (Kd.C_below HR1_2.out HB.out) | (with_reducible refine Kd.C_alloc ?_ _) | (with_reducible refine Kd.C_drewN ?_ _) | (with_reducible refine Kd.C_drew ?_))); (case side2 => exact HC1_2.out); rintro e w54 ⟨rfl, hb⟩; have n0_ := am_ (bw_ BK195 hb); have n1_ := am_ (bw_ BK196 hb); have n2_ := am_ (below_step (bb_ HB.out) hb); clear BK195 BK196 HB; revert n0_ n1_ n2_; intro BK195 BK196 HB; (try clear hb); (try clear hb2); (try clear hk); (try clear hi); obtain ⟨hcz55_0, hcz55_1, hcz55_2, hcz55_3, hcz55_4, hcz55_5, hcz55_6, hcz55_7, hcz55_8, hcz55_9, hcz55_10, hcz55_11, hcz55_12, hcz55_13, hcz55_14, hfz55_0, hfz55_1, hfz55_2, hfz55_3, hfz55_4, hfz55_5, hfz55_6, hfz55_7, hfz55_8, hfz55_9, hfz55_10, hfz55_11, hfz55_12, hfz55_13, hfz55_14⟩ := bx15_ BK196) | (go_at_call 23; (with_reducible refine (spec_IsMatrix.calls k a1_3 a1_4 _ _ l1_5 false _ ?side1 ?side2 A10.out).mono ?_); (case side1 => repeat (first | exact (Kd.C_below HR1_5.out HB.out) | (with_reducible refine Kd.C_alloc ?_ _) | (with_reducible refine Kd.C_drewN ?_ _) | (with_reducible refine Kd.C_drew ?_))); (case side2 => exact HC1_5.out); rintro e w56 ⟨rfl, hb⟩; have n0_ := am_ (bw_ BK195 hb); have n1_ := am_ (bw_ BK196 hb); have n2_ := am_ (below_step (bb_ HB.out) hb); clear BK195 BK196 HB; revert n0_ n1_ n2_; intro BK195 BK196 HB; (try clear hb); (try clear hb2); (try clear hk); (try clear hi)))
     go_meet
     case rel => exact ⟨_, (true), (by first | rfl | (simp; done) | (simp [*]; done)), H', ⟨by first | omega | exact Nat.le_refl _⟩, ⟨bk_ BK195.out⟩, ⟨bk_ BK196.out⟩, ⟨bb_ HB.out⟩⟩
   ·replace c9 := Bool.eq_false_iff.mpr c9
    subst c9
    have H1 : (spec_IsReduction.j0 k true a0_0 a0_1 l0_2 a1_0 a1_1 l1_2 a1_3 a1_4 l1_5 a1_6 a1_7 l1_8 a1_9 a1_10 l1_11 a1_12 a1_13 l1_14) = some r := by rw [if_neg (show ¬ (false = true) by decide)] at H; exact H
    clear H
    have H := H1
    clear H1
    have H' := am_ H
    clear H
    have hnb57 := NB195_196.out
    have hnc57 := NB196_195.out
    obtain ⟨hcz58_0, hcz58_1, hcz58_2, hfz58_0, hfz58_1, hfz58_2⟩ := bx3_ BK195
    go_wp2_with (first | ((with_reducible refine gate_callee (f := 23) rfl ?_); refine goesL_ (some 10) rfl rfl Try.func23 (by kernel_rfl) rfl #[.agg #[.int .i64 a0_0, .int .i64 a0_1, .slice A0_2 l0_2.length c0_2]] rfl lm_ ?_; (with_reducible refine (spec_IsMatrix.calls k a0_0 a0_1 _ _ l0_2 true _ ?side1 ?side2 A6.out).mono ?_); (case side1 => repeat (first | exact (Kd.C_below HR0_2.out HB.out) | (with_reducible refine Kd.C_alloc ?_ _) | (with_reducible refine Kd.C_drewN ?_ _) | (with_reducible refine Kd.C_drew ?_))); (case side2 => exact HC0_2.out); rintro e w59 ⟨rfl, hb⟩; refine ⟨_, rfl, ?_⟩; have n0_ := am_ (bw_ BK195 hb); have n1_ := am_ (bw_ BK196 hb); have n2_ := am_ (below_step (bb_ HB.out) hb); clear BK195 BK196 HB; revert n0_ n1_ n2_; intro BK195 BK196 HB; (try clear hb); (try clear hb2); (try clear hk); (try clear hi); obtain ⟨hcz60_0, hcz60_1, hcz60_2, hcz60_3, hcz60_4, hcz60_5, hcz60_6, hcz60_7, hcz60_8, hcz60_9, hcz60_10, hcz60_11, hcz60_12, hcz60_13, hcz60_14, hfz60_0, hfz60_1, hfz60_2, hfz60_3, hfz60_4, hfz60_5, hfz60_6, hfz60_7, hfz60_8, hfz60_9, hfz60_10, hfz60_11, hfz60_12, hfz60_13, hfz60_14⟩ := bx15_ BK196) | (go_at_call 23; (with_reducible refine (spec_IsMatrix.calls k a1_0 a1_1 _ _ l1_2 false _ ?side1 ?side2 A8.out).mono ?_); (case side1 => repeat (first | exact (Kd.C_below HR1_2.out HB.out) | (with_reducible refine Kd.C_alloc ?_ _) | (with_reducible refine Kd.C_drewN ?_ _) | (with_reducible refine Kd.C_drew ?_))); (case side2 => exact HC1_2.out); rintro e w61 ⟨rfl, hb⟩; have n0_ := am_ (bw_ BK195 hb); have n1_ := am_ (bw_ BK196 hb); have n2_ := am_ (below_step (bb_ HB.out) hb); clear BK195 BK196 HB; revert n0_ n1_ n2_; intro BK195 BK196 HB; (try clear hb); (try clear hb2); (try clear hk); (try clear hi)))
    go_meet
    case rel => exact ⟨_, (true), (by first | rfl | (simp; done) | (simp [*]; done)), H', ⟨by first | omega | exact Nat.le_refl _⟩, ⟨bk_ BK195.out⟩, ⟨bk_ BK196.out⟩, ⟨bb_ HB.out⟩⟩
  ·replace c7 := Bool.eq_false_iff.mpr c7
   subst c7
   have H1 : (spec_IsReduction.j0 k true a0_0 a0_1 l0_2 a1_0 a1_1 l1_2 a1_3 a1_4 l1_5 a1_6 a1_7 l1_8 a1_9 a1_10 l1_11 a1_12 a1_13 l1_14) = some r := by rw [if_neg (show ¬ (false = true) by decide)] at H; exact H
   clear H
   have H := H1
   clear H1
   have H' := am_ H
   clear H
   have hnb62 := NB195_196.out
   have hnc62 := NB196_195.out
   obtain ⟨hcz63_0, hcz63_1, hcz63_2, hfz63_0, hfz63_1, hfz63_2⟩ := bx3_ BK195
   go_wp2_with (first | ((with_reducible refine gate_callee (f := 23) rfl ?_); refine goesL_ (some 10) rfl rfl Try.func23 (by kernel_rfl) rfl #[.agg #[.int .i64 a0_0, .int .i64 a0_1, .slice A0_2 l0_2.length c0_2]] rfl lm_ ?_; (with_reducible refine (spec_IsMatrix.calls k a0_0 a0_1 _ _ l0_2 false _ ?side1 ?side2 A6.out).mono ?_); (case side1 => repeat (first | exact (Kd.C_below HR0_2.out HB.out) | (with_reducible refine Kd.C_alloc ?_ _) | (with_reducible refine Kd.C_drewN ?_ _) | (with_reducible refine Kd.C_drew ?_))); (case side2 => exact HC0_2.out); rintro e w64 ⟨rfl, hb⟩; refine ⟨_, rfl, ?_⟩; have n0_ := am_ (bw_ BK195 hb); have n1_ := am_ (bw_ BK196 hb); have n2_ := am_ (below_step (bb_ HB.out) hb); clear BK195 BK196 HB; revert n0_ n1_ n2_; intro BK195 BK196 HB; (try clear hb); (try clear hb2); (try clear hk); (try clear hi)))
   go_meet
   case rel => exact ⟨_, (true), (by first | rfl | (simp; done) | (simp [*]; done)), H', ⟨by first | omega | exact Nat.le_refl _⟩, ⟨bk_ BK195.out⟩, ⟨bk_ BK196.out⟩, ⟨bb_ HB.out⟩⟩
 case rest =>
  clear HC3
  try clear c1
  try clear c2
  try clear p2
  try clear c3
  try clear c4
  try clear c5
  try clear c6
  try clear c7
  try clear c9
  try clear c11
  try clear c13
  try clear c15
  try clear c17
  try clear c18
  try clear c23
  try clear c30
  try clear c41
  try clear c50
  try clear c57
  try clear c62
  try clear hcz18_0
  try clear hcz18_1
  try clear hcz18_2
  try clear hcz20_0
  try clear hcz20_1
  try clear hcz20_10
  try clear hcz20_11
  try clear hcz20_12
  try clear hcz20_13
  try clear hcz20_14
  try clear hcz20_2
  try clear hcz20_3
  try clear hcz20_4
  try clear hcz20_5
  try clear hcz20_6
  try clear hcz20_7
  try clear hcz20_8
  try clear hcz20_9
  try clear hcz22_0
  try clear hcz22_1
  try clear hcz22_10
  try clear hcz22_11
  try clear hcz22_12
  try clear hcz22_13
  try clear hcz22_14
  try clear hcz22_2
  try clear hcz22_3
  try clear hcz22_4
  try clear hcz22_5
  try clear hcz22_6
  try clear hcz22_7
  try clear hcz22_8
  try clear hcz22_9
  try clear hcz24_0
  try clear hcz24_1
  try clear hcz24_10
  try clear hcz24_11
  try clear hcz24_12
  try clear hcz24_13
  try clear hcz24_14
  try clear hcz24_2
  try clear hcz24_3
  try clear hcz24_4
  try clear hcz24_5
  try clear hcz24_6
  try clear hcz24_7
  try clear hcz24_8
  try clear hcz24_9
  try clear hcz26_0
  try clear hcz26_1
  try clear hcz26_10
  try clear hcz26_11
  try clear hcz26_12
  try clear hcz26_13
  try clear hcz26_14
  try clear hcz26_2
  try clear hcz26_3
  try clear hcz26_4
  try clear hcz26_5
  try clear hcz26_6
  try clear hcz26_7
  try clear hcz26_8
  try clear hcz26_9
  try clear hcz28_0
  try clear hcz28_1
  try clear hcz28_10
  try clear hcz28_11
  try clear hcz28_12
  try clear hcz28_13
  try clear hcz28_14
  try clear hcz28_2
  try clear hcz28_3
  try clear hcz28_4
  try clear hcz28_5
  try clear hcz28_6
  try clear hcz28_7
  try clear hcz28_8
  try clear hcz28_9
  try clear hcz31_0
  try clear hcz31_1
  try clear hcz31_2
  try clear hcz33_0
  try clear hcz33_1
  try clear hcz33_10
  try clear hcz33_11
  try clear hcz33_12
  try clear hcz33_13
  try clear hcz33_14
  try clear hcz33_2
  try clear hcz33_3
  try clear hcz33_4
  try clear hcz33_5
  try clear hcz33_6
  try clear hcz33_7
  try clear hcz33_8
  try clear hcz33_9
  try clear hcz35_0
  try clear hcz35_1
  try clear hcz35_10
  try clear hcz35_11
  try clear hcz35_12
  try clear hcz35_13
  try clear hcz35_14
  try clear hcz35_2
  try clear hcz35_3
  try clear hcz35_4
  try clear hcz35_5
  try clear hcz35_6
  try clear hcz35_7
  try clear hcz35_8
  try clear hcz35_9
  try clear hcz37_0
  try clear hcz37_1
  try clear hcz37_10
  try clear hcz37_11
  try clear hcz37_12
  try clear hcz37_13
  try clear hcz37_14
  try clear hcz37_2
  try clear hcz37_3
  try clear hcz37_4
  try clear hcz37_5
  try clear hcz37_6
  try clear hcz37_7
  try clear hcz37_8
  try clear hcz37_9
  try clear hcz39_0
  try clear hcz39_1
  try clear hcz39_10
  try clear hcz39_11
  try clear hcz39_12
  try clear hcz39_13
  try clear hcz39_14
  try clear hcz39_2
  try clear hcz39_3
  try clear hcz39_4
  try clear hcz39_5
  try clear hcz39_6
  try clear hcz39_7
  try clear hcz39_8
  try clear hcz39_9
  try clear hcz42_0
  try clear hcz42_1
  try clear hcz42_2
  try clear hcz44_0
  try clear hcz44_1
  try clear hcz44_10
  try clear hcz44_11
  try clear hcz44_12
  try clear hcz44_13
  try clear hcz44_14
  try clear hcz44_2
  try clear hcz44_3
  try clear hcz44_4
  try clear hcz44_5
  try clear hcz44_6
  try clear hcz44_7
  try clear hcz44_8
  try clear hcz44_9
  try clear hcz46_0
  try clear hcz46_1
  try clear hcz46_10
  try clear hcz46_11
  try clear hcz46_12
  try clear hcz46_13
  try clear hcz46_14
  try clear hcz46_2
  try clear hcz46_3
  try clear hcz46_4
  try clear hcz46_5
  try clear hcz46_6
  try clear hcz46_7
  try clear hcz46_8
  try clear hcz46_9
  try clear hcz48_0
  try clear hcz48_1
  try clear hcz48_10
  try clear hcz48_11
  try clear hcz48_12
  try clear hcz48_13
  try clear hcz48_14
  try clear hcz48_2
  try clear hcz48_3
  try clear hcz48_4
  try clear hcz48_5
  try clear hcz48_6
  try clear hcz48_7
  try clear hcz48_8
  try clear hcz48_9
  try clear hcz51_0
  try clear hcz51_1
  try clear hcz51_2
  try clear hcz53_0
  try clear hcz53_1
  try clear hcz53_10
  try clear hcz53_11
  try clear hcz53_12
  try clear hcz53_13
  try clear hcz53_14
  try clear hcz53_2
  try clear hcz53_3
  try clear hcz53_4
  try clear hcz53_5
  try clear hcz53_6
  try clear hcz53_7
  try clear hcz53_8
  try clear hcz53_9
  try clear hcz55_0
  try clear hcz55_1
  try clear hcz55_10
  try clear hcz55_11
  try clear hcz55_12
  try clear hcz55_13
  try clear hcz55_14
  try clear hcz55_2
  try clear hcz55_3
  try clear hcz55_4
  try clear hcz55_5
  try clear hcz55_6
  try clear hcz55_7
  try clear hcz55_8
  try clear hcz55_9
  try clear hcz58_0
  try clear hcz58_1
  try clear hcz58_2
  try clear hcz60_0
  try clear hcz60_1
  try clear hcz60_10
  try clear hcz60_11
  try clear hcz60_12
  try clear hcz60_13
  try clear hcz60_14
  try clear hcz60_2
  try clear hcz60_3
  try clear hcz60_4
  try clear hcz60_5
  try clear hcz60_6
  try clear hcz60_7
  try clear hcz60_8
  try clear hcz60_9
  try clear hcz63_0
  try clear hcz63_1
  try clear hcz63_2
  try clear hfz18_0
  try clear hfz18_1
  try clear hfz18_2
  try clear hfz20_0
  try clear hfz20_1
  try clear hfz20_10
  try clear hfz20_11
  try clear hfz20_12
  try clear hfz20_13
  try clear hfz20_14
  try clear hfz20_2
  try clear hfz20_3
  try clear hfz20_4
  try clear hfz20_5
  try clear hfz20_6
  try clear hfz20_7
  try clear hfz20_8
  try clear hfz20_9
  try clear hfz22_0
  try clear hfz22_1
  try clear hfz22_10
  try clear hfz22_11
  try clear hfz22_12
  try clear hfz22_13
  try clear hfz22_14
  try clear hfz22_2
  try clear hfz22_3
  try clear hfz22_4
  try clear hfz22_5
  try clear hfz22_6
  try clear hfz22_7
  try clear hfz22_8
  try clear hfz22_9
  try clear hfz24_0
  try clear hfz24_1
  try clear hfz24_10
  try clear hfz24_11
  try clear hfz24_12
  try clear hfz24_13
  try clear hfz24_14
  try clear hfz24_2
  try clear hfz24_3
  try clear hfz24_4
  try clear hfz24_5
  try clear hfz24_6
  try clear hfz24_7
  try clear hfz24_8
  try clear hfz24_9
  try clear hfz26_0
  try clear hfz26_1
  try clear hfz26_10
  try clear hfz26_11
  try clear hfz26_12
  try clear hfz26_13
  try clear hfz26_14
  try clear hfz26_2
  try clear hfz26_3
  try clear hfz26_4
  try clear hfz26_5
  try clear hfz26_6
  try clear hfz26_7
  try clear hfz26_8
  try clear hfz26_9
  try clear hfz28_0
  try clear hfz28_1
  try clear hfz28_10
  try clear hfz28_11
  try clear hfz28_12
  try clear hfz28_13
  try clear hfz28_14
  try clear hfz28_2
  try clear hfz28_3
  try clear hfz28_4
  try clear hfz28_5
  try clear hfz28_6
  try clear hfz28_7
  try clear hfz28_8
  try clear hfz28_9
  try clear hfz31_0
  try clear hfz31_1
  try clear hfz31_2
  try clear hfz33_0
  try clear hfz33_1
  try clear hfz33_10
  try clear hfz33_11
  try clear hfz33_12
  try clear hfz33_13
  try clear hfz33_14
  try clear hfz33_2
  try clear hfz33_3
  try clear hfz33_4
  try clear hfz33_5
  try clear hfz33_6
  try clear hfz33_7
  try clear hfz33_8
  try clear hfz33_9
  try clear hfz35_0
  try clear hfz35_1
  try clear hfz35_10
  try clear hfz35_11
  try clear hfz35_12
  try clear hfz35_13
  try clear hfz35_14
  try clear hfz35_2
  try clear hfz35_3
  try clear hfz35_4
  try clear hfz35_5
  try clear hfz35_6
  try clear hfz35_7
  try clear hfz35_8
  try clear hfz35_9
  try clear hfz37_0
  try clear hfz37_1
  try clear hfz37_10
  try clear hfz37_11
  try clear hfz37_12
  try clear hfz37_13
  try clear hfz37_14
  try clear hfz37_2
  try clear hfz37_3
  try clear hfz37_4
  try clear hfz37_5
  try clear hfz37_6
  try clear hfz37_7
  try clear hfz37_8
  try clear hfz37_9
  try clear hfz39_0
  try clear hfz39_1
  try clear hfz39_10
  try clear hfz39_11
  try clear hfz39_12
  try clear hfz39_13
  try clear hfz39_14
  try clear hfz39_2
  try clear hfz39_3
  try clear hfz39_4
  try clear hfz39_5
  try clear hfz39_6
  try clear hfz39_7
  try clear hfz39_8
  try clear hfz39_9
  try clear hfz42_0
  try clear hfz42_1
  try clear hfz42_2
  try clear hfz44_0
  try clear hfz44_1
  try clear hfz44_10
  try clear hfz44_11
  try clear hfz44_12
  try clear hfz44_13
  try clear hfz44_14
  try clear hfz44_2
  try clear hfz44_3
  try clear hfz44_4
  try clear hfz44_5
  try clear hfz44_6
  try clear hfz44_7
  try clear hfz44_8
  try clear hfz44_9
  try clear hfz46_0
  try clear hfz46_1
  try clear hfz46_10
  try clear hfz46_11
  try clear hfz46_12
  try clear hfz46_13
  try clear hfz46_14
  try clear hfz46_2
  try clear hfz46_3
  try clear hfz46_4
  try clear hfz46_5
  try clear hfz46_6
  try clear hfz46_7
  try clear hfz46_8
  try clear hfz46_9
  try clear hfz48_0
  try clear hfz48_1
  try clear hfz48_10
  try clear hfz48_11
  try clear hfz48_12
  try clear hfz48_13
  try clear hfz48_14
  try clear hfz48_2
  try clear hfz48_3
  try clear hfz48_4
  try clear hfz48_5
  try clear hfz48_6
  try clear hfz48_7
  try clear hfz48_8
  try clear hfz48_9
  try clear hfz51_0
  try clear hfz51_1
  try clear hfz51_2
  try clear hfz53_0
  try clear hfz53_1
  try clear hfz53_10
  try clear hfz53_11
  try clear hfz53_12
  try clear hfz53_13
  try clear hfz53_14
  try clear hfz53_2
  try clear hfz53_3
  try clear hfz53_4
  try clear hfz53_5
  try clear hfz53_6
  try clear hfz53_7
  try clear hfz53_8
  try clear hfz53_9
  try clear hfz55_0
  try clear hfz55_1
  try clear hfz55_10
  try clear hfz55_11
  try clear hfz55_12
  try clear hfz55_13
  try clear hfz55_14
  try clear hfz55_2
  try clear hfz55_3
  try clear hfz55_4
  try clear hfz55_5
  try clear hfz55_6
  try clear hfz55_7
  try clear hfz55_8
  try clear hfz55_9
  try clear hfz58_0
  try clear hfz58_1
  try clear hfz58_2
  try clear hfz60_0
  try clear hfz60_1
  try clear hfz60_10
  try clear hfz60_11
  try clear hfz60_12
  try clear hfz60_13
  try clear hfz60_14
  try clear hfz60_2
  try clear hfz60_3
  try clear hfz60_4
  try clear hfz60_5
  try clear hfz60_6
  try clear hfz60_7
  try clear hfz60_8
  try clear hfz60_9
  try clear hfz63_0
  try clear hfz63_1
  try clear hfz63_2
  obtain ⟨kq, x41_2, rfl, HA, HJ2, BK195, BK196, HB⟩ := hcut
  cases kq with
  | zero => exact absurd HA.out (by simp [spec_IsReduction.j0])
  | succ kj2 =>
   have H := HA.out
   clear HA
   simp only [spec_IsReduction.j0] at H
   by_cases c65 : x41_2 = true
   ·subst c65
    have H1 : (some false) = some r := by rw [if_pos rfl] at H; exact H
    clear H
    have H := H1
    clear H1
    obtain rfl := Option.some.inj H
    go_wp2
    go_ret
    exact ⟨by first | rfl | (simp [errW_none, errW_some] <;> rfl) | (simp [*, errW_none, errW_some] <;> rfl), bb_ HB.out⟩
   ·replace c65 := Bool.eq_false_iff.mpr c65
    subst c65
    have H1 : ((spec_l02Inverse.f kj2 a1_0 a1_1 l1_2 a1_3 a1_4 l1_5 a0_0).bind fun t203 => (if t203 = true then ((spec_l02Inverse.f kj2 a1_9 a1_10 l1_11 a1_12 a1_13 l1_14 a0_1).bind fun t204 => (if t204 = true then ((spec_l02Diagonal.f kj2 a1_6 a1_7 l1_8).bind fun t205 => (spec_IsReduction.j1 kj2 (!t205) a0_0 a0_1 l0_2 a1_0 a1_1 l1_2 a1_3 a1_4 l1_5 a1_6 a1_7 l1_8 a1_9 a1_10 l1_11 a1_12 a1_13 l1_14)) else (spec_IsReduction.j1 kj2 true a0_0 a0_1 l0_2 a1_0 a1_1 l1_2 a1_3 a1_4 l1_5 a1_6 a1_7 l1_8 a1_9 a1_10 l1_11 a1_12 a1_13 l1_14))) else (spec_IsReduction.j1 kj2 true a0_0 a0_1 l0_2 a1_0 a1_1 l1_2 a1_3 a1_4 l1_5 a1_6 a1_7 l1_8 a1_9 a1_10 l1_11 a1_12 a1_13 l1_14))) = some r := by rw [if_neg (show ¬ (false = true) by decide)] at H; exact H
    clear H
    have H := H1
    clear H1
    have HC66 := am_ H
    clear H
    go_upto_region 3 with (fail)
    go_cut [65] (fun v65 wc => ∃ (kq : Nat) (x65_65 : Bool), v65 = .bool x65_65 ∧ Aside0 (spec_IsReduction.j1 kq x65_65 a0_0 a0_1 l0_2 a1_0 a1_1 l1_2 a1_3 a1_4 l1_5 a1_6 a1_7 l1_8 a1_9 a1_10 l1_11 a1_12 a1_13 l1_14 = some r) ∧ Aside0 (kq ≤ kj2) ∧ Aside0 (wc.heap[gb195]? = some (.cells #[.int .i64 a0_0, .int .i64 a0_1, (.slice A0_2 l0_2.length c0_2)] 28 (0, 0))) ∧ Aside0 (wc.heap[gb196]? = some (.cells #[.int .i64 a1_0, .int .i64 a1_1, (.slice A1_2 l1_2.length c1_2), .int .i64 a1_3, .int .i64 a1_4, (.slice A1_5 l1_5.length c1_5), .int .i64 a1_6, .int .i64 a1_7, (.slice A1_8 l1_8.length c1_8), .int .i64 a1_9, .int .i64 a1_10, (.slice A1_11 l1_11.length c1_11), .int .i64 a1_12, .int .i64 a1_13, (.slice A1_14 l1_14.length c1_14)] 44 (0, 0))) ∧ Aside0 (Below w.heap.size w wc))
    case first =>
     have H := HC66.out
     clear HC66
     replace H := Option.bind_eq_some_iff.mp H
     obtain ⟨t203, A670, H⟩ := H
     replace H : (if t203 = true then ((spec_l02Inverse.f kj2 a1_9 a1_10 l1_11 a1_12 a1_13 l1_14 a0_1).bind fun t204 => (if t204 = true then ((spec_l02Diagonal.f kj2 a1_6 a1_7 l1_8).bind fun t205 => (spec_IsReduction.j1 kj2 (!t205) a0_0 a0_1 l0_2 a1_0 a1_1 l1_2 a1_3 a1_4 l1_5 a1_6 a1_7 l1_8 a1_9 a1_10 l1_11 a1_12 a1_13 l1_14)) else (spec_IsReduction.j1 kj2 true a0_0 a0_1 l0_2 a1_0 a1_1 l1_2 a1_3 a1_4 l1_5 a1_6 a1_7 l1_8 a1_9 a1_10 l1_11 a1_12 a1_13 l1_14))) else (spec_IsReduction.j1 kj2 true a0_0 a0_1 l0_2 a1_0 a1_1 l1_2 a1_3 a1_4 l1_5 a1_6 a1_7 l1_8 a1_9 a1_10 l1_11 a1_12 a1_13 l1_14)) = some r := H
     have A67 := am_ A670
     clear A670
     by_cases c68 : t203 = true
     ·subst c68
      have H1 : ((spec_l02Inverse.f kj2 a1_9 a1_10 l1_11 a1_12 a1_13 l1_14 a0_1).bind fun t204 => (if t204 = true then ((spec_l02Diagonal.f kj2 a1_6 a1_7 l1_8).bind fun t205 => (spec_IsReduction.j1 kj2 (!t205) a0_0 a0_1 l0_2 a1_0 a1_1 l1_2 a1_3 a1_4 l1_5 a1_6 a1_7 l1_8 a1_9 a1_10 l1_11 a1_12 a1_13 l1_14)) else (spec_IsReduction.j1 kj2 true a0_0 a0_1 l0_2 a1_0 a1_1 l1_2 a1_3 a1_4 l1_5 a1_6 a1_7 l1_8 a1_9 a1_10 l1_11 a1_12 a1_13 l1_14))) = some r := by rw [if_pos rfl] at H; exact H
      clear H
      have H := H1
      clear H1
      replace H := Option.bind_eq_some_iff.mp H
      obtain ⟨t204, A690, H⟩ := H
      replace H : (if t204 = true then ((spec_l02Diagonal.f kj2 a1_6 a1_7 l1_8).bind fun t205 => (spec_IsReduction.j1 kj2 (!t205) a0_0 a0_1 l0_2 a1_0 a1_1 l1_2 a1_3 a1_4 l1_5 a1_6 a1_7 l1_8 a1_9 a1_10 l1_11 a1_12 a1_13 l1_14)) else (spec_IsReduction.j1 kj2 true a0_0 a0_1 l0_2 a1_0 a1_1 l1_2 a1_3 a1_4 l1_5 a1_6 a1_7 l1_8 a1_9 a1_10 l1_11 a1_12 a1_13 l1_14)) = some r := H
      have A69 := am_ A690
      clear A690
      by_cases c70 : t204 = true
      ·subst c70
       have H1 : ((spec_l02Diagonal.f kj2 a1_6 a1_7 l1_8).bind fun t205 => (spec_IsReduction.j1 kj2 (!t205) a0_0 a0_1 l0_2 a1_0 a1_1 l1_2 a1_3 a1_4 l1_5 a1_6 a1_7 l1_8 a1_9 a1_10 l1_11 a1_12 a1_13 l1_14)) = some r := by rw [if_pos rfl] at H; exact H
       clear H
       have H := H1
       clear H1
       replace H := Option.bind_eq_some_iff.mp H
       obtain ⟨t205, A710, H⟩ := H
       replace H : (spec_IsReduction.j1 kj2 (!t205) a0_0 a0_1 l0_2 a1_0 a1_1 l1_2 a1_3 a1_4 l1_5 a1_6 a1_7 l1_8 a1_9 a1_10 l1_11 a1_12 a1_13 l1_14) = some r := H
       have A71 := am_ A710
       clear A710
       have H' := am_ H
       clear H
       have hnb72 := NB196_195.out
       have hnc72 := NB195_196.out
       obtain ⟨hcz73_0, hcz73_1, hcz73_2, hcz73_3, hcz73_4, hcz73_5, hcz73_6, hcz73_7, hcz73_8, hcz73_9, hcz73_10, hcz73_11, hcz73_12, hcz73_13, hcz73_14, hfz73_0, hfz73_1, hfz73_2, hfz73_3, hfz73_4, hfz73_5, hfz73_6, hfz73_7, hfz73_8, hfz73_9, hfz73_10, hfz73_11, hfz73_12, hfz73_13, hfz73_14⟩ := bx15_ BK196
       obtain ⟨hcz74_0, hcz74_1, hcz74_2, hfz74_0, hfz74_1, hfz74_2⟩ := bx3_ BK195
       go_wp2_with (first | ((with_reducible refine gate_callee (f := 41) rfl ?_); refine goesL_ (some 48) rfl rfl Try.func41 (by kernel_rfl) rfl #[.agg #[.int .i64 a1_0, .int .i64 a1_1, .slice A1_2 l1_2.length c1_2], .agg #[.int .i64 a1_3, .int .i64 a1_4, .slice A1_5 l1_5.length c1_5], .int .i64 a0_0] rfl lm_ ?_; (with_reducible refine (spec_l02Inverse.calls kj2 a1_0 a1_1 _ _ l1_2 a1_3 a1_4 _ _ l1_5 a0_0 true _ ?side1 ?side2 ?side3 ?side4 A67.out).mono ?_); (case side1 => repeat (first | exact (Kd.C_below HR1_2.out HB.out) | (with_reducible refine Kd.C_alloc ?_ _) | (with_reducible refine Kd.C_drewN ?_ _) | (with_reducible refine Kd.C_drew ?_))); (case side2 => exact HC1_2.out); (case side3 => repeat (first | exact (Kd.C_below HR1_5.out HB.out) | (with_reducible refine Kd.C_alloc ?_ _) | (with_reducible refine Kd.C_drewN ?_ _) | (with_reducible refine Kd.C_drew ?_))); (case side4 => exact HC1_5.out); rintro e w75 ⟨rfl, hb⟩; refine ⟨_, rfl, ?_⟩; have n0_ := am_ (bw_ BK195 hb); have n1_ := am_ (bw_ BK196 hb); have n2_ := am_ (below_step (bb_ HB.out) hb); clear BK195 BK196 HB; revert n0_ n1_ n2_; intro BK195 BK196 HB; (try clear hb); (try clear hb2); (try clear hk); (try clear hi); obtain ⟨hcz76_0, hcz76_1, hcz76_2, hcz76_3, hcz76_4, hcz76_5, hcz76_6, hcz76_7, hcz76_8, hcz76_9, hcz76_10, hcz76_11, hcz76_12, hcz76_13, hcz76_14, hfz76_0, hfz76_1, hfz76_2, hfz76_3, hfz76_4, hfz76_5, hfz76_6, hfz76_7, hfz76_8, hfz76_9, hfz76_10, hfz76_11, hfz76_12, hfz76_13, hfz76_14⟩ := bx15_ BK196; obtain ⟨hcz77_0, hcz77_1, hcz77_2, hfz77_0, hfz77_1, hfz77_2⟩ := bx3_ BK195) | (go_at_call 41; (with_reducible refine (spec_l02Inverse.calls kj2 a1_9 a1_10 _ _ l1_11 a1_12 a1_13 _ _ l1_14 a0_1 true _ ?side1 ?side2 ?side3 ?side4 A69.out).mono ?_); (case side1 => repeat (first | exact (Kd.C_below HR1_11.out HB.out) | (with_reducible refine Kd.C_alloc ?_ _) | (with_reducible refine Kd.C_drewN ?_ _) | (with_reducible refine Kd.C_drew ?_))); (case side2 => exact HC1_11.out); (case side3 => repeat (first | exact (Kd.C_below HR1_14.out HB.out) | (with_reducible refine Kd.C_alloc ?_ _) | (with_reducible refine Kd.C_drewN ?_ _) | (with_reducible refine Kd.C_drew ?_))); (case side4 => exact HC1_14.out); rintro e w78 ⟨rfl, hb⟩; have n0_ := am_ (bw_ BK195 hb); have n1_ := am_ (bw_ BK196 hb); have n2_ := am_ (below_step (bb_ HB.out) hb); clear BK195 BK196 HB; revert n0_ n1_ n2_; intro BK195 BK196 HB; (try clear hb); (try clear hb2); (try clear hk); (try clear hi); obtain ⟨hcz79_0, hcz79_1, hcz79_2, hcz79_3, hcz79_4, hcz79_5, hcz79_6, hcz79_7, hcz79_8, hcz79_9, hcz79_10, hcz79_11, hcz79_12, hcz79_13, hcz79_14, hfz79_0, hfz79_1, hfz79_2, hfz79_3, hfz79_4, hfz79_5, hfz79_6, hfz79_7, hfz79_8, hfz79_9, hfz79_10, hfz79_11, hfz79_12, hfz79_13, hfz79_14⟩ := bx15_ BK196) | (go_at_call 42; (with_reducible refine (spec_l02Diagonal.calls kj2 a1_6 a1_7 _ _ l1_8 t205 _ ?side1 ?side2 A71.out).mono ?_); (case side1 => repeat (first | exact (Kd.C_below HR1_8.out HB.out) | (with_reducible refine Kd.C_alloc ?_ _) | (with_reducible refine Kd.C_drewN ?_ _) | (with_reducible refine Kd.C_drew ?_))); (case side2 => exact HC1_8.out); rintro e w80 ⟨rfl, hb⟩; have n0_ := am_ (bw_ BK195 hb); have n1_ := am_ (bw_ BK196 hb); have n2_ := am_ (below_step (bb_ HB.out) hb); clear BK195 BK196 HB; revert n0_ n1_ n2_; intro BK195 BK196 HB; (try clear hb); (try clear hb2); (try clear hk); (try clear hi)))
       go_meet
       case rel => exact ⟨_, (!t205), (by first | rfl | (simp; done) | (simp [*]; done)), H', ⟨by have := HJ2.out; first | omega | exact Nat.le_refl _⟩, ⟨bk_ BK195.out⟩, ⟨bk_ BK196.out⟩, ⟨bb_ HB.out⟩⟩
      ·replace c70 := Bool.eq_false_iff.mpr c70
       subst c70
       have H1 : (spec_IsReduction.j1 kj2 true a0_0 a0_1 l0_2 a1_0 a1_1 l1_2 a1_3 a1_4 l1_5 a1_6 a1_7 l1_8 a1_9 a1_10 l1_11 a1_12 a1_13 l1_14) = some r := by rw [if_neg (show ¬ (false = true) by decide)] at H; exact H
       clear H
       have H := H1
       clear H1
       have H' := am_ H
       clear H
       have hnb81 := NB196_195.out
       have hnc81 := NB195_196.out
       obtain ⟨hcz82_0, hcz82_1, hcz82_2, hcz82_3, hcz82_4, hcz82_5, hcz82_6, hcz82_7, hcz82_8, hcz82_9, hcz82_10, hcz82_11, hcz82_12, hcz82_13, hcz82_14, hfz82_0, hfz82_1, hfz82_2, hfz82_3, hfz82_4, hfz82_5, hfz82_6, hfz82_7, hfz82_8, hfz82_9, hfz82_10, hfz82_11, hfz82_12, hfz82_13, hfz82_14⟩ := bx15_ BK196
       obtain ⟨hcz83_0, hcz83_1, hcz83_2, hfz83_0, hfz83_1, hfz83_2⟩ := bx3_ BK195
       go_wp2_with (first | ((with_reducible refine gate_callee (f := 41) rfl ?_); refine goesL_ (some 48) rfl rfl Try.func41 (by kernel_rfl) rfl #[.agg #[.int .i64 a1_0, .int .i64 a1_1, .slice A1_2 l1_2.length c1_2], .agg #[.int .i64 a1_3, .int .i64 a1_4, .slice A1_5 l1_5.length c1_5], .int .i64 a0_0] rfl lm_ ?_; (with_reducible refine (spec_l02Inverse.calls kj2 a1_0 a1_1 _ _ l1_2 a1_3 a1_4 _ _ l1_5 a0_0 true _ ?side1 ?side2 ?side3 ?side4 A67.out).mono ?_); (case side1 => repeat (first | exact (Kd.C_below HR1_2.out HB.out) | (with_reducible refine Kd.C_alloc ?_ _) | (with_reducible refine Kd.C_drewN ?_ _) | (with_reducible refine Kd.C_drew ?_))); (case side2 => exact HC1_2.out); (case side3 => repeat (first | exact (Kd.C_below HR1_5.out HB.out) | (with_reducible refine Kd.C_alloc ?_ _) | (with_reducible refine Kd.C_drewN ?_ _) | (with_reducible refine Kd.C_drew ?_))); (case side4 => exact HC1_5.out); rintro e w84 ⟨rfl, hb⟩; refine ⟨_, rfl, ?_⟩; have n0_ := am_ (bw_ BK195 hb); have n1_ := am_ (bw_ BK196 hb); have n2_ := am_ (below_step (bb_ HB.out) hb); clear BK195 BK196 HB; revert n0_ n1_ n2_; intro BK195 BK196 HB; (try clear hb); (try clear hb2); (try clear hk); (try clear hi); obtain ⟨hcz85_0, hcz85_1, hcz85_2, hcz85_3, hcz85_4, hcz85_5, hcz85_6, hcz85_7, hcz85_8, hcz85_9, hcz85_10, hcz85_11, hcz85_12, hcz85_13, hcz85_14, hfz85_0, hfz85_1, hfz85_2, hfz85_3, hfz85_4, hfz85_5, hfz85_6, hfz85_7, hfz85_8, hfz85_9, hfz85_10, hfz85_11, hfz85_12, hfz85_13, hfz85_14⟩ := bx15_ BK196; obtain ⟨hcz86_0, hcz86_1, hcz86_2, hfz86_0, hfz86_1, hfz86_2⟩ := bx3_ BK195) | (go_at_call 41; (with_reducible refine (spec_l02Inverse.calls kj2 a1_9 a1_10 _ _ l1_11 a1_12 a1_13 _ _ l1_14 a0_1 false _ ?side1 ?side2 ?side3 ?side4 A69.out).mono ?_); (case side1 => repeat (first | exact (Kd.C_below HR1_11.out HB.out) | (with_reducible refine Kd.C_alloc ?_ _) | (with_reducible refine Kd.C_drewN ?_ _) | (with_reducible refine Kd.C_drew ?_))); (case side2 => exact HC1_11.out); (case side3 => repeat (first | exact (Kd.C_below HR1_14.out HB.out) | (with_reducible refine Kd.C_alloc ?_ _) | (with_reducible refine Kd.C_drewN ?_ _) | (with_reducible refine Kd.C_drew ?_))); (case side4 => exact HC1_14.out); rintro e w87 ⟨rfl, hb⟩; have n0_ := am_ (bw_ BK195 hb); have n1_ := am_ (bw_ BK196 hb); have n2_ := am_ (below_step (bb_ HB.out) hb); clear BK195 BK196 HB; revert n0_ n1_ n2_; intro BK195 BK196 HB; (try clear hb); (try clear hb2); (try clear hk); (try clear hi)))
       go_meet
       case rel => exact ⟨_, (true), (by first | rfl | (simp; done) | (simp [*]; done)), H', ⟨by have := HJ2.out; first | omega | exact Nat.le_refl _⟩, ⟨bk_ BK195.out⟩, ⟨bk_ BK196.out⟩, ⟨bb_ HB.out⟩⟩
     ·replace c68 := Bool.eq_false_iff.mpr c68
      subst c68
      have H1 : (spec_IsReduction.j1 kj2 true a0_0 a0_1 l0_2 a1_0 a1_1 l1_2 a1_3 a1_4 l1_5 a1_6 a1_7 l1_8 a1_9 a1_10 l1_11 a1_12 a1_13 l1_14) = some r := by rw [if_neg (show ¬ (false = true) by decide)] at H; exact H
      clear H
      have H := H1
      clear H1
      have H' := am_ H
      clear H
      have hnb88 := NB196_195.out
      have hnc88 := NB195_196.out
      obtain ⟨hcz89_0, hcz89_1, hcz89_2, hcz89_3, hcz89_4, hcz89_5, hcz89_6, hcz89_7, hcz89_8, hcz89_9, hcz89_10, hcz89_11, hcz89_12, hcz89_13, hcz89_14, hfz89_0, hfz89_1, hfz89_2, hfz89_3, hfz89_4, hfz89_5, hfz89_6, hfz89_7, hfz89_8, hfz89_9, hfz89_10, hfz89_11, hfz89_12, hfz89_13, hfz89_14⟩ := bx15_ BK196
      obtain ⟨hcz90_0, hcz90_1, hcz90_2, hfz90_0, hfz90_1, hfz90_2⟩ := bx3_ BK195
      go_wp2_with (first | ((with_reducible refine gate_callee (f := 41) rfl ?_); refine goesL_ (some 48) rfl rfl Try.func41 (by kernel_rfl) rfl #[.agg #[.int .i64 a1_0, .int .i64 a1_1, .slice A1_2 l1_2.length c1_2], .agg #[.int .i64 a1_3, .int .i64 a1_4, .slice A1_5 l1_5.length c1_5], .int .i64 a0_0] rfl lm_ ?_; (with_reducible refine (spec_l02Inverse.calls kj2 a1_0 a1_1 _ _ l1_2 a1_3 a1_4 _ _ l1_5 a0_0 false _ ?side1 ?side2 ?side3 ?side4 A67.out).mono ?_); (case side1 => repeat (first | exact (Kd.C_below HR1_2.out HB.out) | (with_reducible refine Kd.C_alloc ?_ _) | (with_reducible refine Kd.C_drewN ?_ _) | (with_reducible refine Kd.C_drew ?_))); (case side2 => exact HC1_2.out); (case side3 => repeat (first | exact (Kd.C_below HR1_5.out HB.out) | (with_reducible refine Kd.C_alloc ?_ _) | (with_reducible refine Kd.C_drewN ?_ _) | (with_reducible refine Kd.C_drew ?_))); (case side4 => exact HC1_5.out); rintro e w91 ⟨rfl, hb⟩; refine ⟨_, rfl, ?_⟩; have n0_ := am_ (bw_ BK195 hb); have n1_ := am_ (bw_ BK196 hb); have n2_ := am_ (below_step (bb_ HB.out) hb); clear BK195 BK196 HB; revert n0_ n1_ n2_; intro BK195 BK196 HB; (try clear hb); (try clear hb2); (try clear hk); (try clear hi)))
      go_meet
      case rel => exact ⟨_, (true), (by first | rfl | (simp; done) | (simp [*]; done)), H', ⟨by have := HJ2.out; first | omega | exact Nat.le_refl _⟩, ⟨bk_ BK195.out⟩, ⟨bk_ BK196.out⟩, ⟨bb_ HB.out⟩⟩
    case rest =>
     clear HC66
     try clear c1
     try clear p2
     try clear c4
     try clear c6
     try clear c7
     try clear c8
     try clear c41
     try clear c65
     try clear c68
     try clear c70
     try clear c72
     try clear c81
     try clear c88
     try clear hcz33_13
     try clear hcz33_14
     try clear hcz33_2
     try clear hcz33_3
     try clear hcz33_4
     try clear hcz33_5
     try clear hcz33_6
     try clear hcz33_7
     try clear hcz33_8
     try clear hcz33_9
     try clear hcz35_0
     try clear hcz35_1
     try clear hcz35_10
     try clear hcz35_11
     try clear hcz35_12
     try clear hcz35_13
     try clear hcz35_14
     try clear hcz35_2
     try clear hcz35_3
     try clear hcz35_4
     try clear hcz35_5
     try clear hcz35_6
     try clear hcz35_7
     try clear hcz35_8
     try clear hcz35_9
     try clear hcz37_0
     try clear hcz37_1
     try clear hcz37_10
     try clear hcz37_11
     try clear hcz37_12
     try clear hcz37_13
     try clear hcz37_14
     try clear hcz37_2
     try clear hcz37_3
     try clear hcz37_4
     try clear hcz37_5
     try clear hcz37_6
     try clear hcz37_7
     try clear hcz37_8
     try clear hcz37_9
     try clear hcz39_0
     try clear hcz39_1
     try clear hcz39_10
     try clear hcz39_11
     try clear hcz39_12
     try clear hcz39_13
     try clear hcz39_14
     try clear hcz39_2
     try clear hcz39_3
     try clear hcz39_4
     try clear hcz39_5
     try clear hcz39_6
     try clear hcz39_7
     try clear hcz39_8
     try clear hcz39_9
     try clear hcz42_0
     try clear hcz42_1
     try clear hcz42_2
     try clear hcz44_0
     try clear hcz44_1
     try clear hcz44_10
     try clear hcz44_11
     try clear hcz44_12
     try clear hcz44_13
     try clear hcz44_14
     try clear hcz44_2
     try clear hcz44_3
     try clear hcz44_4
     try clear hcz44_5
     try clear hcz44_6
     try clear hcz44_7
     try clear hcz44_8
     try clear hcz44_9
     try clear hcz46_0
     try clear hcz46_1
     try clear hcz46_10
     try clear hcz46_11
     try clear hcz46_12
     try clear hcz46_13
     try clear hcz46_14
     try clear hcz46_2
     try clear hcz46_3
     try clear hcz46_4
     try clear hcz46_5
     try clear hcz46_6
     try clear hcz46_7
     try clear hcz46_8
     try clear hcz46_9
     try clear hcz48_0
     try clear hcz48_1
     try clear hcz48_10
     try clear hcz48_11
     try clear hcz48_12
     try clear hcz48_13
     try clear hcz48_14
     try clear hcz48_2
     try clear hcz48_3
     try clear hcz48_4
     try clear hcz48_5
     try clear hcz48_6
     try clear hcz48_7
     try clear hcz48_8
     try clear hcz48_9
     try clear hcz51_0
     try clear hcz51_1
     try clear hcz51_2
     try clear hcz53_0
     try clear hcz53_1
     try clear hcz53_10
     try clear hcz53_11
     try clear hcz53_12
     try clear hcz53_13
     try clear hcz53_14
     try clear hcz53_2
     try clear hcz53_3
     try clear hcz53_4
     try clear hcz53_5
     try clear hcz53_6
     try clear hcz53_7
     try clear hcz53_8
     try clear hcz53_9
     try clear hcz55_0
     try clear hcz55_1
     try clear hcz55_10
     try clear hcz55_11
     try clear hcz55_12
     try clear hcz55_13
     try clear hcz55_14
     try clear hcz55_2
     try clear hcz55_3
     try clear hcz55_4
     try clear hcz55_5
     try clear hcz55_6
     try clear hcz55_7
     try clear hcz55_8
     try clear hcz55_9
     try clear hcz58_0
     try clear hcz58_1
     try clear hcz58_2
     try clear hcz60_0
     try clear hcz60_1
     try clear hcz60_10
     try clear hcz60_11
     try clear hcz60_12
     try clear hcz60_13
     try clear hcz60_14
     try clear hcz60_2
     try clear hcz60_3
     try clear hcz60_4
     try clear hcz60_5
     try clear hcz60_6
     try clear hcz60_7
     try clear hcz60_8
     try clear hcz60_9
     try clear hcz63_0
     try clear hcz63_1
     try clear hcz63_2
     try clear hcz73_0
     try clear hcz73_1
     try clear hcz73_10
     try clear hcz73_11
     try clear hcz73_12
     try clear hcz73_13
     try clear hcz73_14
     try clear hcz73_2
     try clear hcz73_3
     try clear hcz73_4
     try clear hcz73_5
     try clear hcz73_6
     try clear hcz73_7
     try clear hcz73_8
     try clear hcz73_9
     try clear hcz74_0
     try clear hcz74_1
     try clear hcz74_2
     try clear hcz76_0
     try clear hcz76_1
     try clear hcz76_10
     try clear hcz76_11
     try clear hcz76_12
     try clear hcz76_13
     try clear hcz76_14
     try clear hcz76_2
     try clear hcz76_3
     try clear hcz76_4
     try clear hcz76_5
     try clear hcz76_6
     try clear hcz76_7
     try clear hcz76_8
     try clear hcz76_9
     try clear hcz77_0
     try clear hcz77_1
     try clear hcz77_2
     try clear hcz79_0
     try clear hcz79_1
     try clear hcz79_10
     try clear hcz79_11
     try clear hcz79_12
     try clear hcz79_13
     try clear hcz79_14
     try clear hcz79_2
     try clear hcz79_3
     try clear hcz79_4
     try clear hcz79_5
     try clear hcz79_6
     try clear hcz79_7
     try clear hcz79_8
     try clear hcz79_9
     try clear hcz82_0
     try clear hcz82_1
     try clear hcz82_10
     try clear hcz82_11
     try clear hcz82_12
     try clear hcz82_13
     try clear hcz82_14
     try clear hcz82_2
     try clear hcz82_3
     try clear hcz82_4
     try clear hcz82_5
     try clear hcz82_6
     try clear hcz82_7
     try clear hcz82_8
     try clear hcz82_9
     try clear hcz83_0
     try clear hcz83_1
     try clear hcz83_2
     try clear hcz85_0
     try clear hcz85_1
     try clear hcz85_10
     try clear hcz85_11
     try clear hcz85_12
     try clear hcz85_13
     try clear hcz85_14
     try clear hcz85_2
     try clear hcz85_3
     try clear hcz85_4
     try clear hcz85_5
     try clear hcz85_6
     try clear hcz85_7
     try clear hcz85_8
     try clear hcz85_9
     try clear hcz86_0
     try clear hcz86_1
     try clear hcz86_2
     try clear hcz89_0
     try clear hcz89_1
     try clear hcz89_10
     try clear hcz89_11
     try clear hcz89_12
     try clear hcz89_13
     try clear hcz89_14
     try clear hcz89_2
     try clear hcz89_3
     try clear hcz89_4
     try clear hcz89_5
     try clear hcz89_6
     try clear hcz89_7
     try clear hcz89_8
     try clear hcz89_9
     try clear hcz90_0
     try clear hcz90_1
     try clear hcz90_2
     try clear hfz18_0
     try clear hfz18_1
     try clear hfz18_2
     try clear hfz20_0
     try clear hfz20_1
     try clear hfz20_10
     try clear hfz20_11
     try clear hfz20_12
     try clear hfz20_13
     try clear hfz20_14
     try clear hfz20_2
     try clear hfz20_3
     try clear hfz20_4
     try clear hfz20_5
     try clear hfz20_6
     try clear hfz20_7
     try clear hfz20_8
     try clear hfz20_9
     try clear hfz22_0
     try clear hfz22_1
     try clear hfz22_10
     try clear hfz22_11
     try clear hfz22_12
     try clear hfz22_13
     try clear hfz22_14
     try clear hfz22_2
     try clear hfz22_3
     try clear hfz22_4
     try clear hfz22_5
     try clear hfz22_6
     try clear hfz22_7
     try clear hfz22_8
     try clear hfz22_9
     try clear hfz24_0
     try clear hfz24_1
     try clear hfz24_10
     try clear hfz24_11
     try clear hfz24_12
     try clear hfz24_13
     try clear hfz24_14
     try clear hfz24_2
     try clear hfz24_3
     try clear hfz24_4
     try clear hfz24_5
     try clear hfz24_6
     try clear hfz24_7
     try clear hfz24_8
     try clear hfz24_9
     try clear hfz26_0
     try clear hfz26_1
     try clear hfz26_10
     try clear hfz26_11
     try clear hfz26_12
     try clear hfz26_13
     try clear hfz26_14
     try clear hfz26_2
     try clear hfz26_3
     try clear hfz26_4
     try clear hfz26_5
     try clear hfz26_6
     try clear hfz26_7
     try clear hfz26_8
     try clear hfz26_9
     try clear hfz28_0
     try clear hfz28_1
     try clear hfz28_10
     try clear hfz28_11
     try clear hfz28_12
     try clear hfz28_13
     try clear hfz28_14
     try clear hfz28_2
     try clear hfz28_3
     try clear hfz28_4
     try clear hfz28_5
     try clear hfz28_6
     try clear hfz28_7
     try clear hfz28_8
     try clear hfz28_9
     try clear hfz31_0
     try clear hfz31_1
     try clear hfz31_2
     try clear hfz33_0
     try clear hfz33_1
     try clear hfz33_10
     try clear hfz33_11
     try clear hfz33_12
     try clear hfz33_13
     try clear hfz33_14
     try clear hfz33_2
     try clear hfz33_3
     try clear hfz33_4
     try clear hfz33_5
     try clear hfz33_6
     try clear hfz33_7
     try clear hfz33_8
     try clear hfz33_9
     try clear hfz35_0
     try clear hfz35_1
     try clear hfz35_10
     try clear hfz35_11
     try clear hfz35_12
     try clear hfz35_13
     try clear hfz35_14
     try clear hfz35_2
     try clear hfz35_3
     try clear hfz35_4
     try clear hfz35_5
     try clear hfz35_6
     try clear hfz35_7
     try clear hfz35_8
     try clear hfz35_9
     try clear hfz37_0
     try clear hfz37_1
     try clear hfz37_10
     try clear hfz37_11
     try clear hfz37_12
     try clear hfz37_13
     try clear hfz37_14
     try clear hfz37_2
     try clear hfz37_3
     try clear hfz37_4
     try clear hfz37_5
     try clear hfz37_6
     try clear hfz37_7
     try clear hfz37_8
     try clear hfz37_9
     try clear hfz39_0
     try clear hfz39_1
     try clear hfz39_10
     try clear hfz39_11
     try clear hfz39_12
     try clear hfz39_13
     try clear hfz39_14
     try clear hfz39_2
     try clear hfz39_3
     try clear hfz39_4
     try clear hfz39_5
     try clear hfz39_6
     try clear hfz39_7
     try clear hfz39_8
     try clear hfz39_9
     try clear hfz42_0
     try clear hfz42_1
     try clear hfz42_2
     try clear hfz44_0
     try clear hfz44_1
     try clear hfz44_10
     try clear hfz44_11
     try clear hfz44_12
     try clear hfz44_13
     try clear hfz44_14
     try clear hfz44_2
     try clear hfz44_3
     try clear hfz44_4
     try clear hfz44_5
     try clear hfz44_6
     try clear hfz44_7
     try clear hfz44_8
     try clear hfz44_9
     try clear hfz46_0
     try clear hfz46_1
     try clear hfz46_10
     try clear hfz46_11
     try clear hfz46_12
     try clear hfz46_13
     try clear hfz46_14
     try clear hfz46_2
     try clear hfz46_3
     try clear hfz46_4
     try clear hfz46_5
     try clear hfz46_6
     try clear hfz46_7
     try clear hfz46_8
     try clear hfz46_9
     try clear hfz48_0
     try clear hfz48_1
     try clear hfz48_10
     try clear hfz48_11
     try clear hfz48_12
     try clear hfz48_13
     try clear hfz48_14
     try clear hfz48_2
     try clear hfz48_3
     try clear hfz48_4
     try clear hfz48_5
     try clear hfz48_6
     try clear hfz48_7
     try clear hfz48_8
     try clear hfz48_9
     try clear hfz51_0
     try clear hfz51_1
     try clear hfz51_2
     try clear hfz53_0
     try clear hfz53_1
     try clear hfz53_10
     try clear hfz53_11
     try clear hfz53_12
     try clear hfz53_13
     try clear hfz53_14
     try clear hfz53_2
     try clear hfz53_3
     try clear hfz53_4
     try clear hfz53_5
     try clear hfz53_6
     try clear hfz53_7
     try clear hfz53_8
     try clear hfz53_9
     try clear hfz55_0
     try clear hfz55_1
     try clear hfz55_10
     try clear hfz55_11
     try clear hfz55_12
     try clear hfz55_13
     try clear hfz55_14
     try clear hfz55_2
     try clear hfz55_3
     try clear hfz55_4
     try clear hfz55_5
     try clear hfz55_6
     try clear hfz55_7
     try clear hfz55_8
     try clear hfz55_9
     try clear hfz58_0
     try clear hfz58_1
     try clear hfz58_2
     try clear hfz60_0
     try clear hfz60_1
     try clear hfz60_10
     try clear hfz60_11
     try clear hfz60_12
     try clear hfz60_13
     try clear hfz60_14
     try clear hfz60_2
     try clear hfz60_3
     try clear hfz60_4
     try clear hfz60_5
     try clear hfz60_6
     try clear hfz60_7
     try clear hfz60_8
     try clear hfz60_9
     try clear hfz63_0
     try clear hfz63_1
     try clear hfz63_2
     try clear hfz73_0
     try clear hfz73_1
     try clear hfz73_10
     try clear hfz73_11
     try clear hfz73_12
     try clear hfz73_13
     try clear hfz73_14
     try clear hfz73_2
     try clear hfz73_3
     try clear hfz73_4
     try clear hfz73_5
     try clear hfz73_6
     try clear hfz73_7
     try clear hfz73_8
     try clear hfz73_9
     try clear hfz74_0
     try clear hfz74_1
     try clear hfz74_2
     try clear hfz76_0
     try clear hfz76_1
     try clear hfz76_10
     try clear hfz76_11
     try clear hfz76_12
     try clear hfz76_13
     try clear hfz76_14
     try clear hfz76_2
     try clear hfz76_3
     try clear hfz76_4
     try clear hfz76_5
     try clear hfz76_6
     try clear hfz76_7
     try clear hfz76_8
     try clear hfz76_9
     try clear hfz77_0
     try clear hfz77_1
     try clear hfz77_2
     try clear hfz79_0
     try clear hfz79_1
     try clear hfz79_10
     try clear hfz79_11
     try clear hfz79_12
     try clear hfz79_13
     try clear hfz79_14
     try clear hfz79_2
     try clear hfz79_3
     try clear hfz79_4
     try clear hfz79_5
     try clear hfz79_6
     try clear hfz79_7
     try clear hfz79_8
     try clear hfz79_9
     try clear hfz82_0
     try clear hfz82_1
     try clear hfz82_10
     try clear hfz82_11
     try clear hfz82_12
     try clear hfz82_13
     try clear hfz82_14
     try clear hfz82_2
     try clear hfz82_3
     try clear hfz82_4
     try clear hfz82_5
     try clear hfz82_6
     try clear hfz82_7
     try clear hfz82_8
     try clear hfz82_9
     try clear hfz83_0
     try clear hfz83_1
     try clear hfz83_2
     try clear hfz85_0
     try clear hfz85_1
     try clear hfz85_10
     try clear hfz85_11
     try clear hfz85_12
     try clear hfz85_13
     try clear hfz85_14
     try clear hfz85_2
     try clear hfz85_3
     try clear hfz85_4
     try clear hfz85_5
     try clear hfz85_6
     try clear hfz85_7
     try clear hfz85_8
     try clear hfz85_9
     try clear hfz86_0
     try clear hfz86_1
     try clear hfz86_2
     try clear hfz89_0
     try clear hfz89_1
     try clear hfz89_10
     try clear hfz89_11
     try clear hfz89_12
     try clear hfz89_13
     try clear hfz89_14
     try clear hfz89_2
     try clear hfz89_3
     try clear hfz89_4
     try clear hfz89_5
     try clear hfz89_6
     try clear hfz89_7
     try clear hfz89_8
     try clear hfz89_9
     try clear hfz90_0
     try clear hfz90_1
     try clear hfz90_2
     obtain ⟨kq, x65_65, rfl, HA, HJ65, BK195, BK196, HB⟩ := hcut
     cases kq with
     | zero => exact absurd HA.out (by simp [spec_IsReduction.j1])
     | succ kj65 =>
      have H := HA.out
      clear HA
      simp only [spec_IsReduction.j1] at H
      by_cases c92 : x65_65 = true
      ·subst c92
       have H1 : (some false) = some r := by rw [if_pos rfl] at H; exact H
       clear H
       have H := H1
       clear H1
       obtain rfl := Option.some.inj H
       go_wp2
       go_ret
       exact ⟨by first | rfl | (simp [errW_none, errW_some] <;> rfl) | (simp [*, errW_none, errW_some] <;> rfl), bb_ HB.out⟩
      ·replace c92 := Bool.eq_false_iff.mpr c92
       subst c92
       have H1 : ((spec_MultiplyMatrices.f kj65 a1_0 a1_1 l1_2 a0_0 a0_1 l0_2).bind fun bt206 => ((spec_MultiplyMatrices.f kj65 bt206.1 bt206.2.1 bt206.2.2.1 a1_9 a1_10 l1_11).bind fun bt213 => (if bt206.2.2.2 = 0 then (if bt213.2.2.2 = 0 then ((spec_l02Same.f kj65 bt213.1 bt213.2.1 bt213.2.2.1 a1_6 a1_7 l1_8).bind fun t220 => (some t220)) else (some false)) else (some false)))) = some r := by rw [if_neg (show ¬ (false = true) by decide)] at H; exact H
       clear H
       have H := H1
       clear H1
       replace H := Option.bind_eq_some_iff.mp H
       obtain ⟨⟨t206, t207, t208, t211⟩, A930, H⟩ := H
       replace H : ((spec_MultiplyMatrices.f kj65 t206 t207 t208 a1_9 a1_10 l1_11).bind fun bt213 => (if t211 = 0 then (if bt213.2.2.2 = 0 then ((spec_l02Same.f kj65 bt213.1 bt213.2.1 bt213.2.2.1 a1_6 a1_7 l1_8).bind fun t220 => (some t220)) else (some false)) else (some false))) = some r := H
       have A93 := am_ A930
       clear A930
       replace H := Option.bind_eq_some_iff.mp H
       obtain ⟨⟨t213, t214, t215, t218⟩, A940, H⟩ := H
       replace H : (if t211 = 0 then (if t218 = 0 then ((spec_l02Same.f kj65 t213 t214 t215 a1_6 a1_7 l1_8).bind fun t220 => (some t220)) else (some false)) else (some false)) = some r := H
       have A94 := am_ A940
       clear A940
       by_cases c95 : t211 = 0
       ·rw [if_pos c95] at H
        have c95b0 : (t211 == 0) = true := beq_iff_eq.mpr c95
        have c95b1 : (t211 != 0) = false := bne_eq_false_iff_eq.mpr c95
        clear c95
        by_cases c96 : t218 = 0
        ·rw [if_pos c96] at H
         have c96b0 : (t218 == 0) = true := beq_iff_eq.mpr c96
         have c96b1 : (t218 != 0) = false := bne_eq_false_iff_eq.mpr c96
         clear c96
         replace H := Option.bind_eq_some_iff.mp H
         obtain ⟨t220, A970, H⟩ := H
         replace H : (some t220) = some r := H
         have A97 := am_ A970
         clear A970
         obtain rfl := Option.some.inj H
         have hnb98 := NB196_195.out
         have hnc98 := NB195_196.out
         obtain ⟨hcz99_0, hcz99_1, hcz99_2, hcz99_3, hcz99_4, hcz99_5, hcz99_6, hcz99_7, hcz99_8, hcz99_9, hcz99_10, hcz99_11, hcz99_12, hcz99_13, hcz99_14, hfz99_0, hfz99_1, hfz99_2, hfz99_3, hfz99_4, hfz99_5, hfz99_6, hfz99_7, hfz99_8, hfz99_9, hfz99_10, hfz99_11, hfz99_12, hfz99_13, hfz99_14⟩ := bx15_ BK196
         obtain ⟨hcz100_0, hcz100_1, hcz100_2, hfz100_0, hfz100_1, hfz100_2⟩ := bx3_ BK195
         go_wp2_with (first | ((with_reducible refine gate_callee (f := 14) rfl ?_); refine goesL_ (some 70) rfl rfl Try.func14 (by kernel_rfl) rfl #[.agg #[.int .i64 a1_0, .int .i64 a1_1, .slice A1_2 l1_2.length c1_2], .agg #[.int .i64 a0_0, .int .i64 a0_1, .slice A0_2 l0_2.length c0_2]] rfl lm_ ?_; (with_reducible refine (spec_MultiplyMatrices.calls kj65 a1_0 a1_1 _ _ l1_2 a0_0 a0_1 _ _ l0_2 t206 t207 t208 t211 _ ?side1 ?side2 ?side3 ?side4 A93.out).mono ?_); (case side1 => repeat (first | exact (Kd.C_below HR1_2.out HB.out) | (with_reducible refine Kd.C_alloc ?_ _) | (with_reducible refine Kd.C_drewN ?_ _) | (with_reducible refine Kd.C_drew ?_))); (case side2 => exact HC1_2.out); (case side3 => repeat (first | exact (Kd.C_below HR0_2.out HB.out) | (with_reducible refine Kd.C_alloc ?_ _) | (with_reducible refine Kd.C_drewN ?_ _) | (with_reducible refine Kd.C_drew ?_))); (case side4 => exact HC0_2.out); rintro e w101 ⟨v209, rfl, ho0, hb⟩; refine ⟨_, rfl, ?_⟩; have n0_ := am_ (Kd.R_lower ho0 (below_size (bb_ HB.out))); have n1_ := am_ (bw_ BK195 hb); have n2_ := am_ (bw_ BK196 hb); have n3_ := am_ (below_step (bb_ HB.out) hb); clear BK195 BK196 HB; revert n0_ n1_ n2_ n3_; intro HO210 BK195 BK196 HB; (try clear hb); (try clear hb2); (try clear hk); (try clear hi); (try clear ho0)) | ((with_reducible refine gate_dst (N := 5) rfl ?_); refine box_event ?hg (N := 5) ?hd (cs := #[.int .i64 0, .int .i64 0, .slice none 0 0]) (t := 28) ?hr ?_; (case hd => rfl); (case hg => rfl); (case hr => first | (go_simp; done) | (go_simp; rfl)); intro gb212 hg w102 hbox hb; have n0_ := am_ (Kd.R_below (rk_ HO210.out) hb); have n1_ := am_ (bw_ BK195 hb); have n2_ := am_ (bw_ BK196 hb); have n3_ := am_ (below_step (bb_ HB.out) hb); have n4_ := am_ (hbox); have n5_ := am_ ((by rw [hg]; exact (below_size (bb_ HB.out)) : w.heap.size ≤ gb212)); have n6_ := am_ ((by rw [hg]; exact (below_size (bb_ HB.out)) : w.heap.size ≤ gb212)); have n7_ := am_ (nl_ BK195 hg); have n8_ := am_ (ng_ BK195 hg); have n9_ := am_ (nl_ BK196 hg); have n10_ := am_ (ng_ BK196 hg); clear HO210 BK195 BK196 HB; revert n0_ n1_ n2_ n3_ n4_ n5_ n6_ n7_ n8_ n9_ n10_; intro HO210 BK195 BK196 HB BK212 GW212 GE212 NB195_212 NB212_195 NB196_212 NB212_196; clear hb hbox hg; have hnb103 := NB212_195.out; have hnc103 := NB195_212.out; have hnb104 := NB212_196.out; have hnc104 := NB196_212.out; obtain ⟨hcz105_0, hcz105_1, hcz105_2, hfz105_0, hfz105_1, hfz105_2⟩ := bx3_ BK212; obtain ⟨Ao106, co106, eo106⟩ := Kd.R_slice HO210.out; subst eo106; obtain ⟨hcz107_0, hcz107_1, hcz107_2, hcz107_3, hcz107_4, hcz107_5, hcz107_6, hcz107_7, hcz107_8, hcz107_9, hcz107_10, hcz107_11, hcz107_12, hcz107_13, hcz107_14, hfz107_0, hfz107_1, hfz107_2, hfz107_3, hfz107_4, hfz107_5, hfz107_6, hfz107_7, hfz107_8, hfz107_9, hfz107_10, hfz107_11, hfz107_12, hfz107_13, hfz107_14⟩ := bx15_ BK196) | ((with_reducible refine gate_callee (f := 14) rfl ?_); refine goesL_ (some 77) rfl rfl Try.func14 (by kernel_rfl) rfl #[.agg #[.int .i64 t206, .int .i64 t207, .slice Ao106 t208.length co106], .agg #[.int .i64 a1_9, .int .i64 a1_10, .slice A1_11 l1_11.length c1_11]] rfl lm_ ?_; (with_reducible refine (spec_MultiplyMatrices.calls kj65 t206 t207 _ _ t208 a1_9 a1_10 _ _ l1_11 t213 t214 t215 t218 _ ?side1 ?side2 ?side3 ?side4 A94.out).mono ?_); (case side1 => refine (Kd.R_reads' (e := 2) (base := w.heap.size) (ok := fun k_ => True) (n := t208.length) (c := co106) ?_).2.2; exact ((rm_ (Kd.R_far (p := ⟨gb212, 2, none⟩) (Kd.R_far (p := ⟨gb212, 1, none⟩) (Kd.R_far (p := ⟨gb212, 0, none⟩) (Kd.R_types HO210.out BK212.out (by decide)) (fun _ hk => hk.2) (.int .i64 t206)) (fun _ hk => hk.2) (.int .i64 t207)) (fun _ hk => hk.2) (.slice Ao106 t208.length co106)) (fun _ h_ => h_.1)))); (case side2 => exact (Kd.R_reads' HO210.out).2.1); (case side3 => exact Kd.C_below HR1_11.out (bb_ HB.out)); (case side4 => exact HC1_11.out); rintro e w108 ⟨v216, rfl, ho0, hb⟩; refine ⟨_, rfl, ?_⟩; have n0_ := am_ (Kd.R_elder' ((rm_ (Kd.R_far (p := ⟨gb212, 2, none⟩) (Kd.R_far (p := ⟨gb212, 1, none⟩) (Kd.R_far (p := ⟨gb212, 0, none⟩) (Kd.R_types HO210.out BK212.out (by decide)) (fun _ hk => hk.2) (.int .i64 t206)) (fun _ hk => hk.2) (.int .i64 t207)) (fun _ hk => hk.2) (.slice Ao106 t208.length co106)) (fun _ h_ => h_.1))) (Kd.R_base ho0) hb); have n1_ := am_ (Kd.R_lower (Kd.R_new' ho0 (Kd.R_lt ((rm_ (Kd.R_far (p := ⟨gb212, 2, none⟩) (Kd.R_far (p := ⟨gb212, 1, none⟩) (Kd.R_far (p := ⟨gb212, 0, none⟩) (Kd.R_types HO210.out BK212.out (by decide)) (fun _ hk => hk.2) (.int .i64 t206)) (fun _ hk => hk.2) (.int .i64 t207)) (fun _ hk => hk.2) (.slice Ao106 t208.length co106)) (fun _ h_ => h_.1))))) (below_size (bb_ HB.out))); have n2_ := am_ (bw_ BK195 hb); have n3_ := am_ (bw_ BK196 hb); have n4_ := am_ (blk_below (g := gb212) (o := .cells #[.int .i64 t206, .int .i64 t207, .slice Ao106 t208.length co106] 28 (0, 0)) (by (with_reducible repeat (first | refine blk_drewN ?_ _ | refine blk_drew ?_ | refine blk_alloc ?_ _)); refine blk_put (cs := #[.int .i64 t206, .int .i64 t207, .slice none 0 0]) ?_ 2 _ rfl; (with_reducible repeat (first | refine blk_drewN ?_ _ | refine blk_drew ?_ | refine blk_alloc ?_ _)); refine blk_put (cs := #[.int .i64 t206, .int .i64 0, .slice none 0 0]) ?_ 1 _ rfl; (with_reducible repeat (first | refine blk_drewN ?_ _ | refine blk_drew ?_ | refine blk_alloc ?_ _)); refine blk_put (cs := #[.int .i64 0, .int .i64 0, .slice none 0 0]) ?_ 0 _ rfl; (with_reducible repeat (first | refine blk_drewN ?_ _ | refine blk_drew ?_ | refine blk_alloc ?_ _)); exact BK212.out) hb); have n5_ := am_ (below_step (bb_ HB.out) hb); clear HO210 BK195 BK196 BK212 HB; revert n0_ n1_ n2_ n3_ n4_ n5_; intro HO210 HO217 BK195 BK196 BK212 HB; (try clear hb); (try clear hb2); (try clear hk); (try clear hi); (try clear ho0)) | ((with_reducible refine gate_dst (N := 7) rfl ?_); refine box_event ?hg (N := 7) ?hd (cs := #[.int .i64 0, .int .i64 0, .slice none 0 0]) (t := 28) ?hr ?_; (case hd => rfl); (case hg => rfl); (case hr => first | (go_simp; done) | (go_simp; rfl)); intro gb219 hg w109 hbox hb; have n0_ := am_ (Kd.R_below (rk_ HO210.out) hb); have n1_ := am_ (Kd.R_below (rk_ HO217.out) hb); have n2_ := am_ (bw_ BK195 hb); have n3_ := am_ (bw_ BK196 hb); have n4_ := am_ (bw_ BK212 hb); have n5_ := am_ (below_step (bb_ HB.out) hb); have n6_ := am_ (hbox); have n7_ := am_ ((by rw [hg]; exact (below_size (bb_ HB.out)) : w.heap.size ≤ gb219)); have n8_ := am_ ((by rw [hg]; exact (below_size (bb_ HB.out)) : w.heap.size ≤ gb219)); have n9_ := am_ (nl_ BK195 hg); have n10_ := am_ (ng_ BK195 hg); have n11_ := am_ (nl_ BK196 hg); have n12_ := am_ (ng_ BK196 hg); have n13_ := am_ (nl_ BK212 hg); have n14_ := am_ (ng_ BK212 hg); clear HO210 HO217 BK195 BK196 BK212 HB; revert n0_ n1_ n2_ n3_ n4_ n5_ n6_ n7_ n8_ n9_ n10_ n11_ n12_ n13_ n14_; intro HO210 HO217 BK195 BK196 BK212 HB BK219 GW219 GE219 NB195_219 NB219_195 NB196_219 NB219_196 NB212_219 NB219_212; clear hb hbox hg; have hnb110 := NB219_195.out; have hnc110 := NB195_219.out; have hnb111 := NB219_196.out; have hnc111 := NB196_219.out; have hnb112 := NB219_212.out; have hnc112 := NB212_219.out; obtain ⟨hcz113_0, hcz113_1, hcz113_2, hfz113_0, hfz113_1, hfz113_2⟩ := bx3_ BK219; obtain ⟨Ao114, co114, eo114⟩ := Kd.R_slice HO217.out; subst eo114; obtain ⟨hcz115_0, hcz115_1, hcz115_2, hcz115_3, hcz115_4, hcz115_5, hcz115_6, hcz115_7, hcz115_8, hcz115_9, hcz115_10, hcz115_11, hcz115_12, hcz115_13, hcz115_14, hfz115_0, hfz115_1, hfz115_2, hfz115_3, hfz115_4, hfz115_5, hfz115_6, hfz115_7, hfz115_8, hfz115_9, hfz115_10, hfz115_11, hfz115_12, hfz115_13, hfz115_14⟩ := bx15_ BK196) | (go_at_call 43; (with_reducible refine (spec_l02Same.calls kj65 t213 t214 _ _ t215 a1_6 a1_7 _ _ l1_8 t220 _ ?side1 ?side2 ?side3 ?side4 A97.out).mono ?_); (case side1 => refine (Kd.R_reads' (e := 2) (base := w.heap.size) (ok := fun k_ => (True ∧ some k_ ≠ (.slice Ao106 t208.length co106 : Value).ownBlock)) (n := t215.length) (c := co114) ?_).2.2; exact ((rm_ (Kd.R_far (p := ⟨gb219, 2, none⟩) (Kd.R_far (p := ⟨gb219, 1, none⟩) (Kd.R_far (p := ⟨gb219, 0, none⟩) (Kd.R_types HO217.out BK219.out (by decide)) (fun _ hk => hk.2) (.int .i64 t213)) (fun _ hk => hk.2) (.int .i64 t214)) (fun _ hk => hk.2) (.slice Ao114 t215.length co114)) (fun _ h_ => h_.1)))); (case side2 => exact (Kd.R_reads' HO217.out).2.1); (case side3 => exact Kd.C_below HR1_8.out (bb_ HB.out)); (case side4 => exact HC1_8.out); rintro e w116 ⟨rfl, hb⟩; have n0_ := am_ (Kd.R_below ((rm_ (Kd.R_far (p := ⟨gb219, 2, none⟩) (Kd.R_far (p := ⟨gb219, 1, none⟩) (Kd.R_far (p := ⟨gb219, 0, none⟩) (Kd.R_types HO210.out BK219.out (by decide)) (fun _ hk => hk.2) (.int .i64 t213)) (fun _ hk => hk.2) (.int .i64 t214)) (fun _ hk => hk.2) (.slice Ao114 t215.length co114)) (fun _ h_ => h_.1))) hb); have n1_ := am_ (Kd.R_below ((rm_ (Kd.R_far (p := ⟨gb219, 2, none⟩) (Kd.R_far (p := ⟨gb219, 1, none⟩) (Kd.R_far (p := ⟨gb219, 0, none⟩) (Kd.R_types HO217.out BK219.out (by decide)) (fun _ hk => hk.2) (.int .i64 t213)) (fun _ hk => hk.2) (.int .i64 t214)) (fun _ hk => hk.2) (.slice Ao114 t215.length co114)) (fun _ h_ => h_.1))) hb); have n2_ := am_ (bw_ BK195 hb); have n3_ := am_ (bw_ BK196 hb); have n4_ := am_ (bw_ BK212 hb); have n5_ := am_ (blk_below (g := gb219) (o := .cells #[.int .i64 t213, .int .i64 t214, .slice Ao114 t215.length co114] 28 (0, 0)) (by (with_reducible repeat (first | refine blk_drewN ?_ _ | refine blk_drew ?_ | refine blk_alloc ?_ _)); refine blk_put (cs := #[.int .i64 t213, .int .i64 t214, .slice none 0 0]) ?_ 2 _ rfl; (with_reducible repeat (first | refine blk_drewN ?_ _ | refine blk_drew ?_ | refine blk_alloc ?_ _)); refine blk_put (cs := #[.int .i64 t213, .int .i64 0, .slice none 0 0]) ?_ 1 _ rfl; (with_reducible repeat (first | refine blk_drewN ?_ _ | refine blk_drew ?_ | refine blk_alloc ?_ _)); refine blk_put (cs := #[.int .i64 0, .int .i64 0, .slice none 0 0]) ?_ 0 _ rfl; (with_reducible repeat (first | refine blk_drewN ?_ _ | refine blk_drew ?_ | refine blk_alloc ?_ _)); exact BK219.out) hb); have n6_ := am_ (below_step (bb_ HB.out) hb); clear HO210 HO217 BK195 BK196 BK212 BK219 HB; revert n0_ n1_ n2_ n3_ n4_ n5_ n6_; intro HO210 HO217 BK195 BK196 BK212 BK219 HB; (try clear hb); (try clear hb2); (try clear hk); (try clear hi)))
         go_ret
         exact ⟨by first | rfl | (simp [errW_none, errW_some] <;> rfl) | (simp [*, errW_none, errW_some] <;> rfl), bb_ HB.out⟩
        ·rw [if_neg c96] at H
         have c96b0 : (t218 == 0) = false := beq_eq_false_iff_ne.mpr c96
         have c96b1 : (t218 != 0) = true := bne_iff_ne.mpr c96
         obtain rfl := Option.some.inj H
         have hnb117 := NB196_195.out
         have hnc117 := NB195_196.out
         obtain ⟨hcz118_0, hcz118_1, hcz118_2, hcz118_3, hcz118_4, hcz118_5, hcz118_6, hcz118_7, hcz118_8, hcz118_9, hcz118_10, hcz118_11, hcz118_12, hcz118_13, hcz118_14, hfz118_0, hfz118_1, hfz118_2, hfz118_3, hfz118_4, hfz118_5, hfz118_6, hfz118_7, hfz118_8, hfz118_9, hfz118_10, hfz118_11, hfz118_12, hfz118_13, hfz118_14⟩ := bx15_ BK196
         obtain ⟨hcz119_0, hcz119_1, hcz119_2, hfz119_0, hfz119_1, hfz119_2⟩ := bx3_ BK195
         go_wp2_with (first | ((with_reducible refine gate_callee (f := 14) rfl ?_); refine goesL_ (some 70) rfl rfl Try.func14 (by kernel_rfl) rfl #[.agg #[.int .i64 a1_0, .int .i64 a1_1, .slice A1_2 l1_2.length c1_2], .agg #[.int .i64 a0_0, .int .i64 a0_1, .slice A0_2 l0_2.length c0_2]] rfl lm_ ?_; (with_reducible refine (spec_MultiplyMatrices.calls kj65 a1_0 a1_1 _ _ l1_2 a0_0 a0_1 _ _ l0_2 t206 t207 t208 t211 _ ?side1 ?side2 ?side3 ?side4 A93.out).mono ?_); (case side1 => repeat (first | exact (Kd.C_below HR1_2.out HB.out) | (with_reducible refine Kd.C_alloc ?_ _) | (with_reducible refine Kd.C_drewN ?_ _) | (with_reducible refine Kd.C_drew ?_))); (case side2 => exact HC1_2.out); (case side3 => repeat (first | exact (Kd.C_below HR0_2.out HB.out) | (with_reducible refine Kd.C_alloc ?_ _) | (with_reducible refine Kd.C_drewN ?_ _) | (with_reducible refine Kd.C_drew ?_))); (case side4 => exact HC0_2.out); rintro e w120 ⟨v209, rfl, ho0, hb⟩; refine ⟨_, rfl, ?_⟩; have n0_ := am_ (Kd.R_lower ho0 (below_size (bb_ HB.out))); have n1_ := am_ (bw_ BK195 hb); have n2_ := am_ (bw_ BK196 hb); have n3_ := am_ (below_step (bb_ HB.out) hb); clear BK195 BK196 HB; revert n0_ n1_ n2_ n3_; intro HO210 BK195 BK196 HB; (try clear hb); (try clear hb2); (try clear hk); (try clear hi); (try clear ho0)) | ((with_reducible refine gate_dst (N := 5) rfl ?_); refine box_event ?hg (N := 5) ?hd (cs := #[.int .i64 0, .int .i64 0, .slice none 0 0]) (t := 28) ?hr ?_; (case hd => rfl); (case hg => rfl); (case hr => first | (go_simp; done) | (go_simp; rfl)); intro gb212 hg w121 hbox hb; have n0_ := am_ (Kd.R_below (rk_ HO210.out) hb); have n1_ := am_ (bw_ BK195 hb); have n2_ := am_ (bw_ BK196 hb); have n3_ := am_ (below_step (bb_ HB.out) hb); have n4_ := am_ (hbox); have n5_ := am_ ((by rw [hg]; exact (below_size (bb_ HB.out)) : w.heap.size ≤ gb212)); have n6_ := am_ ((by rw [hg]; exact (below_size (bb_ HB.out)) : w.heap.size ≤ gb212)); have n7_ := am_ (nl_ BK195 hg); have n8_ := am_ (ng_ BK195 hg); have n9_ := am_ (nl_ BK196 hg); have n10_ := am_ (ng_ BK196 hg); clear HO210 BK195 BK196 HB; revert n0_ n1_ n2_ n3_ n4_ n5_ n6_ n7_ n8_ n9_ n10_; intro HO210 BK195 BK196 HB BK212 GW212 GE212 NB195_212 NB212_195 NB196_212 NB212_196; clear hb hbox hg; have hnb122 := NB212_195.out; have hnc122 := NB195_212.out; have hnb123 := NB212_196.out; have hnc123 := NB196_212.out; obtain ⟨hcz124_0, hcz124_1, hcz124_2, hfz124_0, hfz124_1, hfz124_2⟩ := bx3_ BK212; obtain ⟨Ao125, co125, eo125⟩ := Kd.R_slice HO210.out; subst eo125; obtain ⟨hcz126_0, hcz126_1, hcz126_2, hcz126_3, hcz126_4, hcz126_5, hcz126_6, hcz126_7, hcz126_8, hcz126_9, hcz126_10, hcz126_11, hcz126_12, hcz126_13, hcz126_14, hfz126_0, hfz126_1, hfz126_2, hfz126_3, hfz126_4, hfz126_5, hfz126_6, hfz126_7, hfz126_8, hfz126_9, hfz126_10, hfz126_11, hfz126_12, hfz126_13, hfz126_14⟩ := bx15_ BK196) | ((with_reducible refine gate_callee (f := 14) rfl ?_); refine goesL_ (some 77) rfl rfl Try.func14 (by kernel_rfl) rfl #[.agg #[.int .i64 t206, .int .i64 t207, .slice Ao125 t208.length co125], .agg #[.int .i64 a1_9, .int .i64 a1_10, .slice A1_11 l1_11.length c1_11]] rfl lm_ ?_; (with_reducible refine (spec_MultiplyMatrices.calls kj65 t206 t207 _ _ t208 a1_9 a1_10 _ _ l1_11 t213 t214 t215 t218 _ ?side1 ?side2 ?side3 ?side4 A94.out).mono ?_); (case side1 => refine (Kd.R_reads' (e := 2) (base := w.heap.size) (ok := fun k_ => True) (n := t208.length) (c := co125) ?_).2.2; exact ((rm_ (Kd.R_far (p := ⟨gb212, 2, none⟩) (Kd.R_far (p := ⟨gb212, 1, none⟩) (Kd.R_far (p := ⟨gb212, 0, none⟩) (Kd.R_types HO210.out BK212.out (by decide)) (fun _ hk => hk.2) (.int .i64 t206)) (fun _ hk => hk.2) (.int .i64 t207)) (fun _ hk => hk.2) (.slice Ao125 t208.length co125)) (fun _ h_ => h_.1)))); (case side2 => exact (Kd.R_reads' HO210.out).2.1); (case side3 => exact Kd.C_below HR1_11.out (bb_ HB.out)); (case side4 => exact HC1_11.out); rintro e w127 ⟨v216, rfl, ho0, hb⟩; refine ⟨_, rfl, ?_⟩; have n0_ := am_ (Kd.R_elder' ((rm_ (Kd.R_far (p := ⟨gb212, 2, none⟩) (Kd.R_far (p := ⟨gb212, 1, none⟩) (Kd.R_far (p := ⟨gb212, 0, none⟩) (Kd.R_types HO210.out BK212.out (by decide)) (fun _ hk => hk.2) (.int .i64 t206)) (fun _ hk => hk.2) (.int .i64 t207)) (fun _ hk => hk.2) (.slice Ao125 t208.length co125)) (fun _ h_ => h_.1))) (Kd.R_base ho0) hb); have n1_ := am_ (Kd.R_lower (Kd.R_new' ho0 (Kd.R_lt ((rm_ (Kd.R_far (p := ⟨gb212, 2, none⟩) (Kd.R_far (p := ⟨gb212, 1, none⟩) (Kd.R_far (p := ⟨gb212, 0, none⟩) (Kd.R_types HO210.out BK212.out (by decide)) (fun _ hk => hk.2) (.int .i64 t206)) (fun _ hk => hk.2) (.int .i64 t207)) (fun _ hk => hk.2) (.slice Ao125 t208.length co125)) (fun _ h_ => h_.1))))) (below_size (bb_ HB.out))); have n2_ := am_ (bw_ BK195 hb); have n3_ := am_ (bw_ BK196 hb); have n4_ := am_ (blk_below (g := gb212) (o := .cells #[.int .i64 t206, .int .i64 t207, .slice Ao125 t208.length co125] 28 (0, 0)) (by (with_reducible repeat (first | refine blk_drewN ?_ _ | refine blk_drew ?_ | refine blk_alloc ?_ _)); refine blk_put (cs := #[.int .i64 t206, .int .i64 t207, .slice none 0 0]) ?_ 2 _ rfl; (with_reducible repeat (first | refine blk_drewN ?_ _ | refine blk_drew ?_ | refine blk_alloc ?_ _)); refine blk_put (cs := #[.int .i64 t206, .int .i64 0, .slice none 0 0]) ?_ 1 _ rfl; (with_reducible repeat (first | refine blk_drewN ?_ _ | refine blk_drew ?_ | refine blk_alloc ?_ _)); refine blk_put (cs := #[.int .i64 0, .int .i64 0, .slice none 0 0]) ?_ 0 _ rfl; (with_reducible repeat (first | refine blk_drewN ?_ _ | refine blk_drew ?_ | refine blk_alloc ?_ _)); exact BK212.out) hb); have n5_ := am_ (below_step (bb_ HB.out) hb); clear HO210 BK195 BK196 BK212 HB; revert n0_ n1_ n2_ n3_ n4_ n5_; intro HO210 HO217 BK195 BK196 BK212 HB; (try clear hb); (try clear hb2); (try clear hk); (try clear hi); (try clear ho0)) | ((with_reducible refine gate_dst (N := 7) rfl ?_); refine box_event ?hg (N := 7) ?hd (cs := #[.int .i64 0, .int .i64 0, .slice none 0 0]) (t := 28) ?hr ?_; (case hd => rfl); (case hg => rfl); (case hr => first | (go_simp; done) | (go_simp; rfl)); intro gb219 hg w128 hbox hb; have n0_ := am_ (Kd.R_below (rk_ HO210.out) hb); have n1_ := am_ (Kd.R_below (rk_ HO217.out) hb); have n2_ := am_ (bw_ BK195 hb); have n3_ := am_ (bw_ BK196 hb); have n4_ := am_ (bw_ BK212 hb); have n5_ := am_ (below_step (bb_ HB.out) hb); have n6_ := am_ (hbox); have n7_ := am_ ((by rw [hg]; exact (below_size (bb_ HB.out)) : w.heap.size ≤ gb219)); have n8_ := am_ ((by rw [hg]; exact (below_size (bb_ HB.out)) : w.heap.size ≤ gb219)); have n9_ := am_ (nl_ BK195 hg); have n10_ := am_ (ng_ BK195 hg); have n11_ := am_ (nl_ BK196 hg); have n12_ := am_ (ng_ BK196 hg); have n13_ := am_ (nl_ BK212 hg); have n14_ := am_ (ng_ BK212 hg); clear HO210 HO217 BK195 BK196 BK212 HB; revert n0_ n1_ n2_ n3_ n4_ n5_ n6_ n7_ n8_ n9_ n10_ n11_ n12_ n13_ n14_; intro HO210 HO217 BK195 BK196 BK212 HB BK219 GW219 GE219 NB195_219 NB219_195 NB196_219 NB219_196 NB212_219 NB219_212; clear hb hbox hg; have hnb129 := NB219_195.out; have hnc129 := NB195_219.out; have hnb130 := NB219_196.out; have hnc130 := NB196_219.out; have hnb131 := NB219_212.out; have hnc131 := NB212_219.out; obtain ⟨hcz132_0, hcz132_1, hcz132_2, hfz132_0, hfz132_1, hfz132_2⟩ := bx3_ BK219; obtain ⟨Ao133, co133, eo133⟩ := Kd.R_slice HO217.out; subst eo133))
         go_ret
         exact ⟨by first | rfl | (simp [errW_none, errW_some] <;> rfl) | (simp [*, errW_none, errW_some] <;> rfl), bb_ HB.out⟩
       ·rw [if_neg c95] at H
        have c95b0 : (t211 == 0) = false := beq_eq_false_iff_ne.mpr c95
        have c95b1 : (t211 != 0) = true := bne_iff_ne.mpr c95
        obtain rfl := Option.some.inj H
        have hnb134 := NB196_195.out
        have hnc134 := NB195_196.out
        obtain ⟨hcz135_0, hcz135_1, hcz135_2, hcz135_3, hcz135_4, hcz135_5, hcz135_6, hcz135_7, hcz135_8, hcz135_9, hcz135_10, hcz135_11, hcz135_12, hcz135_13, hcz135_14, hfz135_0, hfz135_1, hfz135_2, hfz135_3, hfz135_4, hfz135_5, hfz135_6, hfz135_7, hfz135_8, hfz135_9, hfz135_10, hfz135_11, hfz135_12, hfz135_13, hfz135_14⟩ := bx15_ BK196
        obtain ⟨hcz136_0, hcz136_1, hcz136_2, hfz136_0, hfz136_1, hfz136_2⟩ := bx3_ BK195
        go_wp2_with (first | ((with_reducible refine gate_callee (f := 14) rfl ?_); refine goesL_ (some 70) rfl rfl Try.func14 (by kernel_rfl) rfl #[.agg #[.int .i64 a1_0, .int .i64 a1_1, .slice A1_2 l1_2.length c1_2], .agg #[.int .i64 a0_0, .int .i64 a0_1, .slice A0_2 l0_2.length c0_2]] rfl lm_ ?_; (with_reducible refine (spec_MultiplyMatrices.calls kj65 a1_0 a1_1 _ _ l1_2 a0_0 a0_1 _ _ l0_2 t206 t207 t208 t211 _ ?side1 ?side2 ?side3 ?side4 A93.out).mono ?_); (case side1 => repeat (first | exact (Kd.C_below HR1_2.out HB.out) | (with_reducible refine Kd.C_alloc ?_ _) | (with_reducible refine Kd.C_drewN ?_ _) | (with_reducible refine Kd.C_drew ?_))); (case side2 => exact HC1_2.out); (case side3 => repeat (first | exact (Kd.C_below HR0_2.out HB.out) | (with_reducible refine Kd.C_alloc ?_ _) | (with_reducible refine Kd.C_drewN ?_ _) | (with_reducible refine Kd.C_drew ?_))); (case side4 => exact HC0_2.out); rintro e w137 ⟨v209, rfl, ho0, hb⟩; refine ⟨_, rfl, ?_⟩; have n0_ := am_ (Kd.R_lower ho0 (below_size (bb_ HB.out))); have n1_ := am_ (bw_ BK195 hb); have n2_ := am_ (bw_ BK196 hb); have n3_ := am_ (below_step (bb_ HB.out) hb); clear BK195 BK196 HB; revert n0_ n1_ n2_ n3_; intro HO210 BK195 BK196 HB; (try clear hb); (try clear hb2); (try clear hk); (try clear hi); (try clear ho0)) | ((with_reducible refine gate_dst (N := 5) rfl ?_); refine box_event ?hg (N := 5) ?hd (cs := #[.int .i64 0, .int .i64 0, .slice none 0 0]) (t := 28) ?hr ?_; (case hd => rfl); (case hg => rfl); (case hr => first | (go_simp; done) | (go_simp; rfl)); intro gb212 hg w138 hbox hb; have n0_ := am_ (Kd.R_below (rk_ HO210.out) hb); have n1_ := am_ (bw_ BK195 hb); have n2_ := am_ (bw_ BK196 hb); have n3_ := am_ (below_step (bb_ HB.out) hb); have n4_ := am_ (hbox); have n5_ := am_ ((by rw [hg]; exact (below_size (bb_ HB.out)) : w.heap.size ≤ gb212)); have n6_ := am_ ((by rw [hg]; exact (below_size (bb_ HB.out)) : w.heap.size ≤ gb212)); have n7_ := am_ (nl_ BK195 hg); have n8_ := am_ (ng_ BK195 hg); have n9_ := am_ (nl_ BK196 hg); have n10_ := am_ (ng_ BK196 hg); clear HO210 BK195 BK196 HB; revert n0_ n1_ n2_ n3_ n4_ n5_ n6_ n7_ n8_ n9_ n10_; intro HO210 BK195 BK196 HB BK212 GW212 GE212 NB195_212 NB212_195 NB196_212 NB212_196; clear hb hbox hg; have hnb139 := NB212_195.out; have hnc139 := NB195_212.out; have hnb140 := NB212_196.out; have hnc140 := NB196_212.out; obtain ⟨hcz141_0, hcz141_1, hcz141_2, hfz141_0, hfz141_1, hfz141_2⟩ := bx3_ BK212; obtain ⟨Ao142, co142, eo142⟩ := Kd.R_slice HO210.out; subst eo142; obtain ⟨hcz143_0, hcz143_1, hcz143_2, hcz143_3, hcz143_4, hcz143_5, hcz143_6, hcz143_7, hcz143_8, hcz143_9, hcz143_10, hcz143_11, hcz143_12, hcz143_13, hcz143_14, hfz143_0, hfz143_1, hfz143_2, hfz143_3, hfz143_4, hfz143_5, hfz143_6, hfz143_7, hfz143_8, hfz143_9, hfz143_10, hfz143_11, hfz143_12, hfz143_13, hfz143_14⟩ := bx15_ BK196) | ((with_reducible refine gate_callee (f := 14) rfl ?_); refine goesL_ (some 77) rfl rfl Try.func14 (by kernel_rfl) rfl #[.agg #[.int .i64 t206, .int .i64 t207, .slice Ao142 t208.length co142], .agg #[.int .i64 a1_9, .int .i64 a1_10, .slice A1_11 l1_11.length c1_11]] rfl lm_ ?_; (with_reducible refine (spec_MultiplyMatrices.calls kj65 t206 t207 _ _ t208 a1_9 a1_10 _ _ l1_11 t213 t214 t215 t218 _ ?side1 ?side2 ?side3 ?side4 A94.out).mono ?_); (case side1 => refine (Kd.R_reads' (e := 2) (base := w.heap.size) (ok := fun k_ => True) (n := t208.length) (c := co142) ?_).2.2; exact ((rm_ (Kd.R_far (p := ⟨gb212, 2, none⟩) (Kd.R_far (p := ⟨gb212, 1, none⟩) (Kd.R_far (p := ⟨gb212, 0, none⟩) (Kd.R_types HO210.out BK212.out (by decide)) (fun _ hk => hk.2) (.int .i64 t206)) (fun _ hk => hk.2) (.int .i64 t207)) (fun _ hk => hk.2) (.slice Ao142 t208.length co142)) (fun _ h_ => h_.1)))); (case side2 => exact (Kd.R_reads' HO210.out).2.1); (case side3 => exact Kd.C_below HR1_11.out (bb_ HB.out)); (case side4 => exact HC1_11.out); rintro e w144 ⟨v216, rfl, ho0, hb⟩; refine ⟨_, rfl, ?_⟩; have n0_ := am_ (Kd.R_elder' ((rm_ (Kd.R_far (p := ⟨gb212, 2, none⟩) (Kd.R_far (p := ⟨gb212, 1, none⟩) (Kd.R_far (p := ⟨gb212, 0, none⟩) (Kd.R_types HO210.out BK212.out (by decide)) (fun _ hk => hk.2) (.int .i64 t206)) (fun _ hk => hk.2) (.int .i64 t207)) (fun _ hk => hk.2) (.slice Ao142 t208.length co142)) (fun _ h_ => h_.1))) (Kd.R_base ho0) hb); have n1_ := am_ (Kd.R_lower (Kd.R_new' ho0 (Kd.R_lt ((rm_ (Kd.R_far (p := ⟨gb212, 2, none⟩) (Kd.R_far (p := ⟨gb212, 1, none⟩) (Kd.R_far (p := ⟨gb212, 0, none⟩) (Kd.R_types HO210.out BK212.out (by decide)) (fun _ hk => hk.2) (.int .i64 t206)) (fun _ hk => hk.2) (.int .i64 t207)) (fun _ hk => hk.2) (.slice Ao142 t208.length co142)) (fun _ h_ => h_.1))))) (below_size (bb_ HB.out))); have n2_ := am_ (bw_ BK195 hb); have n3_ := am_ (bw_ BK196 hb); have n4_ := am_ (blk_below (g := gb212) (o := .cells #[.int .i64 t206, .int .i64 t207, .slice Ao142 t208.length co142] 28 (0, 0)) (by (with_reducible repeat (first | refine blk_drewN ?_ _ | refine blk_drew ?_ | refine blk_alloc ?_ _)); refine blk_put (cs := #[.int .i64 t206, .int .i64 t207, .slice none 0 0]) ?_ 2 _ rfl; (with_reducible repeat (first | refine blk_drewN ?_ _ | refine blk_drew ?_ | refine blk_alloc ?_ _)); refine blk_put (cs := #[.int .i64 t206, .int .i64 0, .slice none 0 0]) ?_ 1 _ rfl; (with_reducible repeat (first | refine blk_drewN ?_ _ | refine blk_drew ?_ | refine blk_alloc ?_ _)); refine blk_put (cs := #[.int .i64 0, .int .i64 0, .slice none 0 0]) ?_ 0 _ rfl; (with_reducible repeat (first | refine blk_drewN ?_ _ | refine blk_drew ?_ | refine blk_alloc ?_ _)); exact BK212.out) hb); have n5_ := am_ (below_step (bb_ HB.out) hb); clear HO210 BK195 BK196 BK212 HB; revert n0_ n1_ n2_ n3_ n4_ n5_; intro HO210 HO217 BK195 BK196 BK212 HB; (try clear hb); (try clear hb2); (try clear hk); (try clear hi); (try clear ho0)) | ((with_reducible refine gate_dst (N := 7) rfl ?_); refine box_event ?hg (N := 7) ?hd (cs := #[.int .i64 0, .int .i64 0, .slice none 0 0]) (t := 28) ?hr ?_; (case hd => rfl); (case hg => rfl); (case hr => first | (go_simp; done) | (go_simp; rfl)); intro gb219 hg w145 hbox hb; have n0_ := am_ (Kd.R_below (rk_ HO210.out) hb); have n1_ := am_ (Kd.R_below (rk_ HO217.out) hb); have n2_ := am_ (bw_ BK195 hb); have n3_ := am_ (bw_ BK196 hb); have n4_ := am_ (bw_ BK212 hb); have n5_ := am_ (below_step (bb_ HB.out) hb); have n6_ := am_ (hbox); have n7_ := am_ ((by rw [hg]; exact (below_size (bb_ HB.out)) : w.heap.size ≤ gb219)); have n8_ := am_ ((by rw [hg]; exact (below_size (bb_ HB.out)) : w.heap.size ≤ gb219)); have n9_ := am_ (nl_ BK195 hg); have n10_ := am_ (ng_ BK195 hg); have n11_ := am_ (nl_ BK196 hg); have n12_ := am_ (ng_ BK196 hg); have n13_ := am_ (nl_ BK212 hg); have n14_ := am_ (ng_ BK212 hg); clear HO210 HO217 BK195 BK196 BK212 HB; revert n0_ n1_ n2_ n3_ n4_ n5_ n6_ n7_ n8_ n9_ n10_ n11_ n12_ n13_ n14_; intro HO210 HO217 BK195 BK196 BK212 HB BK219 GW219 GE219 NB195_219 NB219_195 NB196_219 NB219_196 NB212_219 NB219_212; clear hb hbox hg; have hnb146 := NB219_195.out; have hnc146 := NB195_219.out; have hnb147 := NB219_196.out; have hnc147 := NB196_219.out; have hnb148 := NB219_212.out; have hnc148 := NB212_219.out; obtain ⟨hcz149_0, hcz149_1, hcz149_2, hfz149_0, hfz149_1, hfz149_2⟩ := bx3_ BK219; obtain ⟨Ao150, co150, eo150⟩ := Kd.R_slice HO217.out; subst eo150))
        go_ret
        exact ⟨by first | rfl | (simp [errW_none, errW_some] <;> rfl) | (simp [*, errW_none, errW_some] <;> rfl), bb_ HB.out⟩

end Go.Proofs.Ytifbfloifdkacaa.PFnExactIsReduction
