/- The law FnExactIsReduction, out of its plain statement and the walk of its machine side. No condition: for every input. -/
import Derived.Test.YtifbfloifdkacaaRows
import Derived.Test.YtifbfloifdkacaaVFnExactIsReductionStmt
import Derived.Test.YtifbfloifdkacaaVFnExactIsReductionPure
import Derived.Test.YtifbfloifdkacaaVFnExactIsReductionOpen
import Derived.WalkKit
import Derived.ProofKit
import Derived.OpenShut
import Derived.ShutString
import Derived.ChangeOld
import Derived.Below
import Derived.SizedLaws
import Derived.Lib.SmallJoins
namespace Go.Proofs.Ytifbfloifdkacaa.fnExactIsReduction
open Go.ChangeShapes Go.WideShapes Go.ChangeAt Go.RowKit Go.Joins
open Go.ChangeMaps (open_string shut_string)
open Go.Proofs.YtifbfloifdkacaaW.PrintWords Go.Proofs.YtifbfloifdkacaaW.PrintLast
set_option linter.unusedVariables false
theorem own : ownKnob Try.prog.godebug = none := by kernel_rfl
theorem laidOut : laidOutB Try.prog = true := by kernel_rfl
set_option maxRecDepth 100000 in
set_option maxHeartbeats 1000000 in
theorem lifted (os : Os) (started : os.Started) (H : Type) (enc : TypeId × Value → H) :
    ReturnsInHanded {} Try.checked os 5 .any (Rows.fnExactIsReductionSpec.pre6 enc Try.prog Try.f5 Rows.fnExactIsReductionRow.domain false) (Rows.fnExactIsReductionSpec.post enc Try.prog Try.f5 false true false false) := by
  refine returnsInHanded_of_change_sized (C := Try.checked) own started (by kernel_rfl) Try.func5
    (ChangeSpec.witness6 (enc := enc) (C := Try.checked) false ⟨#[], #[.agg #[.int .i64 0, .int .i64 0, .slice none 0 0], .agg #[.int .i64 0, .int .i64 0, .slice none 0 0, .int .i64 0, .int .i64 0, .slice none 0 0, .int .i64 0, .int .i64 0, .slice none 0 0, .int .i64 0, .int .i64 0, .slice none 0 0, .int .i64 0, .int .i64 0, .slice none 0 0]], []⟩ 8 (by kernel_rfl) (by kernel_rfl) (by kernel_rfl) (by kernel_rfl)) ?_
  intro W base args ds gs before hval0 hW hcnd hsz0 _
  have hval : ∀ (j : Nat) t v, Try.f5.params[j]? = some t → args[j]? = some v → Value.okWide Try.prog W .any base t v := hval0
  have hW' := hW
  obtain ⟨p, q, hA0, hV, rfl, hfz, hnd⟩ := hW
  have hA : DataW.TrodAll enc Try.prog W 0 (fun _ => true) true Try.f5.params.toList args.toList ds p := hA0
  rw [Try.params5] at hA hval
  obtain ⟨v0, vs0, d0, ds0, p0, q0, hargs, rfl, rfl, h0, r0⟩ := trodAll_cons hA
  obtain ⟨v1, vs1, d1, ds1, p1, q1, rfl, rfl, rfl, h1, r1⟩ := trodAll_cons r0
  obtain ⟨rfl, rfl, rfl⟩ := trodAll_nil r1
  obtain rfl : args = #[v0, v1] := by cases args; simp_all
  obtain ⟨rfl, rfl⟩ := trodVars_none hV
  have k0 := h0
  have lt0 : ∀ x ∈ p0, x.block < W.heap.size := by obtain ⟨m, hm⟩ := k0; exact DataW.trod_lt m _ _ _ hm
  obtain ⟨v0_0, v0_1, v0_2, y0_0, y0_1, y0_2, n0, rfl, _, _, t0_0, t0_1, t0_2⟩ := open_agg3 Try.underlying24 (by kernel_rfl) (by kernel_rfl) (hval 0 24 v0 rfl rfl) h0
  obtain ⟨a0_0, rfl, w0_0⟩ := Open.int_ Try.underlying2 t0_0
  obtain ⟨a0_1, rfl, w0_1⟩ := Open.int_ Try.underlying2 t0_1
  obtain ⟨A0_2, c0_2, l0_2, rfl, hr0_2, hc0_2, hm0_2, hw0_2⟩ := Open.ints Try.underlying22 Try.underlying2 (by kernel_rfl) t0_2
  have k1 := h1
  have lt1 : ∀ x ∈ p1, x.block < W.heap.size := by obtain ⟨m, hm⟩ := k1; exact DataW.trod_lt m _ _ _ hm
  obtain ⟨cs1, rfl, hsz1⟩ := okWide_struct Try.underlying40 (hval 1 40 v1 rfl rfl)
  obtain ⟨v1_0, v1_1, v1_2, v1_3, v1_4, v1_5, v1_6, v1_7, v1_8, v1_9, v1_10, v1_11, v1_12, v1_13, v1_14, rfl⟩ := Open.array15 (hsz1.trans (by kernel_rfl))
  obtain ⟨fu1, hf1⟩ := h1
  have hg1 : DataW.trod enc Try.prog W 0 (fun _ => true) true fu1 40 [v1_0, v1_1, v1_2, v1_3, v1_4, v1_5, v1_6, v1_7, v1_8, v1_9, v1_10, v1_11, v1_12, v1_13, v1_14] = some (d1, p1) := by simpa [Value.cells] using hf1
  obtain ⟨xs1, n1, _, _, _, hl1, hx1⟩ := DataW.trod_struct Try.underlying40 hg1
  have hl1' : xs1.length = 5 := hl1
  have e1_0 : DataW.trod enc Try.prog W 0 (fun _ => true) true n1 24 (([v1_0, v1_1, v1_2, v1_3, v1_4, v1_5, v1_6, v1_7, v1_8, v1_9, v1_10, v1_11, v1_12, v1_13, v1_14] : List Value).drop 0 |>.take (Try.prog.cellsOf 24)) = xs1[0]? := hx1 0 _ rfl
  rw [show Try.prog.cellsOf 24 = 3 by kernel_rfl, List.getElem?_eq_getElem (show 0 < xs1.length by omega)] at e1_0
  obtain ⟨y1_0, m1_0, m1_1, N1_0, t1_0, t1_1, t1_2⟩ := Open.three Try.underlying24 (by kernel_rfl) (show DataW.trod enc Try.prog W 0 (fun _ => true) true n1 24 [v1_0, v1_1, v1_2] = some _ from e1_0)
  have e1_1 : DataW.trod enc Try.prog W 0 (fun _ => true) true n1 24 (([v1_0, v1_1, v1_2, v1_3, v1_4, v1_5, v1_6, v1_7, v1_8, v1_9, v1_10, v1_11, v1_12, v1_13, v1_14] : List Value).drop 3 |>.take (Try.prog.cellsOf 24)) = xs1[1]? := hx1 1 _ rfl
  rw [show Try.prog.cellsOf 24 = 3 by kernel_rfl, List.getElem?_eq_getElem (show 1 < xs1.length by omega)] at e1_1
  obtain ⟨y1_1, m1_3, m1_4, N1_1, t1_3, t1_4, t1_5⟩ := Open.three Try.underlying24 (by kernel_rfl) (show DataW.trod enc Try.prog W 0 (fun _ => true) true n1 24 [v1_3, v1_4, v1_5] = some _ from e1_1)
  have e1_2 : DataW.trod enc Try.prog W 0 (fun _ => true) true n1 24 (([v1_0, v1_1, v1_2, v1_3, v1_4, v1_5, v1_6, v1_7, v1_8, v1_9, v1_10, v1_11, v1_12, v1_13, v1_14] : List Value).drop 6 |>.take (Try.prog.cellsOf 24)) = xs1[2]? := hx1 2 _ rfl
  rw [show Try.prog.cellsOf 24 = 3 by kernel_rfl, List.getElem?_eq_getElem (show 2 < xs1.length by omega)] at e1_2
  obtain ⟨y1_2, m1_6, m1_7, N1_2, t1_6, t1_7, t1_8⟩ := Open.three Try.underlying24 (by kernel_rfl) (show DataW.trod enc Try.prog W 0 (fun _ => true) true n1 24 [v1_6, v1_7, v1_8] = some _ from e1_2)
  have e1_3 : DataW.trod enc Try.prog W 0 (fun _ => true) true n1 24 (([v1_0, v1_1, v1_2, v1_3, v1_4, v1_5, v1_6, v1_7, v1_8, v1_9, v1_10, v1_11, v1_12, v1_13, v1_14] : List Value).drop 9 |>.take (Try.prog.cellsOf 24)) = xs1[3]? := hx1 3 _ rfl
  rw [show Try.prog.cellsOf 24 = 3 by kernel_rfl, List.getElem?_eq_getElem (show 3 < xs1.length by omega)] at e1_3
  obtain ⟨y1_3, m1_9, m1_10, N1_3, t1_9, t1_10, t1_11⟩ := Open.three Try.underlying24 (by kernel_rfl) (show DataW.trod enc Try.prog W 0 (fun _ => true) true n1 24 [v1_9, v1_10, v1_11] = some _ from e1_3)
  have e1_4 : DataW.trod enc Try.prog W 0 (fun _ => true) true n1 24 (([v1_0, v1_1, v1_2, v1_3, v1_4, v1_5, v1_6, v1_7, v1_8, v1_9, v1_10, v1_11, v1_12, v1_13, v1_14] : List Value).drop 12 |>.take (Try.prog.cellsOf 24)) = xs1[4]? := hx1 4 _ rfl
  rw [show Try.prog.cellsOf 24 = 3 by kernel_rfl, List.getElem?_eq_getElem (show 4 < xs1.length by omega)] at e1_4
  obtain ⟨y1_4, m1_12, m1_13, N1_4, t1_12, t1_13, t1_14⟩ := Open.three Try.underlying24 (by kernel_rfl) (show DataW.trod enc Try.prog W 0 (fun _ => true) true n1 24 [v1_12, v1_13, v1_14] = some _ from e1_4)
  obtain ⟨a1_0, rfl, w1_0⟩ := Open.int_ Try.underlying2 t1_0
  obtain ⟨a1_1, rfl, w1_1⟩ := Open.int_ Try.underlying2 t1_1
  obtain ⟨A1_2, c1_2, l1_2, rfl, hr1_2, hc1_2, hm1_2, hw1_2⟩ := Open.ints Try.underlying22 Try.underlying2 (by kernel_rfl) t1_2
  obtain ⟨a1_3, rfl, w1_3⟩ := Open.int_ Try.underlying2 t1_3
  obtain ⟨a1_4, rfl, w1_4⟩ := Open.int_ Try.underlying2 t1_4
  obtain ⟨A1_5, c1_5, l1_5, rfl, hr1_5, hc1_5, hm1_5, hw1_5⟩ := Open.ints Try.underlying22 Try.underlying2 (by kernel_rfl) t1_5
  obtain ⟨a1_6, rfl, w1_6⟩ := Open.int_ Try.underlying2 t1_6
  obtain ⟨a1_7, rfl, w1_7⟩ := Open.int_ Try.underlying2 t1_7
  obtain ⟨A1_8, c1_8, l1_8, rfl, hr1_8, hc1_8, hm1_8, hw1_8⟩ := Open.ints Try.underlying22 Try.underlying2 (by kernel_rfl) t1_8
  obtain ⟨a1_9, rfl, w1_9⟩ := Open.int_ Try.underlying2 t1_9
  obtain ⟨a1_10, rfl, w1_10⟩ := Open.int_ Try.underlying2 t1_10
  obtain ⟨A1_11, c1_11, l1_11, rfl, hr1_11, hc1_11, hm1_11, hw1_11⟩ := Open.ints Try.underlying22 Try.underlying2 (by kernel_rfl) t1_11
  obtain ⟨a1_12, rfl, w1_12⟩ := Open.int_ Try.underlying2 t1_12
  obtain ⟨a1_13, rfl, w1_13⟩ := Open.int_ Try.underlying2 t1_13
  obtain ⟨A1_14, c1_14, l1_14, rfl, hr1_14, hc1_14, hm1_14, hw1_14⟩ := Open.ints Try.underlying22 Try.underlying2 (by kernel_rfl) t1_14
  clear hA0 hval0 hsz0
  obtain ⟨k, hk⟩ := Pure.FnExactIsReduction a0_0 a0_1 l0_2 a1_0 a1_1 l1_2 a1_3 a1_4 l1_5 a1_6 a1_7 l1_8 a1_9 a1_10 l1_11 a1_12 a1_13 l1_14 w0_0 w0_1 hm0_2 hw0_2 w1_0 w1_1 hm1_2 hw1_2 w1_3 w1_4 hm1_5 hw1_5 w1_6 w1_7 hm1_8 hw1_8 w1_9 w1_10 hm1_11 hw1_11 w1_12 w1_13 hm1_14 hw1_14
  refine (PFnExactIsReduction.laws_FnExactIsReduction.calls k a0_0 a0_1 A0_2 c0_2 l0_2 a1_0 a1_1 A1_2 c1_2 l1_2 a1_3 a1_4 A1_5 c1_5 l1_5 a1_6 a1_7 A1_8 c1_8 l1_8 a1_9 a1_10 A1_11 c1_11 l1_11 a1_12 a1_13 A1_14 c1_14 l1_14 true W hr0_2 hc0_2 hr1_2 hc1_2 hr1_5 hc1_5 hr1_8 hc1_8 hr1_11 hc1_11 hr1_14 hc1_14 hk ⟨rfl⟩).mono fun e W' ⟨he, bel0⟩ => ?_
  have bel : Below W.heap.size W W' := bel0
  subst he
  exact ⟨_, rfl, _, _, _, [], _, [], hW', trodAll_mk1 (shut_bool Try.underlying4 _), (trodAll_cons_mk (Below.trod laidOut (by kernel_rfl) (of_decide_eq_true (by kernel_rfl)) k0 bel lt0) (trodAll_cons_mk (Below.trod laidOut (by kernel_rfl) (of_decide_eq_true (by kernel_rfl)) k1 bel lt1) trodAll_mk0)), rfl, bel.frame _, fun h => by cases h⟩
theorem over : Rows.fnExactIsReductionRow.holds Try.pinned (OpenSpec.ofChange Rows.fnExactIsReductionSpec) :=
  OpenClaim.holds_of_wide 5 Try.f5 rfl rfl rfl rfl rfl rfl rfl ⟨rfl, rfl, rfl, rfl, rfl⟩ rfl rfl rfl rfl rfl (by kernel_rfl) Try.func5 (by kernel_rfl)
    (of_decide_eq_true (by kernel_rfl)) (by unfold Func.isWrapper; first | (rw [if_pos (by decide +kernel)]; kernel_rfl) | (rw [if_neg (by decide +kernel)]; exact ⟨rfl, rfl⟩))
    (fun os started H enc _ => lifted os started H enc)
theorem proved : Rows.FnExactIsReductionSaid := over
#print axioms proved
end Go.Proofs.Ytifbfloifdkacaa.fnExactIsReduction
namespace Go.Proofs.Ytifbfloifdkacaa
/-- The row, under a short name, for the claim. -/
theorem fnExactIsReduction_holds : Rows.FnExactIsReductionSaid := fnExactIsReduction.proved
end Go.Proofs.Ytifbfloifdkacaa
