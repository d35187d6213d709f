/- The law FnExactDeterminant, out of its plain statement and the walk of its machine side. No condition: for every input. -/
import Derived.Test.YtifbfloifdkacaaRows
import Derived.Test.YtifbfloifdkacaaStmtFnExactDeterminant
import Derived.Test.YtifbfloifdkacaaPureFnExactDeterminant
import Derived.Test.YtifbfloifdkacaaOpen
import Derived.WalkKit
import Derived.ProofKit
import Derived.OpenShut
import Derived.ShutString
import Derived.ChangeOld
import Derived.Below
import Derived.SizedLaws
import Derived.Lib.SmallJoins
namespace Go.Proofs.Ytifbfloifdkacaa.fnExactDeterminant
open Go.ChangeShapes Go.WideShapes Go.ChangeAt Go.RowKit Go.Joins
open Go.ChangeMaps (open_string shut_string)
open Go.Proofs.YtifbfloifdkacaaW.PrintWords Go.Proofs.YtifbfloifdkacaaW.PrintLast
set_option linter.unusedVariables false
theorem own : ownKnob Try.prog.godebug = none := by kernel_rfl
theorem laidOut : laidOutB Try.prog = true := by kernel_rfl
set_option maxRecDepth 100000 in
set_option maxHeartbeats 1000000 in
theorem lifted (os : Os) (started : os.Started) (H : Type) (enc : TypeId × Value → H) :
    ReturnsInHanded {} Try.checked os 3 .any (Rows.fnExactDeterminantSpec.pre6 enc Try.prog Try.f3 Rows.fnExactDeterminantRow.domain false) (Rows.fnExactDeterminantSpec.post enc Try.prog Try.f3 false true false false) := by
  refine returnsInHanded_of_change_sized (C := Try.checked) own started (by kernel_rfl) Try.func3
    (ChangeSpec.witness6 (enc := enc) (C := Try.checked) false ⟨#[], #[.agg #[.int .i64 0, .int .i64 0, .slice none 0 0]], []⟩ 8 (by kernel_rfl) (by kernel_rfl) (by kernel_rfl) (by kernel_rfl)) ?_
  intro W base args ds gs before hval0 hW hcnd hsz0 _
  have hval : ∀ (j : Nat) t v, Try.f3.params[j]? = some t → args[j]? = some v → Value.okWide Try.prog W .any base t v := hval0
  have hW' := hW
  obtain ⟨p, q, hA0, hV, rfl, hfz, hnd⟩ := hW
  have hA : DataW.TrodAll enc Try.prog W 0 (fun _ => true) true Try.f3.params.toList args.toList ds p := hA0
  rw [Try.params3] at hA hval
  obtain ⟨v0, vs0, d0, ds0, p0, q0, hargs, rfl, rfl, h0, r0⟩ := trodAll_cons hA
  obtain ⟨rfl, rfl, rfl⟩ := trodAll_nil r0
  obtain rfl : args = #[v0] := by cases args; simp_all
  obtain ⟨rfl, rfl⟩ := trodVars_none hV
  have k0 := h0
  have lt0 : ∀ x ∈ p0, x.block < W.heap.size := by obtain ⟨m, hm⟩ := k0; exact DataW.trod_lt m _ _ _ hm
  obtain ⟨v0_0, v0_1, v0_2, y0_0, y0_1, y0_2, n0, rfl, _, _, t0_0, t0_1, t0_2⟩ := open_agg3 Try.underlying24 (by kernel_rfl) (by kernel_rfl) (hval 0 24 v0 rfl rfl) h0
  obtain ⟨a0_0, rfl, w0_0⟩ := Open.int_ Try.underlying2 t0_0
  obtain ⟨a0_1, rfl, w0_1⟩ := Open.int_ Try.underlying2 t0_1
  obtain ⟨A0_2, c0_2, l0_2, rfl, hr0_2, hc0_2, hm0_2, hw0_2⟩ := Open.ints Try.underlying22 Try.underlying2 (by kernel_rfl) t0_2
  clear hA0 hval0 hsz0
  obtain ⟨k, hk⟩ := Pure.FnExactDeterminant a0_0 a0_1 l0_2 w0_0 w0_1 hm0_2 hw0_2
  refine (PFnExactDeterminant.laws_FnExactDeterminant.calls k a0_0 a0_1 A0_2 c0_2 l0_2 true W hr0_2 hc0_2 hk ⟨rfl⟩).mono fun e W' ⟨he, bel0⟩ => ?_
  have bel : Below W.heap.size W W' := bel0
  subst he
  exact ⟨_, rfl, _, _, _, [], _, [], hW', trodAll_mk1 (shut_bool Try.underlying4 _), (trodAll_cons_mk (Below.trod laidOut (by kernel_rfl) (of_decide_eq_true (by kernel_rfl)) k0 bel lt0) trodAll_mk0), rfl, bel.frame _, fun h => by cases h⟩
theorem over : Rows.fnExactDeterminantRow.holds Try.pinned (OpenSpec.ofChange Rows.fnExactDeterminantSpec) :=
  OpenClaim.holds_of_wide 3 Try.f3 rfl rfl rfl rfl rfl rfl rfl ⟨rfl, rfl, rfl, rfl, rfl⟩ rfl rfl rfl rfl rfl (by kernel_rfl) Try.func3 (by kernel_rfl)
    (of_decide_eq_true (by kernel_rfl)) (by unfold Func.isWrapper; first | (rw [if_pos (by decide +kernel)]; kernel_rfl) | (rw [if_neg (by decide +kernel)]; exact ⟨rfl, rfl⟩))
    (fun os started H enc _ => lifted os started H enc)
theorem proved : Rows.FnExactDeterminantSaid := over
#print axioms proved
end Go.Proofs.Ytifbfloifdkacaa.fnExactDeterminant
namespace Go.Proofs.Ytifbfloifdkacaa
/-- The row, under a short name, for the claim. -/
theorem fnExactDeterminant_holds : Rows.FnExactDeterminantSaid := fnExactDeterminant.proved
end Go.Proofs.Ytifbfloifdkacaa
