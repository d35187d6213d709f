/- The law FnExactSimplifyPresentation, out of its plain statement and the walk of its machine side. No condition: for every input. -/
import Derived.Test.YtbcdngjajjgmkaaRows
import Derived.Test.YtbcdngjajjgmkaaVFnExactSimplifyPresentationStmt
import Derived.Test.YtbcdngjajjgmkaaVFnExactSimplifyPresentationPure
import Derived.Test.YtbcdngjajjgmkaaVFnExactSimplifyPresentationOpen
import Derived.WalkKit
import Derived.ProofKit
import Derived.OpenShut
import Derived.ShutString
import Derived.ChangeOld
import Derived.Below
import Derived.SizedLaws
import Derived.Lib.SmallJoins
namespace Go.Proofs.Ytbcdngjajjgmkaa.fnExactSimplifyPresentation
open Go.ChangeShapes Go.WideShapes Go.ChangeAt Go.RowKit Go.Joins
open Go.ChangeMaps (open_string shut_string)
open Go.Proofs.YtbcdngjajjgmkaaW.PrintWords Go.Proofs.YtbcdngjajjgmkaaW.PrintLast
set_option linter.unusedVariables false
theorem own : ownKnob Try.prog.godebug = none := by kernel_rfl
theorem laidOut : laidOutB Try.prog = true := by kernel_rfl
set_option maxRecDepth 100000 in
set_option maxHeartbeats 1000000 in
theorem lifted (os : Os) (started : os.Started) (H : Type) (enc : TypeId × Value → H) :
    ReturnsInHanded {} Try.checked os 6 .any (Rows.fnExactSimplifyPresentationSpec.pre6 enc Try.prog Try.f6 Rows.fnExactSimplifyPresentationRow.domain false) (Rows.fnExactSimplifyPresentationSpec.post enc Try.prog Try.f6 false true false false) := by
  refine returnsInHanded_of_change_sized (C := Try.checked) own started (by kernel_rfl) Try.func6
    (ChangeSpec.witness6 (enc := enc) (C := Try.checked) false ⟨#[], #[.agg #[.int .i64 0, .slice none 0 0]], []⟩ 8 (by kernel_rfl) (by kernel_rfl) (by kernel_rfl) (by kernel_rfl)) ?_
  intro W base args ds gs before hval0 hW hcnd hsz0 _
  have hval : ∀ (j : Nat) t v, Try.f6.params[j]? = some t → args[j]? = some v → Value.okWide Try.prog W .any base t v := hval0
  have hW' := hW
  obtain ⟨p, q, hA0, hV, rfl, hfz, hnd⟩ := hW
  have hA : DataW.TrodAll enc Try.prog W 0 (fun _ => true) true Try.f6.params.toList args.toList ds p := hA0
  rw [Try.params6] at hA hval
  obtain ⟨v0, vs0, d0, ds0, p0, q0, hargs, rfl, rfl, h0, r0⟩ := trodAll_cons hA
  obtain ⟨rfl, rfl, rfl⟩ := trodAll_nil r0
  obtain rfl : args = #[v0] := by cases args; simp_all
  obtain ⟨rfl, rfl⟩ := trodVars_none hV
  have k0 := h0
  have lt0 : ∀ x ∈ p0, x.block < W.heap.size := by obtain ⟨m, hm⟩ := k0; exact DataW.trod_lt m _ _ _ hm
  obtain ⟨v0_0, v0_1, y0_0, y0_1, n0, rfl, _, _, t0_0, t0_1⟩ := open_agg2 Try.underlying24 (by kernel_rfl) (by kernel_rfl) (hval 0 24 v0 rfl rfl) h0
  obtain ⟨a0_0, rfl, w0_0⟩ := Open.int_ Try.underlying2 t0_0
  obtain ⟨A0_1, c0_1, l0_1, rfl, hr0_1, hc0_1, hm0_1, hw0_1⟩ := Open.rows Try.underlying22 Try.underlying39 Try.underlying2 (by kernel_rfl) (by kernel_rfl) 2 t0_1
  clear hA0 hval0 hsz0
  obtain ⟨k, hk⟩ := Pure.FnExactSimplifyPresentation a0_0 l0_1 w0_0 hm0_1 hw0_1
  refine (PFnExactSimplifyPresentation.laws_FnExactSimplifyPresentation.calls k a0_0 A0_1 c0_1 l0_1 true W hr0_1 hc0_1 hk ⟨rfl⟩).mono fun e W' ⟨he, bel0⟩ => ?_
  have bel : Below W.heap.size W W' := bel0
  subst he
  exact ⟨_, rfl, _, _, _, [], _, [], hW', trodAll_mk1 (shut_bool Try.underlying4 _), (trodAll_cons_mk (Below.trod laidOut (by kernel_rfl) (of_decide_eq_true (by kernel_rfl)) k0 bel lt0) trodAll_mk0), rfl, bel.frame _, fun h => by cases h⟩
theorem over : Rows.fnExactSimplifyPresentationRow.holds Try.pinned (OpenSpec.ofChange Rows.fnExactSimplifyPresentationSpec) :=
  OpenClaim.holds_of_wide 6 Try.f6 rfl rfl rfl rfl rfl rfl rfl ⟨rfl, rfl, rfl, rfl, rfl⟩ rfl rfl rfl rfl rfl (by kernel_rfl) Try.func6 (by kernel_rfl)
    (of_decide_eq_true (by kernel_rfl)) (by unfold Func.isWrapper; first | (rw [if_pos (by decide +kernel)]; kernel_rfl) | (rw [if_neg (by decide +kernel)]; exact ⟨rfl, rfl⟩))
    (fun os started H enc _ => lifted os started H enc)
theorem proved : Rows.FnExactSimplifyPresentationSaid := over
#print axioms proved
end Go.Proofs.Ytbcdngjajjgmkaa.fnExactSimplifyPresentation
namespace Go.Proofs.Ytbcdngjajjgmkaa
/-- The row, under a short name, for the claim. -/
theorem fnExactSimplifyPresentation_holds : Rows.FnExactSimplifyPresentationSaid := fnExactSimplifyPresentation.proved
end Go.Proofs.Ytbcdngjajjgmkaa
