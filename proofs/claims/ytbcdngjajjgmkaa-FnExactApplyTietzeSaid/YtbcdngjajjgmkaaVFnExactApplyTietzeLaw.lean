/- The law FnExactApplyTietze, out of its plain statement and the walk of its machine side. No condition: for every input. -/
import Derived.Test.YtbcdngjajjgmkaaRows
import Derived.Test.YtbcdngjajjgmkaaVFnExactApplyTietzeStmt
import Derived.Test.YtbcdngjajjgmkaaVFnExactApplyTietzePure
import Derived.Test.YtbcdngjajjgmkaaVFnExactApplyTietzeOpen
import Derived.WalkKit
import Derived.ProofKit
import Derived.OpenShut
import Derived.ShutString
import Derived.ChangeOld
import Derived.Below
import Derived.SizedLaws
import Derived.Lib.SmallJoins
namespace Go.Proofs.Ytbcdngjajjgmkaa.fnExactApplyTietze
open Go.ChangeShapes Go.WideShapes Go.ChangeAt Go.RowKit Go.Joins
open Go.ChangeMaps (open_string shut_string)
open Go.Proofs.YtbcdngjajjgmkaaW.PrintWords Go.Proofs.YtbcdngjajjgmkaaW.PrintLast
set_option linter.unusedVariables false
theorem own : ownKnob Try.prog.godebug = none := by kernel_rfl
theorem laidOut : laidOutB Try.prog = true := by kernel_rfl
set_option maxRecDepth 100000 in
set_option maxHeartbeats 1000000 in
theorem lifted (os : Os) (started : os.Started) (H : Type) (enc : TypeId × Value → H) :
    ReturnsInHanded {} Try.checked os 5 .any (Rows.fnExactApplyTietzeSpec.pre6 enc Try.prog Try.f5 Rows.fnExactApplyTietzeRow.domain false) (Rows.fnExactApplyTietzeSpec.post enc Try.prog Try.f5 false true false false) := by
  refine returnsInHanded_of_change_sized (C := Try.checked) own started (by kernel_rfl) Try.func5
    (ChangeSpec.witness6 (enc := enc) (C := Try.checked) false ⟨#[], #[.agg #[.int .i64 0, .slice none 0 0], .agg #[.int .i64 0, .int .i64 0, .int .i64 0, .slice none 0 0]], []⟩ 8 (by kernel_rfl) (by kernel_rfl) (by kernel_rfl) (by kernel_rfl)) ?_
  intro W base args ds gs before hval0 hW hcnd hsz0 _
  have hval : ∀ (j : Nat) t v, Try.f5.params[j]? = some t → args[j]? = some v → Value.okWide Try.prog W .any base t v := hval0
  have hW' := hW
  obtain ⟨p, q, hA0, hV, rfl, hfz, hnd⟩ := hW
  have hA : DataW.TrodAll enc Try.prog W 0 (fun _ => true) true Try.f5.params.toList args.toList ds p := hA0
  rw [Try.params5] at hA hval
  obtain ⟨v0, vs0, d0, ds0, p0, q0, hargs, rfl, rfl, h0, r0⟩ := trodAll_cons hA
  obtain ⟨v1, vs1, d1, ds1, p1, q1, rfl, rfl, rfl, h1, r1⟩ := trodAll_cons r0
  obtain ⟨rfl, rfl, rfl⟩ := trodAll_nil r1
  obtain rfl : args = #[v0, v1] := by cases args; simp_all
  obtain ⟨rfl, rfl⟩ := trodVars_none hV
  have k0 := h0
  have lt0 : ∀ x ∈ p0, x.block < W.heap.size := by obtain ⟨m, hm⟩ := k0; exact DataW.trod_lt m _ _ _ hm
  obtain ⟨v0_0, v0_1, y0_0, y0_1, n0, rfl, _, _, t0_0, t0_1⟩ := open_agg2 Try.underlying24 (by kernel_rfl) (by kernel_rfl) (hval 0 24 v0 rfl rfl) h0
  obtain ⟨a0_0, rfl, w0_0⟩ := Open.int_ Try.underlying2 t0_0
  obtain ⟨A0_1, c0_1, l0_1, rfl, hr0_1, hc0_1, hm0_1, hw0_1⟩ := Open.rows Try.underlying22 Try.underlying39 Try.underlying2 (by kernel_rfl) (by kernel_rfl) 2 t0_1
  have k1 := h1
  have lt1 : ∀ x ∈ p1, x.block < W.heap.size := by obtain ⟨m, hm⟩ := k1; exact DataW.trod_lt m _ _ _ hm
  obtain ⟨v1_0, v1_1, v1_2, v1_3, y1_0, y1_1, y1_2, y1_3, n1, rfl, _, _, t1_0, t1_1, t1_2, t1_3⟩ := open_agg4 Try.underlying41 (by kernel_rfl) (by kernel_rfl) (hval 1 41 v1 rfl rfl) h1
  obtain ⟨a1_0, rfl, w1_0⟩ := Open.int_ Try.underlying2 t1_0
  obtain ⟨a1_1, rfl, w1_1⟩ := Open.int_ Try.underlying2 t1_1
  obtain ⟨a1_2, rfl, w1_2⟩ := Open.int_ Try.underlying2 t1_2
  obtain ⟨A1_3, c1_3, l1_3, rfl, hr1_3, hc1_3, hm1_3, hw1_3⟩ := Open.ints Try.underlying39 Try.underlying2 (by kernel_rfl) t1_3
  clear hA0 hval0 hsz0
  obtain ⟨k, hk⟩ := Pure.FnExactApplyTietze a0_0 l0_1 a1_0 a1_1 a1_2 l1_3 w0_0 hm0_1 hw0_1 w1_0 w1_1 w1_2 hm1_3 hw1_3
  refine (PFnExactApplyTietze.laws_FnExactApplyTietze.calls k a0_0 A0_1 c0_1 l0_1 a1_0 a1_1 a1_2 A1_3 c1_3 l1_3 true W hr0_1 hc0_1 hr1_3 hc1_3 hk ⟨rfl⟩).mono fun e W' ⟨he, bel0⟩ => ?_
  have bel : Below W.heap.size W W' := bel0
  subst he
  exact ⟨_, rfl, _, _, _, [], _, [], hW', trodAll_mk1 (shut_bool Try.underlying4 _), (trodAll_cons_mk (Below.trod laidOut (by kernel_rfl) (of_decide_eq_true (by kernel_rfl)) k0 bel lt0) (trodAll_cons_mk (Below.trod laidOut (by kernel_rfl) (of_decide_eq_true (by kernel_rfl)) k1 bel lt1) trodAll_mk0)), rfl, bel.frame _, fun h => by cases h⟩
theorem over : Rows.fnExactApplyTietzeRow.holds Try.pinned (OpenSpec.ofChange Rows.fnExactApplyTietzeSpec) :=
  OpenClaim.holds_of_wide 5 Try.f5 rfl rfl rfl rfl rfl rfl rfl ⟨rfl, rfl, rfl, rfl, rfl⟩ rfl rfl rfl rfl rfl (by kernel_rfl) Try.func5 (by kernel_rfl)
    (of_decide_eq_true (by kernel_rfl)) (by unfold Func.isWrapper; first | (rw [if_pos (by decide +kernel)]; kernel_rfl) | (rw [if_neg (by decide +kernel)]; exact ⟨rfl, rfl⟩))
    (fun os started H enc _ => lifted os started H enc)
theorem proved : Rows.FnExactApplyTietzeSaid := over
#print axioms proved
end Go.Proofs.Ytbcdngjajjgmkaa.fnExactApplyTietze
namespace Go.Proofs.Ytbcdngjajjgmkaa
/-- The row, under a short name, for the claim. -/
theorem fnExactApplyTietze_holds : Rows.FnExactApplyTietzeSaid := fnExactApplyTietze.proved
end Go.Proofs.Ytbcdngjajjgmkaa
