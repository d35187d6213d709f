/- Written by this session's program out of the kit's print and this session's contracts. -/
import Derived.Test.YtifbfloifdkacaaProg
import Derived.Below
import Derived.Deep.Draws
import Derived.Deep.AppendLies
import Derived.Maps.AppendAt
import Derived.OwnWalk
import Derived.Laws.BytesArg
import Derived.Laws.MakeOwn
import Derived.Laws.OwnMore
import Derived.Deep.OwnRows
import Derived.Tactics
import Derived.Lib.ConvBytes
import Derived.Laws.Slices
import Derived.WalkKit
import Derived.KernelRfl
import Derived.RowKit3
import Derived.Deep.LoopGhost
import Derived.Deep.QuietTactic
import Derived.BigQuiet
import Derived.WideLaws
import Derived.Deep.DeepCutAuto
import Derived.Deep.CutBlock
import Derived.Deep.RegionHeld3
import Derived.Laws.Rows
import Derived.Lib.AppendStr
import Derived.ArgAppend
import Derived.Laws.IdiomCopy
import Derived.OrdersHeld
import Derived.Laws.BitsLemmas
import Derived.RowKit
import Derived.Shelf.Abstract
import Derived.Lib.BufferMore
import Derived.Lib.SliceRun
import Derived.WalkSpells
import Derived.Lib.SlicesDelete
import Derived.Deep.RegionLaw
import Derived.Sort.WalkB12
import Derived.Lib.Walk
import Derived.Shelf.RegionOpenPlain
import Derived.Test.YtifbfloifdkacaaVFnExactIsReductionWWords
import Derived.Test.YtifbfloifdkacaaVFnExactIsReductionWLast
import Derived.Test.YtifbfloifdkacaaVFnExactIsReductionWTab
import Derived.Test.YtifbfloifdkacaaVFnExactIsReductionWFour
import Derived.Test.YtifbfloifdkacaaVFnExactIsReductionWQPut
import Derived.Test.YtifbfloifdkacaaVFnExactIsReductionWApart
import Derived.Test.YtifbfloifdkacaaVFnExactIsReductionWArr
import Derived.Test.YtifbfloifdkacaaVFnExactIsReductionWZeros
import Derived.Test.YtifbfloifdkacaaVFnExactIsReductionWFoot
import Derived.Test.YtifbfloifdkacaaVFnExactIsReductionWKept
import Derived.Test.YtifbfloifdkacaaVFnExactIsReductionWShare
import Derived.Test.YtifbfloifdkacaaVFnExactIsReductionWN
import Derived.Test.YtifbfloifdkacaaVFnExactIsReductionWFootNe
import Derived.Test.YtifbfloifdkacaaVFnExactIsReductionWAt
import Derived.Test.YtifbfloifdkacaaVFnExactIsReductionWEqStruct
import Derived.Test.YtifbfloifdkacaaVFnExactIsReductionWRepsOne
import Derived.Test.YtifbfloifdkacaaVFnExactIsReductionWInv
import Derived.Test.YtifbfloifdkacaaVFnExactIsReductionWInvWords
import Derived.Test.YtifbfloifdkacaaVFnExactIsReductionWGuard
import Derived.Test.YtifbfloifdkacaaVFnExactIsReductionWNEv
import Derived.Test.YtifbfloifdkacaaVFnExactIsReductionWMore
namespace Go.Proofs.Ytifbfloifdkacaa.PFnExactIsReduction
open Go.RowKit Go.Proofs.YtifbfloifdkacaaW.PrintWords Go.Proofs.YtifbfloifdkacaaW.PrintLast Go.Proofs.YtifbfloifdkacaaW.PrintMore
attribute [local go_sem] max2_int min2_int max_two min_two max_three min_three max_four min_four   -- for this text's walks alone
set_option linter.unusedVariables false
set_option linter.unusedSimpArgs false

def errW : Option Int → Value
  | none => .nilIface
  | some c => .iface 0 (.int .i64 c)
theorem errW_none : errW none = .nilIface := rfl
theorem errW_some (c : Int) : errW (some c) = .iface 0 (.int .i64 c) := rfl

theorem info2 : (Try.prog.info? 2).map (fun i => (i.zero, i.size, i.bytes)) = some (some (.int .i64 0), 1, 8) := by kernel_rfl
-- the values' own types
/-! #### struct type 28 -/
structure S28 where
  f0 : Int
  f1 : Int
  f2 : (List Int)
theorem am_ {P : Prop} (h : P) : Aside0 P := ⟨h⟩
theorem bk_ {P Q : Prop} (h : Q) (t : Q → P := by intro h; repeat (first | (with_reducible first | exact h | refine blk_drewN ?_ _ | refine blk_drew ?_ | refine blk_alloc ?_ _) | refine blk_far ?_ (Aside0.out (by assumption)) _ | exact h)) : P := t h
theorem rk_ {P Q : Prop} (h : Q) (t : Q → P := by intro h; (with_reducible repeat (first | apply Kd.R_alloc | apply Kd.R_drewN | apply Kd.R_drew)); exact h) : P := t h
theorem bb_ {P Q : Prop} (h : Q) (t : Q → P := by intro h; repeat (first | (with_reducible first | exact h | apply below_alloc | apply pw_below_drewN | apply below_drew1 | refine below_set ?_ (Aside0.out (by assumption))) | exact h)) : P := t h
theorem bw_ {w0 w1 w2 : World} {g : Nat} {o : Obj} (H : Aside0 (w0.heap[g]? = some o)) (hb : Below w1.heap.size w1 w2) (t : w0.heap[g]? = some o → w1.heap[g]? = some o := by intro h; repeat (first | (with_reducible first | exact h | refine blk_drewN ?_ _ | refine blk_drew ?_ | refine blk_alloc ?_ _) | refine blk_far ?_ (Aside0.out (by assumption)) _ | exact h)) : w2.heap[g]? = some o := blk_below (g := g) (o := o) (t H.out) hb
theorem bc_ {w : World} {g : Nat} {ty : TypeId} {cs : Array Value} (H : Aside0 (w.heap[g]? = some (.cells cs ty (0, 0)))) (i : Nat) {v : Option Value} (e : cs[i]? = v := by rfl) : w.cell? ⟨g, i, none⟩ = v := (blk_cell H.out i).trans e
theorem rm_ {α : Type} {d : Kd α} {e : Nat} {w0 w1 : World} {base : Nat} {ok ok' : Nat → Prop} {v : Value} {xs : List α} (h : d.R e w0 base ok v xs) (f : ∀ k, ok k → ok' k) (t : d.R e w0 base ok' v xs → d.R e w1 base ok' v xs := by intro h; (with_reducible repeat (first | apply Kd.R_alloc | apply Kd.R_drewN | apply Kd.R_drew)); exact h) : d.R e w1 base ok' v xs := t (Kd.R_mono h f)
theorem lm_ {P : Prop} (t : P := by (try simp only [List.map_toArray, List.map_cons, List.map_nil]); first | done | rfl | (simp only [List.length_drop, List.length_take]; rfl)) : P := t
theorem nl_ {w0 w1 : World} {g g' : Nat} {o : Obj} (H : Aside0 (w0.heap[g]? = some o)) (hg : g' = w1.heap.size) (t : w0.heap[g]? = some o → w1.heap[g]? = some o := by intro h; repeat (first | (with_reducible first | exact h | refine blk_drewN ?_ _ | refine blk_drew ?_ | refine blk_alloc ?_ _) | refine blk_far ?_ (Aside0.out (by assumption)) _ | exact h)) : g ≠ g' := by rw [hg]; exact Nat.ne_of_lt (blk_lt (g := g) (o := o) (t H.out))
theorem ng_ {w0 w1 : World} {g g' : Nat} {o : Obj} (H : Aside0 (w0.heap[g]? = some o)) (hg : g' = w1.heap.size) (t : w0.heap[g]? = some o → w1.heap[g]? = some o := by intro h; repeat (first | (with_reducible first | exact h | refine blk_drewN ?_ _ | refine blk_drew ?_ | refine blk_alloc ?_ _) | refine blk_far ?_ (Aside0.out (by assumption)) _ | exact h)) : g' ≠ g := by rw [hg]; exact Nat.ne_of_gt (blk_lt (g := g) (o := o) (t H.out))
theorem bx3_ {w : World} {g : Nat} {ty : TypeId} {v0 v1 v2 : Value} (H : Aside0 (w.heap[g]? = some (.cells #[v0, v1, v2] ty (0, 0)))) : w.cell? ⟨g, 0, none⟩ = some v0 ∧ w.cell? ⟨g, 1, none⟩ = some v1 ∧ w.cell? ⟨g, 2, none⟩ = some v2 ∧ w.frozen? ⟨g, 0, none⟩ = false ∧ w.frozen? ⟨g, 1, none⟩ = false ∧ w.frozen? ⟨g, 2, none⟩ = false := ⟨bc_ H 0, bc_ H 1, bc_ H 2, blk_frozen H.out 0, blk_frozen H.out 1, blk_frozen H.out 2⟩
theorem bx15_ {w : World} {g : Nat} {ty : TypeId} {v0 v1 v2 v3 v4 v5 v6 v7 v8 v9 v10 v11 v12 v13 v14 : Value} (H : Aside0 (w.heap[g]? = some (.cells #[v0, v1, v2, v3, v4, v5, v6, v7, v8, v9, v10, v11, v12, v13, v14] ty (0, 0)))) : w.cell? ⟨g, 0, none⟩ = some v0 ∧ w.cell? ⟨g, 1, none⟩ = some v1 ∧ w.cell? ⟨g, 2, none⟩ = some v2 ∧ w.cell? ⟨g, 3, none⟩ = some v3 ∧ w.cell? ⟨g, 4, none⟩ = some v4 ∧ w.cell? ⟨g, 5, none⟩ = some v5 ∧ w.cell? ⟨g, 6, none⟩ = some v6 ∧ w.cell? ⟨g, 7, none⟩ = some v7 ∧ w.cell? ⟨g, 8, none⟩ = some v8 ∧ w.cell? ⟨g, 9, none⟩ = some v9 ∧ w.cell? ⟨g, 10, none⟩ = some v10 ∧ w.cell? ⟨g, 11, none⟩ = some v11 ∧ w.cell? ⟨g, 12, none⟩ = some v12 ∧ w.cell? ⟨g, 13, none⟩ = some v13 ∧ w.cell? ⟨g, 14, none⟩ = some v14 ∧ w.frozen? ⟨g, 0, none⟩ = false ∧ w.frozen? ⟨g, 1, none⟩ = false ∧ w.frozen? ⟨g, 2, none⟩ = false ∧ w.frozen? ⟨g, 3, none⟩ = false ∧ w.frozen? ⟨g, 4, none⟩ = false ∧ w.frozen? ⟨g, 5, none⟩ = false ∧ w.frozen? ⟨g, 6, none⟩ = false ∧ w.frozen? ⟨g, 7, none⟩ = false ∧ w.frozen? ⟨g, 8, none⟩ = false ∧ w.frozen? ⟨g, 9, none⟩ = false ∧ w.frozen? ⟨g, 10, none⟩ = false ∧ w.frozen? ⟨g, 11, none⟩ = false ∧ w.frozen? ⟨g, 12, none⟩ = false ∧ w.frozen? ⟨g, 13, none⟩ = false ∧ w.frozen? ⟨g, 14, none⟩ = false := ⟨bc_ H 0, bc_ H 1, bc_ H 2, bc_ H 3, bc_ H 4, bc_ H 5, bc_ H 6, bc_ H 7, bc_ H 8, bc_ H 9, bc_ H 10, bc_ H 11, bc_ H 12, bc_ H 13, bc_ H 14, blk_frozen H.out 0, blk_frozen H.out 1, blk_frozen H.out 2, blk_frozen H.out 3, blk_frozen H.out 4, blk_frozen H.out 5, blk_frozen H.out 6, blk_frozen H.out 7, blk_frozen H.out 8, blk_frozen H.out 9, blk_frozen H.out 10, blk_frozen H.out 11, blk_frozen H.out 12, blk_frozen H.out 13, blk_frozen H.out 14⟩

end Go.Proofs.Ytifbfloifdkacaa.PFnExactIsReduction
