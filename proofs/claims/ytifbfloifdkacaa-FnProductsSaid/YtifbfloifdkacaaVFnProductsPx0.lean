/- Written by this session's program out of the kit's print and this session's contracts. -/
import Derived.Test.YtifbfloifdkacaaProg
import Derived.Below
import Derived.Deep.Draws
import Derived.Deep.AppendLies
import Derived.Maps.AppendAt
import Derived.OwnWalk
import Derived.Laws.BytesArg
import Derived.Laws.MakeOwn
import Derived.Laws.OwnMore
import Derived.Deep.OwnRows
import Derived.Tactics
import Derived.Lib.ConvBytes
import Derived.Laws.Slices
import Derived.WalkKit
import Derived.KernelRfl
import Derived.RowKit3
import Derived.Deep.LoopGhost
import Derived.Deep.QuietTactic
import Derived.BigQuiet
import Derived.WideLaws
import Derived.Deep.DeepCutAuto
import Derived.Deep.CutBlock
import Derived.Deep.RegionHeld3
import Derived.Laws.Rows
import Derived.Lib.AppendStr
import Derived.ArgAppend
import Derived.Laws.IdiomCopy
import Derived.OrdersHeld
import Derived.Laws.BitsLemmas
import Derived.RowKit
import Derived.Shelf.Abstract
import Derived.Lib.BufferMore
import Derived.Lib.SliceRun
import Derived.WalkSpells
import Derived.Lib.SlicesDelete
import Derived.Deep.RegionLaw
import Derived.Sort.WalkB12
import Derived.Lib.Walk
import Derived.Shelf.RegionOpenPlain
import Derived.Test.YtifbfloifdkacaaVFnProductsWWords
import Derived.Test.YtifbfloifdkacaaVFnProductsWLast
import Derived.Test.YtifbfloifdkacaaVFnProductsWTab
import Derived.Test.YtifbfloifdkacaaVFnProductsWFour
import Derived.Test.YtifbfloifdkacaaVFnProductsWQPut
import Derived.Test.YtifbfloifdkacaaVFnProductsWApart
import Derived.Test.YtifbfloifdkacaaVFnProductsWArr
import Derived.Test.YtifbfloifdkacaaVFnProductsWZeros
import Derived.Test.YtifbfloifdkacaaVFnProductsWFoot
import Derived.Test.YtifbfloifdkacaaVFnProductsWKept
import Derived.Test.YtifbfloifdkacaaVFnProductsWShare
import Derived.Test.YtifbfloifdkacaaVFnProductsWN
import Derived.Test.YtifbfloifdkacaaVFnProductsWFootNe
import Derived.Test.YtifbfloifdkacaaVFnProductsWAt
import Derived.Test.YtifbfloifdkacaaVFnProductsWEqStruct
import Derived.Test.YtifbfloifdkacaaVFnProductsWRepsOne
import Derived.Test.YtifbfloifdkacaaVFnProductsWInv
import Derived.Test.YtifbfloifdkacaaVFnProductsWInvWords
import Derived.Test.YtifbfloifdkacaaVFnProductsWGuard
import Derived.Test.YtifbfloifdkacaaVFnProductsWNEv
import Derived.Test.YtifbfloifdkacaaVFnProductsWMore
namespace Go.Proofs.Ytifbfloifdkacaa.PFnProducts
open Go.RowKit Go.Proofs.YtifbfloifdkacaaW.PrintWords Go.Proofs.YtifbfloifdkacaaW.PrintLast Go.Proofs.YtifbfloifdkacaaW.PrintMore
attribute [local go_sem] max2_int min2_int max_two min_two max_three min_three max_four min_four   -- for this text's walks alone
set_option linter.unusedVariables false
set_option linter.unusedSimpArgs false

def errW : Option Int → Value
  | none => .nilIface
  | some c => .iface 0 (.int .i64 c)
theorem errW_none : errW none = .nilIface := rfl
theorem errW_some (c : Int) : errW (some c) = .iface 0 (.int .i64 c) := rfl

theorem info2 : (Try.prog.info? 2).map (fun i => (i.zero, i.size, i.bytes)) = some (some (.int .i64 0), 1, 8) := by kernel_rfl
-- the values' own types
/-! #### struct type 28 -/
structure S28 where
  f0 : Int
  f1 : Int
  f2 : (List Int)
theorem am_ {P : Prop} (h : P) : Aside0 P := ⟨h⟩
theorem bk_ {P Q : Prop} (h : Q) (t : Q → P := by intro h; repeat (first | (with_reducible first | exact h | refine blk_drewN ?_ _ | refine blk_drew ?_ | refine blk_alloc ?_ _) | refine blk_far ?_ (Aside0.out (by assumption)) _ | exact h)) : P := t h
theorem rk_ {P Q : Prop} (h : Q) (t : Q → P := by intro h; (with_reducible repeat (first | apply Kd.R_alloc | apply Kd.R_drewN | apply Kd.R_drew)); exact h) : P := t h
theorem bb_ {P Q : Prop} (h : Q) (t : Q → P := by intro h; repeat (first | (with_reducible first | exact h | apply below_alloc | apply pw_below_drewN | apply below_drew1 | refine below_set ?_ (Aside0.out (by assumption))) | exact h)) : P := t h
theorem bw_ {w0 w1 w2 : World} {g : Nat} {o : Obj} (H : Aside0 (w0.heap[g]? = some o)) (hb : Below w1.heap.size w1 w2) (t : w0.heap[g]? = some o → w1.heap[g]? = some o := by intro h; repeat (first | (with_reducible first | exact h | refine blk_drewN ?_ _ | refine blk_drew ?_ | refine blk_alloc ?_ _) | refine blk_far ?_ (Aside0.out (by assumption)) _ | exact h)) : w2.heap[g]? = some o := blk_below (g := g) (o := o) (t H.out) hb
theorem bc_ {w : World} {g : Nat} {ty : TypeId} {cs : Array Value} (H : Aside0 (w.heap[g]? = some (.cells cs ty (0, 0)))) (i : Nat) {v : Option Value} (e : cs[i]? = v := by rfl) : w.cell? ⟨g, i, none⟩ = v := (blk_cell H.out i).trans e
theorem rm_ {α : Type} {d : Kd α} {e : Nat} {w0 w1 : World} {base : Nat} {ok ok' : Nat → Prop} {v : Value} {xs : List α} (h : d.R e w0 base ok v xs) (f : ∀ k, ok k → ok' k) (t : d.R e w0 base ok' v xs → d.R e w1 base ok' v xs := by intro h; (with_reducible repeat (first | apply Kd.R_alloc | apply Kd.R_drewN | apply Kd.R_drew)); exact h) : d.R e w1 base ok' v xs := t (Kd.R_mono h f)
theorem lm_ {P : Prop} (t : P := by (try simp only [List.map_toArray, List.map_cons, List.map_nil]); first | done | rfl | (simp only [List.length_drop, List.length_take]; rfl)) : P := t
theorem kb_ {w W W2 : World} {g : Nat} {row : Option Nat} (h : KeepBut w W g row) (t : KeepBut w W g row → KeepBut w W2 g row := by intro h; repeat (first | (with_reducible first | exact h | apply KeepBut.set_ | apply keep_drewN | apply keep_drew | apply keep_alloc | refine keep_far ?_ (Aside0.out (by assumption)) _) | exact h)) : KeepBut w W2 g row := t h
theorem nl_ {w0 w1 : World} {g g' : Nat} {o : Obj} (H : Aside0 (w0.heap[g]? = some o)) (hg : g' = w1.heap.size) (t : w0.heap[g]? = some o → w1.heap[g]? = some o := by intro h; repeat (first | (with_reducible first | exact h | refine blk_drewN ?_ _ | refine blk_drew ?_ | refine blk_alloc ?_ _) | refine blk_far ?_ (Aside0.out (by assumption)) _ | exact h)) : g ≠ g' := by rw [hg]; exact Nat.ne_of_lt (blk_lt (g := g) (o := o) (t H.out))
theorem ng_ {w0 w1 : World} {g g' : Nat} {o : Obj} (H : Aside0 (w0.heap[g]? = some o)) (hg : g' = w1.heap.size) (t : w0.heap[g]? = some o → w1.heap[g]? = some o := by intro h; repeat (first | (with_reducible first | exact h | refine blk_drewN ?_ _ | refine blk_drew ?_ | refine blk_alloc ?_ _) | refine blk_far ?_ (Aside0.out (by assumption)) _ | exact h)) : g' ≠ g := by rw [hg]; exact Nat.ne_of_gt (blk_lt (g := g) (o := o) (t H.out))

end Go.Proofs.Ytifbfloifdkacaa.PFnProducts
