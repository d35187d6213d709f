/- Written by this session's program out of the kit's print and this session's contracts. -/
import Derived.Test.YtkfblcpiflbkaaaProg
import Derived.Below
import Derived.Deep.Draws
import Derived.Deep.AppendLies
import Derived.Maps.AppendAt
import Derived.OwnWalk
import Derived.Laws.BytesArg
import Derived.Laws.MakeOwn
import Derived.Laws.OwnMore
import Derived.Deep.OwnRows
import Derived.Tactics
import Derived.Lib.ConvBytes
import Derived.Laws.Slices
import Derived.WalkKit
import Derived.KernelRfl
import Derived.RowKit3
import Derived.Deep.LoopGhost
import Derived.Deep.QuietTactic
import Derived.BigQuiet
import Derived.WideLaws
import Derived.Deep.DeepCutAuto
import Derived.Deep.CutBlock
import Derived.Deep.RegionHeld3
import Derived.Laws.Rows
import Derived.Lib.AppendStr
import Derived.ArgAppend
import Derived.Laws.IdiomCopy
import Derived.OrdersHeld
import Derived.Laws.BitsLemmas
import Derived.RowKit
import Derived.Shelf.Abstract
import Derived.Test.YtkfblcpiflbkaaaWWords
import Derived.Test.YtkfblcpiflbkaaaWLast
import Derived.Test.YtkfblcpiflbkaaaWTab
import Derived.Test.YtkfblcpiflbkaaaWFour
import Derived.Test.YtkfblcpiflbkaaaWQPut
import Derived.Test.YtkfblcpiflbkaaaWApart
import Derived.Test.YtkfblcpiflbkaaaWArr
import Derived.Test.YtkfblcpiflbkaaaWZeros
import Derived.Test.YtkfblcpiflbkaaaWFoot
import Derived.Test.YtkfblcpiflbkaaaWKept
import Derived.Test.YtkfblcpiflbkaaaWShare
import Derived.Test.YtkfblcpiflbkaaaWN
import Derived.Test.YtkfblcpiflbkaaaWFootNe
import Derived.Test.YtkfblcpiflbkaaaWAt
import Derived.Test.YtkfblcpiflbkaaaWEqStruct
import Derived.Test.YtkfblcpiflbkaaaWRepsOne
import Derived.Test.YtkfblcpiflbkaaaWInv
import Derived.Test.YtkfblcpiflbkaaaWInvWords
import Derived.Test.YtkfblcpiflbkaaaWGuard
import Derived.Test.YtkfblcpiflbkaaaWNEv
import Derived.Test.YtkfblcpiflbkaaaWMore
namespace Go.Proofs.Ytkfblcpiflbkaaa.PFnExactIsAbelianGroup
open Go.RowKit Go.Proofs.YtkfblcpiflbkaaaW.PrintWords Go.Proofs.YtkfblcpiflbkaaaW.PrintLast Go.Proofs.YtkfblcpiflbkaaaW.PrintMore
attribute [local go_sem] max2_int min2_int max_two min_two max_three min_three max_four min_four   -- for this text's walks alone
set_option linter.unusedVariables false
set_option linter.unusedSimpArgs false



def errW : Option Int → Value
  | none => .nilIface
  | some c => .iface 0 (.int .i64 c)
theorem errW_none : errW none = .nilIface := rfl
theorem errW_some (c : Int) : errW (some c) = .iface 0 (.int .i64 c) := rfl

theorem info2 : (Try.prog.info? 2).map (fun i => (i.zero, i.size, i.bytes)) = some (some (.int .i64 0), 1, 8) := by kernel_rfl
-- the values' own types

end Go.Proofs.Ytkfblcpiflbkaaa.PFnExactIsAbelianGroup
