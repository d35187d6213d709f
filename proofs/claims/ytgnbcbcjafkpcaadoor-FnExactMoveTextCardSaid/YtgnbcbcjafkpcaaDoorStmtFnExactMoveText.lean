/- The one plain statement that is left of the law FnExactMoveText. -/
import Derived.Test.YtgnbcbcjafkpcaaDoorPFnExactMoveTextx3
namespace Go.Proofs.YtgnbcbcjafkpcaaDoor.PFnExactMoveText
open Go.RowKit Go.Proofs.YtgnbcbcjafkpcaaDoorW.PrintWords Go.Proofs.YtgnbcbcjafkpcaaDoorW.PrintLast
def laws_FnExactMoveText.Pure : Prop := ∀ (a0_0 : Int) (a0_1 : Int) (a0_2 : Int), (Lit.int .i64 a0_0).wf = true → (Lit.int .i64 a0_1).wf = true → (Lit.int .i64 a0_2).wf = true → ∃ k, laws_FnExactMoveText.f k a0_0 a0_1 a0_2 = some true
end Go.Proofs.YtgnbcbcjafkpcaaDoor.PFnExactMoveText
