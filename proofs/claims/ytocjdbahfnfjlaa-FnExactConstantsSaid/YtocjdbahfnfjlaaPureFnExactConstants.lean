/- The law's plain function answers true: every exported constant has the value that the law names. No condition: for every input. -/
import Derived.Test.YtocjdbahfnfjlaaPFnExactConstantsx1
namespace Go.Proofs.Ytocjdbahfnfjlaa.Pure
open Go.RowKit Go.Proofs.Ytocjdbahfnfjlaa.PFnExactConstants Go.Proofs.YtocjdbahfnfjlaaW.PrintWords Go.Proofs.YtocjdbahfnfjlaaW.PrintLast

theorem FnExactConstants : laws_FnExactConstants.Pure := by
  unfold laws_FnExactConstants.Pure
  rfl

end Go.Proofs.Ytocjdbahfnfjlaa.Pure
