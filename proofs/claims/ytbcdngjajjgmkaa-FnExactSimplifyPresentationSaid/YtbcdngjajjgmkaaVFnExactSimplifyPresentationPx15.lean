/- Written by this session's program out of the kit's print and this session's contracts. -/
import Derived.Test.YtbcdngjajjgmkaaVFnExactSimplifyPresentationPx0
import Derived.Test.YtbcdngjajjgmkaaVFnExactSimplifyPresentationPx11
import Derived.Test.YtbcdngjajjgmkaaVFnExactSimplifyPresentationPx12
import Derived.Test.YtbcdngjajjgmkaaVFnExactSimplifyPresentationPx13
import Derived.Test.YtbcdngjajjgmkaaVFnExactSimplifyPresentationPx14
namespace Go.Proofs.Ytbcdngjajjgmkaa.PFnExactSimplifyPresentation
open Go.RowKit Go.Proofs.YtbcdngjajjgmkaaW.PrintWords Go.Proofs.YtbcdngjajjgmkaaW.PrintLast Go.Proofs.YtbcdngjajjgmkaaW.PrintMore
set_option linter.unusedVariables false
set_option linter.unusedSimpArgs false

end Go.Proofs.Ytbcdngjajjgmkaa.PFnExactSimplifyPresentation
