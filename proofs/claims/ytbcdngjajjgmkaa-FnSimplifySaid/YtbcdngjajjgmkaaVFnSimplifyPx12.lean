/- Written by this session's program out of the kit's print and this session's contracts. -/
import Derived.Test.YtbcdngjajjgmkaaVFnSimplifyPx0
import Derived.Test.YtbcdngjajjgmkaaVFnSimplifyPx8
import Derived.Test.YtbcdngjajjgmkaaVFnSimplifyPx9
import Derived.Test.YtbcdngjajjgmkaaVFnSimplifyPx10
import Derived.Test.YtbcdngjajjgmkaaVFnSimplifyPx11
namespace Go.Proofs.Ytbcdngjajjgmkaa.PFnSimplify
open Go.RowKit Go.Proofs.YtbcdngjajjgmkaaW.PrintWords Go.Proofs.YtbcdngjajjgmkaaW.PrintLast Go.Proofs.YtbcdngjajjgmkaaW.PrintMore
set_option linter.unusedVariables false
set_option linter.unusedSimpArgs false

end Go.Proofs.Ytbcdngjajjgmkaa.PFnSimplify
