/- The pure statement of the law FnExactDeviceNew, and its walk. No condition. -/
import Derived.Test.YtnikdfcdddlfbaaQFnExactDeviceNewx6
import Derived.Test.YtnikdfcdddlfbaaR
namespace Go.Proofs.Ytnikdfcdddlfbaa.PFnExactDeviceNew
open Go Go.RowKit Go.Proofs.YtnikdfcdddlfbaaW.PrintWords Go.Proofs.YtnikdfcdddlfbaaW.PrintLast Go.Proofs.Ytnikdfcdddlfbaa.RowC
set_option linter.unusedVariables false
end Go.Proofs.Ytnikdfcdddlfbaa.PFnExactDeviceNew
