/- The law on the constants is true: each is the document's. No condition. -/
import Derived.Test.YtioajlgddbnlgaaPFnExactConstantsx1
import Derived.Test.YtioajlgddbnlgaaC
namespace Go.Proofs.Ytioajlgddbnlgaa.Pure
open Go Go.RowKit Go.Proofs.Ytioajlgddbnlgaa.PFnExactConstants Go.Proofs.YtioajlgddbnlgaaW.PrintWords Go.Proofs.YtioajlgddbnlgaaW.PrintLast Go.Proofs.Ytioajlgddbnlgaa.PlainC
set_option linter.unusedVariables false
set_option linter.unusedSimpArgs false

theorem FnExactConstants : laws_FnExactConstants.Pure := rfl

end Go.Proofs.Ytioajlgddbnlgaa.Pure
