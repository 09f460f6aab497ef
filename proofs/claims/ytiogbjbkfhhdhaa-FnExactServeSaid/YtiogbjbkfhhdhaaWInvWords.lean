/- Of the print's words: those that this claim names. -/
import Derived.Test.YtiogbjbkfhhdhaaWInv
import Derived.Test.YtiogbjbkfhhdhaaWFootNe
namespace Go.Proofs.YtiogbjbkfhhdhaaW.PrintWords
open Go.RowKit
end Go.Proofs.YtiogbjbkfhhdhaaW.PrintWords
namespace Go.Proofs.YtiogbjbkfhhdhaaW.PrintLast
end Go.Proofs.YtiogbjbkfhhdhaaW.PrintLast
