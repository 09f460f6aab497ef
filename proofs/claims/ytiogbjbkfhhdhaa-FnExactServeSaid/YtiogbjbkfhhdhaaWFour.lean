/- Of the print's words: those that this claim names. -/
import Derived.Test.YtiogbjbkfhhdhaaWTab
namespace Go.Proofs.YtiogbjbkfhhdhaaW.PrintLast
end Go.Proofs.YtiogbjbkfhhdhaaW.PrintLast
