/- Of the print's words: those that this claim names. -/
import Derived.SizedLaws
import Derived.ChangeSlices
namespace Go.Proofs.YtiogbjbkfhhdhaaW.PrintWords
open Go.ChangeShapes Go.WideShapes
end Go.Proofs.YtiogbjbkfhhdhaaW.PrintWords
