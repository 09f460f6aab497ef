/- Of the print's words: those that this claim names. -/
import Derived.Test.YtiogbjbkfhhdhaaWWords
import Derived.Laws.StructEq
namespace Go.Proofs.YtiogbjbkfhhdhaaW.PrintWords
open Go.RowKit
end Go.Proofs.YtiogbjbkfhhdhaaW.PrintWords
