/- Of the print's words: those that this claim names. -/
import Derived.Test.YtiogbjbkfhhdhaaWApart
import Derived.Test.YtiogbjbkfhhdhaaWArr
namespace Go.Proofs.YtiogbjbkfhhdhaaW.PrintWords
open Go.RowKit
namespace Kd
end Kd
end Go.Proofs.YtiogbjbkfhhdhaaW.PrintWords
