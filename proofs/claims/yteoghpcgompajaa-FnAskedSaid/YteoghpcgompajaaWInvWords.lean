/- Of the print's words: those that this claim names. -/
import Derived.Test.YteoghpcgompajaaWInv
import Derived.Test.YteoghpcgompajaaWFootNe
namespace Go.Proofs.YteoghpcgompajaaW.PrintWords
open Go.RowKit
end Go.Proofs.YteoghpcgompajaaW.PrintWords
namespace Go.Proofs.YteoghpcgompajaaW.PrintLast
end Go.Proofs.YteoghpcgompajaaW.PrintLast
