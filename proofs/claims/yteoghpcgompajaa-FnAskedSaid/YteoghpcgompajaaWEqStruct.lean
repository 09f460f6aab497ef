/- Of the print's words: those that this claim names. -/
import Derived.Test.YteoghpcgompajaaWWords
import Derived.Laws.StructEq
namespace Go.Proofs.YteoghpcgompajaaW.PrintWords
open Go.RowKit
end Go.Proofs.YteoghpcgompajaaW.PrintWords
