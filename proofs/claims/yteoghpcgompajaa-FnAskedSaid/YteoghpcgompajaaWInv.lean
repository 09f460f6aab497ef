/- Of the print's words: those that this claim names. -/
import Derived.Test.YteoghpcgompajaaWTab
namespace Go.Proofs.YteoghpcgompajaaW.PrintLast
end Go.Proofs.YteoghpcgompajaaW.PrintLast
