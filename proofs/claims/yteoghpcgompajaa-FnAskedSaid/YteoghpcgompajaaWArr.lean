/- Of the print's words: those that this claim names. -/
import Derived.Test.YteoghpcgompajaaWWords
namespace Go.Proofs.YteoghpcgompajaaW.PrintWords
open Go.RowKit
namespace Kd
end Kd
end Go.Proofs.YteoghpcgompajaaW.PrintWords
