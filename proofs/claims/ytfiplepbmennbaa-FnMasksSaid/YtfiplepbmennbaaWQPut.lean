/- Of the print's words: those that this claim names. -/
import Derived.Test.YtfiplepbmennbaaWWords
import Derived.Test.YtfiplepbmennbaaWLast
namespace Go.Proofs.YtfiplepbmennbaaW.PrintWords
open Go.RowKit
namespace Kd
end Kd
end Go.Proofs.YtfiplepbmennbaaW.PrintWords
