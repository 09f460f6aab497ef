/- Of the print's words: those that this claim names. -/
import Derived.Test.YtfiplepbmennbaaWInv
import Derived.Test.YtfiplepbmennbaaWFootNe
namespace Go.Proofs.YtfiplepbmennbaaW.PrintWords
open Go.RowKit
end Go.Proofs.YtfiplepbmennbaaW.PrintWords
namespace Go.Proofs.YtfiplepbmennbaaW.PrintLast
end Go.Proofs.YtfiplepbmennbaaW.PrintLast
