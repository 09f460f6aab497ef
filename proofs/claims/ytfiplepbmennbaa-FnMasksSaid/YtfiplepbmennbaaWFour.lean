/- Of the print's words: those that this claim names. -/
import Derived.Test.YtfiplepbmennbaaWTab
namespace Go.Proofs.YtfiplepbmennbaaW.PrintLast
end Go.Proofs.YtfiplepbmennbaaW.PrintLast
