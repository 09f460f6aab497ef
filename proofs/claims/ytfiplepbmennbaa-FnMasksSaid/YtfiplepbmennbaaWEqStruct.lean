/- Of the print's words: those that this claim names. -/
import Derived.Test.YtfiplepbmennbaaWWords
import Derived.Laws.StructEq
namespace Go.Proofs.YtfiplepbmennbaaW.PrintWords
open Go.RowKit
end Go.Proofs.YtfiplepbmennbaaW.PrintWords
