/- Of the print's words: those that this claim names. -/
import Derived.SizedLaws
import Derived.ChangeSlices
namespace Go.Proofs.YtfiplepbmennbaaW.PrintWords
open Go.ChangeShapes Go.WideShapes
end Go.Proofs.YtfiplepbmennbaaW.PrintWords
