/- Of the print's words: those that this claim names. -/
import Derived.Test.YtiiodfagedcofaaWWords
import Derived.Laws.StructEq
namespace Go.Proofs.YtiiodfagedcofaaW.PrintWords
open Go.RowKit
end Go.Proofs.YtiiodfagedcofaaW.PrintWords
