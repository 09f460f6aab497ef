/- Of the print's words: those that this claim names. -/
import Derived.Test.YtiiodfagedcofaaWInv
import Derived.Test.YtiiodfagedcofaaWFootNe
namespace Go.Proofs.YtiiodfagedcofaaW.PrintWords
open Go.RowKit
end Go.Proofs.YtiiodfagedcofaaW.PrintWords
namespace Go.Proofs.YtiiodfagedcofaaW.PrintLast
end Go.Proofs.YtiiodfagedcofaaW.PrintLast
