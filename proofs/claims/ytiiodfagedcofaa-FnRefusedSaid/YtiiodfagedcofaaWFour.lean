/- Of the print's words: those that this claim names. -/
import Derived.Test.YtiiodfagedcofaaWTab
namespace Go.Proofs.YtiiodfagedcofaaW.PrintLast
end Go.Proofs.YtiiodfagedcofaaW.PrintLast
