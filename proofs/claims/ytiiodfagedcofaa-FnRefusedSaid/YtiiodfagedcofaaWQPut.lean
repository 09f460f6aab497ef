/- Of the print's words: those that this claim names. -/
import Derived.Test.YtiiodfagedcofaaWWords
import Derived.Test.YtiiodfagedcofaaWLast
namespace Go.Proofs.YtiiodfagedcofaaW.PrintWords
open Go.RowKit
namespace Kd
end Kd
end Go.Proofs.YtiiodfagedcofaaW.PrintWords
