/- Of the print's words: those that this claim names. -/
import Derived.Test.YtfiplepbmennbaaWN
namespace Go.Proofs.YtfiplepbmennbaaW.PrintWords
open Go.RowKit
namespace Kd
end Kd
end Go.Proofs.YtfiplepbmennbaaW.PrintWords
