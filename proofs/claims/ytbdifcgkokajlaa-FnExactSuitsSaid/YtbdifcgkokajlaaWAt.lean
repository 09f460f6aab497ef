/- Of the print's words: those that this claim names. -/
import Derived.Test.YtbdifcgkokajlaaWFootNe
namespace Go.Proofs.YtbdifcgkokajlaaW.PrintWords
open Go.RowKit
namespace Kd
end Kd
end Go.Proofs.YtbdifcgkokajlaaW.PrintWords
