/- Of the print's words: those that this claim names. -/
import Derived.Test.YtbdifcgkokajlaaWInv
import Derived.Test.YtbdifcgkokajlaaWFootNe
namespace Go.Proofs.YtbdifcgkokajlaaW.PrintWords
open Go.RowKit
end Go.Proofs.YtbdifcgkokajlaaW.PrintWords
namespace Go.Proofs.YtbdifcgkokajlaaW.PrintLast
end Go.Proofs.YtbdifcgkokajlaaW.PrintLast
