/- Of the print's words: those that this claim names. -/
import Derived.Test.YtbdifcgkokajlaaWWords
import Derived.Laws.StructEq
namespace Go.Proofs.YtbdifcgkokajlaaW.PrintWords
open Go.RowKit
end Go.Proofs.YtbdifcgkokajlaaW.PrintWords
