/- Of the print's words: those that this claim names. -/
import Derived.Test.YtbdifcgkokajlaaWTab
namespace Go.Proofs.YtbdifcgkokajlaaW.PrintLast
end Go.Proofs.YtbdifcgkokajlaaW.PrintLast
