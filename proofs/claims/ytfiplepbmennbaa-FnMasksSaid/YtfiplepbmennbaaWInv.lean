/- Of the print's words: those that this claim names. -/
import Derived.Test.YtfiplepbmennbaaWTab
namespace Go.Proofs.YtfiplepbmennbaaW.PrintLast
/-- Number i is listed too. -/
def up (b : Nat → Bool) (i : Nat) : Nat → Bool := fun j => if j = i then true else b j
end Go.Proofs.YtfiplepbmennbaaW.PrintLast
