/- Of the print's words: those that this claim names. -/
import Derived.Test.YtiiodfagedcofaaWTab
namespace Go.Proofs.YtiiodfagedcofaaW.PrintLast
/-- Number i is listed too. -/
def up (b : Nat → Bool) (i : Nat) : Nat → Bool := fun j => if j = i then true else b j
end Go.Proofs.YtiiodfagedcofaaW.PrintLast
