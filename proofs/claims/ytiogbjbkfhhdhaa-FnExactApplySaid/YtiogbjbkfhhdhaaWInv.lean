/- Of the print's words: those that this claim names. -/
import Derived.Test.YtiogbjbkfhhdhaaWTab
namespace Go.Proofs.YtiogbjbkfhhdhaaW.PrintLast
/-- Number i is listed too. -/
def up (b : Nat → Bool) (i : Nat) : Nat → Bool := fun j => if j = i then true else b j
end Go.Proofs.YtiogbjbkfhhdhaaW.PrintLast
