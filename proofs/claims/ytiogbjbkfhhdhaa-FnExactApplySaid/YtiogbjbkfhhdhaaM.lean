/- Short forms of steps through a region that draws its order, and of what stays. No condition. -/
import Derived.Test.YtiogbjbkfhhdhaaL
import Derived.Test.YtiogbjbkfhhdhaaWTab
import Derived.WalkSpells
import Derived.Tactics
import Derived.WalkKit
import Derived.KernelRfl
namespace Go.Proofs.Ytiogbjbkfhhdhaa.K
open Go Go.RowKit Go.Proofs.YtiogbjbkfhhdhaaW.PrintWords Go.Proofs.YtiogbjbkfhhdhaaW.PrintLast Go.Proofs.YtiogbjbkfhhdhaaW.PrintMore
set_option linter.unusedVariables false
section
variable {P : Program} {md : Region.Mode} {ops : Array Oper} {Q : Exit → Act → World → Prop} {S : World → Prop} {ds : List Nat} {T : Bool × List (List Nat × List Nat)} {i : Nat} {N : Option Tmp} {oi : Oper} {v : Value} {fuel : Nat} {l : Array Bool} {a a' : Act} {w : World}
end
end Go.Proofs.Ytiogbjbkfhhdhaa.K
