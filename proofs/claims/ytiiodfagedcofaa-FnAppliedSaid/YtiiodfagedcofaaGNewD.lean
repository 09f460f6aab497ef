/- What a new device is. No condition. -/
import Derived.Test.YtiiodfagedcofaaGOwn
namespace Go.Proofs.Ytiiodfagedcofaa.G
open Go.Proofs.Ytiiodfagedcofaa.K Go Go.RowKit Go.Proofs.YtiiodfagedcofaaW.PrintWords Go.Proofs.YtiiodfagedcofaaW.PrintLast Go.Proofs.YtiiodfagedcofaaW.PrintMore
/-- How many of each a device of size n has. -/
def szOf (n : Int) : Nat := if 0 ≤ n ∧ n ≤ 64 then n.toNat else 0
theorem szOf_le (n : Int) : szOf n ≤ 64 := by unfold szOf; split <;> omega
def zb (n : Int) : List Bool := List.replicate (szOf n) false
def zi (n : Int) : List Int := List.replicate (szOf n) 0
/-- What a new device is. -/
def NewPost (n : Int) (w : World) (e : Ending) (w' : World) : Prop := ∃ A0 A1 A2 A3 c0 c1 c2 c3, e = .returned (.agg #[.slice A0 (zb n).length c0, .slice A1 (zb n).length c1, .slice A2 (zi n).length c2, .slice A3 (zi n).length c3]) ∧
  Own w w' [rb (.slice A0 (zb n).length c0) (zb n), rb (.slice A1 (zb n).length c1) (zb n), ri (.slice A2 (zi n).length c2) (zi n), ri (.slice A3 (zi n).length c3) (zi n)]
end Go.Proofs.Ytiiodfagedcofaa.G
