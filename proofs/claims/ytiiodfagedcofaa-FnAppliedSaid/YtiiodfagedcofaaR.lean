/- How a law's arguments are read: rows of whole numbers and of bools, structs of such, rows of such structs. No condition. -/
import Derived.Test.YtiiodfagedcofaaWMore
import Derived.WalkKit
import Derived.ProofKit
import Derived.OpenShut
import Derived.ShutString
import Derived.ChangeOld
import Derived.Below
import Derived.SizedLaws
import Derived.Deep.Grids
import Derived.Lib.SmallJoins
namespace Go.Proofs.Ytiiodfagedcofaa.RowC
open Go Go.ChangeShapes Go.WideShapes Go.ChangeAt Go.RowKit Go.Joins Go.Deep Go.Proofs.YtiiodfagedcofaaW.PrintWords
set_option linter.unusedVariables false

section
variable {H : Type} {enc : TypeId × Value → H} {P : Program} {w : World} {base : Nat} {held : Bool}

/-- A row of whole numbers that came in. -/
def InInts (k : IntKind) (w : World) (v : Value) (l : List Int) : Prop :=
  ∃ A c, v = .slice A l.length c ∧ l.length ≤ c ∧ Kd.C (Kd.int k) w A l.length l ∧ l.length ≤ maxLen ∧ ∀ x ∈ l, (Lit.int k x).wf = true
theorem in_ints {t e : TypeId} {k : IntKind} {fuel : Nat} {v : Value} {y : DataW H × List MemPlace} (ht : P.underlying t = some (.slice e)) (he : P.underlying e = some (.int k)) (hc : P.cellsOf e = 1)
    (h : DataW.trod enc P w base (fun _ => true) held fuel t [v] = some y) : ∃ l, InInts k w v l := by
  rcases open_ints ht he hc h with ⟨hcs, _⟩ | ⟨x, len, cap, zs, hcs, _, hl, hm, hz, _, hcell, hwz⟩
  · simp at hcs
    obtain ⟨l, e1, hr, hm, hw, hcp⟩ := ReadsInt.ofRowC (k := k) (w := w) (a := none) (len := 0) (cap := 0) (zs := []) (.inl ⟨rfl, rfl, rfl, rfl⟩)
    rw [← e1] at hr hm hcp
    refine ⟨l, none, 0, by rw [hcs, ← e1], by omega, ?_, by omega, hw⟩
    rw [← e1]
    exact Kd.C_of_reads (d := (0 : Int)) (h1 := fun _ => rfl) hr
  · simp at hcs
    obtain ⟨l, e1, hr, hm2, hw, hcp⟩ := ReadsInt.ofRowC (k := k) (w := w) (a := some x) (len := len) (cap := cap) (zs := zs) (.inr ⟨x, rfl, hl, hm, by simpa using hz, hcell, hwz⟩)
    refine ⟨l, some x, cap, by rw [hcs, e1], hcp, Kd.C_of_reads (d := (0 : Int)) (h1 := fun _ => rfl) hr, hm2, hw⟩

end
end Go.Proofs.Ytiiodfagedcofaa.RowC
