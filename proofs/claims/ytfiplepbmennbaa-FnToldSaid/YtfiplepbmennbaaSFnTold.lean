/- The pure statement of the law FnTold, and its walk. No condition. -/
import Derived.Test.YtfiplepbmennbaaQFnToldx9
import Derived.Test.YtfiplepbmennbaaR
namespace Go.Proofs.Ytfiplepbmennbaa.PFnTold
open Go Go.RowKit Go.Proofs.YtfiplepbmennbaaW.PrintWords Go.Proofs.YtfiplepbmennbaaW.PrintLast Go.Proofs.Ytfiplepbmennbaa.RowC
set_option linter.unusedVariables false
def laws_FnTold.Pure : Prop := ∀ (l0 : List Int), l0.length ≤ maxLen → (∀ x ∈ l0, (Lit.int .u8 x).wf = true) → ∃ k, laws_FnTold.f k l0 = some true
theorem laws_FnTold.walk (P : laws_FnTold.Pure) (v0 : Value) (l0 : List Int) (w : World) (i0 : InInts .u8 w v0 l0) :
    Calls Try.prog 5 #[v0] w fun e w' => e = .returned (.bool true) ∧ Below w.heap.size w w' := by
  obtain ⟨A0, c0, rfl, hc0, hr0, hm0, hw0⟩ := i0
  obtain ⟨k, h⟩ := P l0 hm0 hw0
  refine (laws_FnTold.calls k A0 c0 l0 true w hr0 hc0 h).mono ?_
  rintro e w' ⟨rfl, hd⟩
  exact ⟨rfl, hd⟩
end Go.Proofs.Ytfiplepbmennbaa.PFnTold
