/- The pure statement of the law FnRings, and its walk. No condition. -/
import Derived.Test.YtnikdfcdddlfbaaQFnRingsx3
import Derived.Test.YtnikdfcdddlfbaaR
namespace Go.Proofs.Ytnikdfcdddlfbaa.PFnRings
open Go Go.RowKit Go.Proofs.YtnikdfcdddlfbaaW.PrintWords Go.Proofs.YtnikdfcdddlfbaaW.PrintLast Go.Proofs.Ytnikdfcdddlfbaa.RowC
set_option linter.unusedVariables false
def laws_FnRings.Pure : Prop := ∀ (l0 : List Int), l0.length ≤ maxLen → (∀ x ∈ l0, (Lit.int .u8 x).wf = true) → ∃ k, laws_FnRings.f k l0 = some true
theorem laws_FnRings.walk (P : laws_FnRings.Pure) (v0 : Value) (l0 : List Int) (w : World) (i0 : InInts .u8 w v0 l0) :
    Calls Try.prog 13 #[v0] w fun e w' => e = .returned (.bool true) ∧ Below w.heap.size w w' := by
  obtain ⟨A0, c0, rfl, hc0, hr0, hm0, hw0⟩ := i0
  obtain ⟨k, h⟩ := P l0 hm0 hw0
  refine (laws_FnRings.calls k A0 c0 l0 true w hr0 hc0 h).mono ?_
  rintro e w' ⟨rfl, hd⟩
  exact ⟨rfl, hd⟩
end Go.Proofs.Ytnikdfcdddlfbaa.PFnRings
