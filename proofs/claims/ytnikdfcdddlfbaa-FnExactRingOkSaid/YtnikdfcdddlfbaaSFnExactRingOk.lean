/- The pure statement of the law FnExactRingOk, and its walk. No condition. -/
import Derived.Test.YtnikdfcdddlfbaaPFnExactRingOkx1
import Derived.Test.YtnikdfcdddlfbaaR
namespace Go.Proofs.Ytnikdfcdddlfbaa.PFnExactRingOk
open Go Go.RowKit Go.Proofs.YtnikdfcdddlfbaaW.PrintWords Go.Proofs.YtnikdfcdddlfbaaW.PrintLast Go.Proofs.Ytnikdfcdddlfbaa.RowC
set_option linter.unusedVariables false
def laws_FnExactRingOk.Pure : Prop := ∀ (l0_0 : List Int), l0_0.length ≤ maxLen → (∀ x ∈ l0_0, (Lit.int .u8 x).wf = true) → ∃ k, laws_FnExactRingOk.f k l0_0 = some true
theorem laws_FnExactRingOk.walk (P : laws_FnExactRingOk.Pure) (v0_0 : Value) (l0_0 : List Int) (w : World) (i0_0 : InInts .u8 w v0_0 l0_0) :
    Calls Try.prog 3 #[.agg #[v0_0]] w fun e w' => e = .returned (.bool true) ∧ Below w.heap.size w w' := by
  obtain ⟨A0_0, c0_0, rfl, hc0_0, hr0_0, hm0_0, hw0_0⟩ := i0_0
  obtain ⟨k, h⟩ := P l0_0 hm0_0 hw0_0
  refine (laws_FnExactRingOk.calls k A0_0 c0_0 l0_0 true w hr0_0 hc0_0 h).mono ?_
  rintro e w' ⟨rfl, hd⟩
  exact ⟨rfl, hd⟩
end Go.Proofs.Ytnikdfcdddlfbaa.PFnExactRingOk
