/- The pure statement of the law FnExactPackBits, and its walk. No condition. -/
import Derived.Test.YtnikdfcdddlfbaaPFnExactPackBitsx2
import Derived.Test.YtnikdfcdddlfbaaR
namespace Go.Proofs.Ytnikdfcdddlfbaa.PFnExactPackBits
open Go Go.RowKit Go.Proofs.YtnikdfcdddlfbaaW.PrintWords Go.Proofs.YtnikdfcdddlfbaaW.PrintLast Go.Proofs.Ytnikdfcdddlfbaa.RowC
set_option linter.unusedVariables false
def laws_FnExactPackBits.Pure : Prop := ∀ (l0 : List Bool), l0.length ≤ maxLen → ∃ k, laws_FnExactPackBits.f k l0 = some true
theorem laws_FnExactPackBits.walk (P : laws_FnExactPackBits.Pure) (v0 : Value) (l0 : List Bool) (w : World) (i0 : InBools w v0 l0) :
    Calls Try.prog 6 #[v0] w fun e w' => e = .returned (.bool true) ∧ Below w.heap.size w w' := by
  obtain ⟨A0, c0, rfl, hc0, hr0, hm0⟩ := i0
  obtain ⟨k, h⟩ := P l0 hm0
  refine (laws_FnExactPackBits.calls k A0 c0 l0 true w hr0 hc0 h).mono ?_
  rintro e w' ⟨rfl, hd⟩
  exact ⟨rfl, hd⟩
end Go.Proofs.Ytnikdfcdddlfbaa.PFnExactPackBits
