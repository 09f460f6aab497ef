/- The pure statement of the law FnExactRingPut, and its walk. No condition. -/
import Derived.Test.YtnikdfcdddlfbaaQFnExactRingPutx3
import Derived.Test.YtnikdfcdddlfbaaR
namespace Go.Proofs.Ytnikdfcdddlfbaa.PFnExactRingPut
open Go Go.RowKit Go.Proofs.YtnikdfcdddlfbaaW.PrintWords Go.Proofs.YtnikdfcdddlfbaaW.PrintLast Go.Proofs.Ytnikdfcdddlfbaa.RowC
set_option linter.unusedVariables false
def laws_FnExactRingPut.Pure : Prop := ∀ (l0_0 : List Int) (l1 : List Int), l0_0.length ≤ maxLen → (∀ x ∈ l0_0, (Lit.int .u8 x).wf = true) → l1.length ≤ maxLen → (∀ x ∈ l1, (Lit.int .u8 x).wf = true) → ∃ k, laws_FnExactRingPut.f k l0_0 l1 = some true
theorem laws_FnExactRingPut.walk (P : laws_FnExactRingPut.Pure) (v0_0 : Value) (l0_0 : List Int) (v1 : Value) (l1 : List Int) (w : World) (i0_0 : InInts .u8 w v0_0 l0_0) (i1 : InInts .u8 w v1 l1) :
    Calls Try.prog 15 #[.agg #[v0_0], v1] w fun e w' => e = .returned (.bool true) ∧ Below w.heap.size w w' := by
  obtain ⟨A0_0, c0_0, rfl, hc0_0, hr0_0, hm0_0, hw0_0⟩ := i0_0
  obtain ⟨A1, c1, rfl, hc1, hr1, hm1, hw1⟩ := i1
  obtain ⟨k, h⟩ := P l0_0 l1 hm0_0 hw0_0 hm1 hw1
  refine (laws_FnExactRingPut.calls k A0_0 c0_0 l0_0 A1 c1 l1 true w hr0_0 hc0_0 hr1 hc1 h).mono ?_
  rintro e w' ⟨rfl, hd⟩
  exact ⟨rfl, hd⟩
end Go.Proofs.Ytnikdfcdddlfbaa.PFnExactRingPut
