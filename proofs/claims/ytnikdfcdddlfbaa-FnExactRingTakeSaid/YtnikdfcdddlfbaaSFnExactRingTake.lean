/- The pure statement of the law FnExactRingTake, and its walk. No condition. -/
import Derived.Test.YtnikdfcdddlfbaaQFnExactRingTakex4
import Derived.Test.YtnikdfcdddlfbaaR
namespace Go.Proofs.Ytnikdfcdddlfbaa.PFnExactRingTake
open Go Go.RowKit Go.Proofs.YtnikdfcdddlfbaaW.PrintWords Go.Proofs.YtnikdfcdddlfbaaW.PrintLast Go.Proofs.Ytnikdfcdddlfbaa.RowC
set_option linter.unusedVariables false
def laws_FnExactRingTake.Pure : Prop := ∀ (l0_0 : List Int) (a1 : Int), l0_0.length ≤ maxLen → (∀ x ∈ l0_0, (Lit.int .u8 x).wf = true) → (Lit.int .i64 a1).wf = true → ∃ k, laws_FnExactRingTake.f k l0_0 a1 = some true
theorem laws_FnExactRingTake.walk (P : laws_FnExactRingTake.Pure) (v0_0 : Value) (l0_0 : List Int) (a1 : Int) (w : World) (i0_0 : InInts .u8 w v0_0 l0_0) (w1 : (Lit.int .i64 a1).wf = true) :
    Calls Try.prog 10 #[.agg #[v0_0], .int .i64 a1] w fun e w' => e = .returned (.bool true) ∧ Below w.heap.size w w' := by
  obtain ⟨A0_0, c0_0, rfl, hc0_0, hr0_0, hm0_0, hw0_0⟩ := i0_0
  obtain ⟨k, h⟩ := P l0_0 a1 hm0_0 hw0_0 w1
  refine (laws_FnExactRingTake.calls k A0_0 c0_0 l0_0 a1 true w hr0_0 hc0_0 h).mono ?_
  rintro e w' ⟨rfl, hd⟩
  exact ⟨rfl, hd⟩
end Go.Proofs.Ytnikdfcdddlfbaa.PFnExactRingTake
