/- The pure statement of the law FnExactGetReq, and its walk. No condition. -/
import Derived.Test.YteoghpcgompajaaQFnExactGetReqx9
import Derived.Test.YteoghpcgompajaaR
namespace Go.Proofs.Yteoghpcgompajaa.PFnExactGetReq
open Go Go.RowKit Go.Proofs.YteoghpcgompajaaW.PrintWords Go.Proofs.YteoghpcgompajaaW.PrintLast Go.Proofs.Yteoghpcgompajaa.RowC
set_option linter.unusedVariables false
def laws_FnExactGetReq.Pure : Prop := ∀ (l0 : List Int), l0.length ≤ maxLen → (∀ x ∈ l0, (Lit.int .u8 x).wf = true) → ∃ k, laws_FnExactGetReq.f k l0 = some true
theorem laws_FnExactGetReq.walk (P : laws_FnExactGetReq.Pure) (v0 : Value) (l0 : List Int) (w : World) (i0 : InInts .u8 w v0 l0) :
    Calls Try.prog 5 #[v0] w fun e w' => e = .returned (.bool true) ∧ Below w.heap.size w w' := by
  obtain ⟨A0, c0, rfl, hc0, hr0, hm0, hw0⟩ := i0
  obtain ⟨k, h⟩ := P l0 hm0 hw0
  refine (laws_FnExactGetReq.calls k A0 c0 l0 true w hr0 hc0 h).mono ?_
  rintro e w' ⟨rfl, hd⟩
  exact ⟨rfl, hd⟩
end Go.Proofs.Yteoghpcgompajaa.PFnExactGetReq
