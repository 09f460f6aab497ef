/- The pure statement of the law FnAsked, and its walk. No condition. -/
import Derived.Test.YteoghpcgompajaaQFnAskedx8
import Derived.Test.YteoghpcgompajaaR
namespace Go.Proofs.Yteoghpcgompajaa.PFnAsked
open Go Go.RowKit Go.Proofs.YteoghpcgompajaaW.PrintWords Go.Proofs.YteoghpcgompajaaW.PrintLast Go.Proofs.Yteoghpcgompajaa.RowC
set_option linter.unusedVariables false
def laws_FnAsked.Pure : Prop := ∀ (l0 : List Int), l0.length ≤ maxLen → (∀ x ∈ l0, (Lit.int .u8 x).wf = true) → ∃ k, laws_FnAsked.f k l0 = some true
theorem laws_FnAsked.walk (P : laws_FnAsked.Pure) (v0 : Value) (l0 : List Int) (w : World) (i0 : InInts .u8 w v0 l0) :
    Calls Try.prog 6 #[v0] w fun e w' => e = .returned (.bool true) ∧ Below w.heap.size w w' := by
  obtain ⟨A0, c0, rfl, hc0, hr0, hm0, hw0⟩ := i0
  obtain ⟨k, h⟩ := P l0 hm0 hw0
  refine (laws_FnAsked.calls k A0 c0 l0 true w hr0 hc0 h).mono ?_
  rintro e w' ⟨rfl, hd⟩
  exact ⟨rfl, hd⟩
end Go.Proofs.Yteoghpcgompajaa.PFnAsked
