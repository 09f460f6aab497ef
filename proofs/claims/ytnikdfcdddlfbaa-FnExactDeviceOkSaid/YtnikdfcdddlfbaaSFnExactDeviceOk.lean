/- The pure statement of the law FnExactDeviceOk, and its walk. No condition. -/
import Derived.Test.YtnikdfcdddlfbaaQFnExactDeviceOkx3
import Derived.Test.YtnikdfcdddlfbaaR
namespace Go.Proofs.Ytnikdfcdddlfbaa.PFnExactDeviceOk
open Go Go.RowKit Go.Proofs.YtnikdfcdddlfbaaW.PrintWords Go.Proofs.YtnikdfcdddlfbaaW.PrintLast Go.Proofs.Ytnikdfcdddlfbaa.RowC
set_option linter.unusedVariables false
def laws_FnExactDeviceOk.Pure : Prop := ∀ (l0_0 : List Bool) (l0_1 : List Bool) (l0_2 : List Int) (l0_3 : List Int), l0_0.length ≤ maxLen → l0_1.length ≤ maxLen → l0_2.length ≤ maxLen → (∀ x ∈ l0_2, (Lit.int .i64 x).wf = true) → l0_3.length ≤ maxLen → (∀ x ∈ l0_3, (Lit.int .i64 x).wf = true) → ∃ k, laws_FnExactDeviceOk.f k l0_0 l0_1 l0_2 l0_3 = some true
theorem laws_FnExactDeviceOk.walk (P : laws_FnExactDeviceOk.Pure) (v0_0 : Value) (l0_0 : List Bool) (v0_1 : Value) (l0_1 : List Bool) (v0_2 : Value) (l0_2 : List Int) (v0_3 : Value) (l0_3 : List Int) (w : World) (i0_0 : InBools w v0_0 l0_0) (i0_1 : InBools w v0_1 l0_1) (i0_2 : InInts .i64 w v0_2 l0_2) (i0_3 : InInts .i64 w v0_3 l0_3) :
    Calls Try.prog 14 #[.agg #[v0_0, v0_1, v0_2, v0_3]] w fun e w' => e = .returned (.bool true) ∧ Below w.heap.size w w' := by
  obtain ⟨A0_0, c0_0, rfl, hc0_0, hr0_0, hm0_0⟩ := i0_0
  obtain ⟨A0_1, c0_1, rfl, hc0_1, hr0_1, hm0_1⟩ := i0_1
  obtain ⟨A0_2, c0_2, rfl, hc0_2, hr0_2, hm0_2, hw0_2⟩ := i0_2
  obtain ⟨A0_3, c0_3, rfl, hc0_3, hr0_3, hm0_3, hw0_3⟩ := i0_3
  obtain ⟨k, h⟩ := P l0_0 l0_1 l0_2 l0_3 hm0_0 hm0_1 hm0_2 hw0_2 hm0_3 hw0_3
  refine (laws_FnExactDeviceOk.calls k A0_0 c0_0 l0_0 A0_1 c0_1 l0_1 A0_2 c0_2 l0_2 A0_3 c0_3 l0_3 true w hr0_0 hc0_0 hr0_1 hc0_1 hr0_2 hc0_2 hr0_3 hc0_3 h).mono ?_
  rintro e w' ⟨rfl, hd⟩
  exact ⟨rfl, hd⟩
end Go.Proofs.Ytnikdfcdddlfbaa.PFnExactDeviceOk
