/- The pure statement of the law FnExactSameDevice, and its walk. No condition. -/
import Derived.Test.YtnikdfcdddlfbaaQFnExactSameDevicex4
import Derived.Test.YtnikdfcdddlfbaaR
namespace Go.Proofs.Ytnikdfcdddlfbaa.PFnExactSameDevice
open Go Go.RowKit Go.Proofs.YtnikdfcdddlfbaaW.PrintWords Go.Proofs.YtnikdfcdddlfbaaW.PrintLast Go.Proofs.Ytnikdfcdddlfbaa.RowC
set_option linter.unusedVariables false
def laws_FnExactSameDevice.Pure : Prop := ∀ (l0_0 : List Bool) (l0_1 : List Bool) (l0_2 : List Int) (l0_3 : List Int) (l1_0 : List Bool) (l1_1 : List Bool) (l1_2 : List Int) (l1_3 : List Int), l0_0.length ≤ maxLen → l0_1.length ≤ maxLen → l0_2.length ≤ maxLen → (∀ x ∈ l0_2, (Lit.int .i64 x).wf = true) → l0_3.length ≤ maxLen → (∀ x ∈ l0_3, (Lit.int .i64 x).wf = true) → l1_0.length ≤ maxLen → l1_1.length ≤ maxLen → l1_2.length ≤ maxLen → (∀ x ∈ l1_2, (Lit.int .i64 x).wf = true) → l1_3.length ≤ maxLen → (∀ x ∈ l1_3, (Lit.int .i64 x).wf = true) → ∃ k, laws_FnExactSameDevice.f k l0_0 l0_1 l0_2 l0_3 l1_0 l1_1 l1_2 l1_3 = some true
theorem laws_FnExactSameDevice.walk (P : laws_FnExactSameDevice.Pure) (v0_0 : Value) (l0_0 : List Bool) (v0_1 : Value) (l0_1 : List Bool) (v0_2 : Value) (l0_2 : List Int) (v0_3 : Value) (l0_3 : List Int) (v1_0 : Value) (l1_0 : List Bool) (v1_1 : Value) (l1_1 : List Bool) (v1_2 : Value) (l1_2 : List Int) (v1_3 : Value) (l1_3 : List Int) (w : World) (i0_0 : InBools w v0_0 l0_0) (i0_1 : InBools w v0_1 l0_1) (i0_2 : InInts .i64 w v0_2 l0_2) (i0_3 : InInts .i64 w v0_3 l0_3) (i1_0 : InBools w v1_0 l1_0) (i1_1 : InBools w v1_1 l1_1) (i1_2 : InInts .i64 w v1_2 l1_2) (i1_3 : InInts .i64 w v1_3 l1_3) :
    Calls Try.prog 16 #[.agg #[v0_0, v0_1, v0_2, v0_3], .agg #[v1_0, v1_1, v1_2, v1_3]] w fun e w' => e = .returned (.bool true) ∧ Below w.heap.size w w' := by
  obtain ⟨A0_0, c0_0, rfl, hc0_0, hr0_0, hm0_0⟩ := i0_0
  obtain ⟨A0_1, c0_1, rfl, hc0_1, hr0_1, hm0_1⟩ := i0_1
  obtain ⟨A0_2, c0_2, rfl, hc0_2, hr0_2, hm0_2, hw0_2⟩ := i0_2
  obtain ⟨A0_3, c0_3, rfl, hc0_3, hr0_3, hm0_3, hw0_3⟩ := i0_3
  obtain ⟨A1_0, c1_0, rfl, hc1_0, hr1_0, hm1_0⟩ := i1_0
  obtain ⟨A1_1, c1_1, rfl, hc1_1, hr1_1, hm1_1⟩ := i1_1
  obtain ⟨A1_2, c1_2, rfl, hc1_2, hr1_2, hm1_2, hw1_2⟩ := i1_2
  obtain ⟨A1_3, c1_3, rfl, hc1_3, hr1_3, hm1_3, hw1_3⟩ := i1_3
  obtain ⟨k, h⟩ := P l0_0 l0_1 l0_2 l0_3 l1_0 l1_1 l1_2 l1_3 hm0_0 hm0_1 hm0_2 hw0_2 hm0_3 hw0_3 hm1_0 hm1_1 hm1_2 hw1_2 hm1_3 hw1_3
  refine (laws_FnExactSameDevice.calls k A0_0 c0_0 l0_0 A0_1 c0_1 l0_1 A0_2 c0_2 l0_2 A0_3 c0_3 l0_3 A1_0 c1_0 l1_0 A1_1 c1_1 l1_1 A1_2 c1_2 l1_2 A1_3 c1_3 l1_3 true w hr0_0 hc0_0 hr0_1 hc0_1 hr0_2 hc0_2 hr0_3 hc0_3 hr1_0 hc1_0 hr1_1 hc1_1 hr1_2 hc1_2 hr1_3 hc1_3 h).mono ?_
  rintro e w' ⟨rfl, hd⟩
  exact ⟨rfl, hd⟩
end Go.Proofs.Ytnikdfcdddlfbaa.PFnExactSameDevice
