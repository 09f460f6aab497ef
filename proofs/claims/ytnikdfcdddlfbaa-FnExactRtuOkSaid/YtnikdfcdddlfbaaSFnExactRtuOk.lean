/- The pure statement of the law FnExactRtuOk, and its walk. No condition. -/
import Derived.Test.YtnikdfcdddlfbaaPFnExactRtuOkx2
import Derived.Test.YtnikdfcdddlfbaaR
namespace Go.Proofs.Ytnikdfcdddlfbaa.PFnExactRtuOk
open Go Go.RowKit Go.Proofs.YtnikdfcdddlfbaaW.PrintWords Go.Proofs.YtnikdfcdddlfbaaW.PrintLast Go.Proofs.Ytnikdfcdddlfbaa.RowC
set_option linter.unusedVariables false
def laws_FnExactRtuOk.Pure : Prop := ∀ (l0_0 : List Int) (a0_1 : Int) (a0_2 : Bool) (a0_3 : Int) (a0_4 : Int), l0_0.length ≤ maxLen → (∀ x ∈ l0_0, (Lit.int .u8 x).wf = true) → (Lit.int .i64 a0_1).wf = true → (Lit.int .i64 a0_3).wf = true → (Lit.int .i64 a0_4).wf = true → ∃ k, laws_FnExactRtuOk.f k l0_0 a0_1 a0_2 a0_3 a0_4 = some true
theorem laws_FnExactRtuOk.walk (P : laws_FnExactRtuOk.Pure) (v0_0 : Value) (l0_0 : List Int) (a0_1 : Int) (a0_2 : Bool) (a0_3 : Int) (a0_4 : Int) (w : World) (i0_0 : InInts .u8 w v0_0 l0_0) (w0_1 : (Lit.int .i64 a0_1).wf = true) (w0_3 : (Lit.int .i64 a0_3).wf = true) (w0_4 : (Lit.int .i64 a0_4).wf = true) :
    Calls Try.prog 5 #[.agg #[v0_0, .int .i64 a0_1, .bool a0_2, .int .i64 a0_3, .int .i64 a0_4]] w fun e w' => e = .returned (.bool true) ∧ Below w.heap.size w w' := by
  obtain ⟨A0_0, c0_0, rfl, hc0_0, hr0_0, hm0_0, hw0_0⟩ := i0_0
  obtain ⟨k, h⟩ := P l0_0 a0_1 a0_2 a0_3 a0_4 hm0_0 hw0_0 w0_1  w0_3 w0_4
  refine (laws_FnExactRtuOk.calls k A0_0 c0_0 l0_0 a0_1 a0_2 a0_3 a0_4 true w hr0_0 hc0_0 h).mono ?_
  rintro e w' ⟨rfl, hd⟩
  exact ⟨rfl, hd⟩
end Go.Proofs.Ytnikdfcdddlfbaa.PFnExactRtuOk
