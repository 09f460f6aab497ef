/- The pure statement of the law FnExactPutResp, and its walk. No condition. -/
import Derived.Test.YtfiplepbmennbaaQFnExactPutRespx11
import Derived.Test.YtfiplepbmennbaaR
namespace Go.Proofs.Ytfiplepbmennbaa.PFnExactPutResp
open Go Go.RowKit Go.Proofs.YtfiplepbmennbaaW.PrintWords Go.Proofs.YtfiplepbmennbaaW.PrintLast Go.Proofs.Ytfiplepbmennbaa.RowC
set_option linter.unusedVariables false
def laws_FnExactPutResp.Pure : Prop := ∀ (a0_0 : Int) (a0_1 : Int) (a0_2 : Int) (a0_3 : Int) (l0_4 : List Int) (l0_5 : List Bool), (Lit.int .i64 a0_0).wf = true → (Lit.int .i64 a0_1).wf = true → (Lit.int .i64 a0_2).wf = true → (Lit.int .i64 a0_3).wf = true → l0_4.length ≤ maxLen → (∀ x ∈ l0_4, (Lit.int .i64 x).wf = true) → l0_5.length ≤ maxLen → ∃ k, laws_FnExactPutResp.f k a0_0 a0_1 a0_2 a0_3 l0_4 l0_5 = some true
theorem laws_FnExactPutResp.walk (P : laws_FnExactPutResp.Pure) (a0_0 : Int) (a0_1 : Int) (a0_2 : Int) (a0_3 : Int) (v0_4 : Value) (l0_4 : List Int) (v0_5 : Value) (l0_5 : List Bool) (w : World) (w0_0 : (Lit.int .i64 a0_0).wf = true) (w0_1 : (Lit.int .i64 a0_1).wf = true) (w0_2 : (Lit.int .i64 a0_2).wf = true) (w0_3 : (Lit.int .i64 a0_3).wf = true) (i0_4 : InInts .i64 w v0_4 l0_4) (i0_5 : InBools w v0_5 l0_5) :
    Calls Try.prog 3 #[.agg #[.int .i64 a0_0, .int .i64 a0_1, .int .i64 a0_2, .int .i64 a0_3, v0_4, v0_5]] w fun e w' => e = .returned (.bool true) ∧ Below w.heap.size w w' := by
  obtain ⟨A0_4, c0_4, rfl, hc0_4, hr0_4, hm0_4, hw0_4⟩ := i0_4
  obtain ⟨A0_5, c0_5, rfl, hc0_5, hr0_5, hm0_5⟩ := i0_5
  obtain ⟨k, h⟩ := P a0_0 a0_1 a0_2 a0_3 l0_4 l0_5 w0_0 w0_1 w0_2 w0_3 hm0_4 hw0_4 hm0_5
  refine (laws_FnExactPutResp.calls k a0_0 a0_1 a0_2 a0_3 A0_4 c0_4 l0_4 A0_5 c0_5 l0_5 true w hr0_4 hc0_4 hr0_5 hc0_5 h).mono ?_
  rintro e w' ⟨rfl, hd⟩
  exact ⟨rfl, hd⟩
end Go.Proofs.Ytfiplepbmennbaa.PFnExactPutResp
