/- The pure statement of the law FnExactPutReq, and its walk. No condition. -/
import Derived.Test.YteoghpcgompajaaQFnExactPutReqx13
import Derived.Test.YteoghpcgompajaaR
namespace Go.Proofs.Yteoghpcgompajaa.PFnExactPutReq
open Go Go.RowKit Go.Proofs.YteoghpcgompajaaW.PrintWords Go.Proofs.YteoghpcgompajaaW.PrintLast Go.Proofs.Yteoghpcgompajaa.RowC
set_option linter.unusedVariables false
def laws_FnExactPutReq.Pure : Prop := ∀ (a0_0 : Int) (a0_1 : Int) (a0_2 : Int) (l0_3 : List Int) (l0_4 : List Bool) (a0_5 : Int), (Lit.int .i64 a0_0).wf = true → (Lit.int .i64 a0_1).wf = true → (Lit.int .i64 a0_2).wf = true → l0_3.length ≤ maxLen → (∀ x ∈ l0_3, (Lit.int .i64 x).wf = true) → l0_4.length ≤ maxLen → (Lit.int .i64 a0_5).wf = true → ∃ k, laws_FnExactPutReq.f k a0_0 a0_1 a0_2 l0_3 l0_4 a0_5 = some true
theorem laws_FnExactPutReq.walk (P : laws_FnExactPutReq.Pure) (a0_0 : Int) (a0_1 : Int) (a0_2 : Int) (v0_3 : Value) (l0_3 : List Int) (v0_4 : Value) (l0_4 : List Bool) (a0_5 : Int) (w : World) (w0_0 : (Lit.int .i64 a0_0).wf = true) (w0_1 : (Lit.int .i64 a0_1).wf = true) (w0_2 : (Lit.int .i64 a0_2).wf = true) (i0_3 : InInts .i64 w v0_3 l0_3) (i0_4 : InBools w v0_4 l0_4) (w0_5 : (Lit.int .i64 a0_5).wf = true) :
    Calls Try.prog 4 #[.agg #[.int .i64 a0_0, .int .i64 a0_1, .int .i64 a0_2, v0_3, v0_4, .int .i64 a0_5]] w fun e w' => e = .returned (.bool true) ∧ Below w.heap.size w w' := by
  obtain ⟨A0_3, c0_3, rfl, hc0_3, hr0_3, hm0_3, hw0_3⟩ := i0_3
  obtain ⟨A0_4, c0_4, rfl, hc0_4, hr0_4, hm0_4⟩ := i0_4
  obtain ⟨k, h⟩ := P a0_0 a0_1 a0_2 l0_3 l0_4 a0_5 w0_0 w0_1 w0_2 hm0_3 hw0_3 hm0_4 w0_5
  refine (laws_FnExactPutReq.calls k a0_0 a0_1 a0_2 A0_3 c0_3 l0_3 A0_4 c0_4 l0_4 a0_5 true w hr0_3 hc0_3 hr0_4 hc0_4 h).mono ?_
  rintro e w' ⟨rfl, hd⟩
  exact ⟨rfl, hd⟩
end Go.Proofs.Yteoghpcgompajaa.PFnExactPutReq
