/- The pure statement of the law FnExactSuits, and its walk. No condition. -/
import Derived.Test.YtbdifcgkokajlaaQFnExactSuitsx15
import Derived.Test.YtbdifcgkokajlaaR
namespace Go.Proofs.Ytbdifcgkokajlaa.PFnExactSuits
open Go Go.RowKit Go.Proofs.YtbdifcgkokajlaaW.PrintWords Go.Proofs.YtbdifcgkokajlaaW.PrintLast Go.Proofs.Ytbdifcgkokajlaa.RowC
set_option linter.unusedVariables false
def laws_FnExactSuits.Pure : Prop := ∀ (a0_0 : Int) (a0_1 : Int) (a0_2 : Int) (l0_3 : List Int) (l0_4 : List Bool) (a0_5 : Int) (a1_0 : Int) (a1_1 : Int) (a1_2 : Int) (a1_3 : Int) (l1_4 : List Int) (l1_5 : List Bool), (Lit.int .i64 a0_0).wf = true → (Lit.int .i64 a0_1).wf = true → (Lit.int .i64 a0_2).wf = true → l0_3.length ≤ maxLen → (∀ x ∈ l0_3, (Lit.int .i64 x).wf = true) → l0_4.length ≤ maxLen → (Lit.int .i64 a0_5).wf = true → (Lit.int .i64 a1_0).wf = true → (Lit.int .i64 a1_1).wf = true → (Lit.int .i64 a1_2).wf = true → (Lit.int .i64 a1_3).wf = true → l1_4.length ≤ maxLen → (∀ x ∈ l1_4, (Lit.int .i64 x).wf = true) → l1_5.length ≤ maxLen → ∃ k, laws_FnExactSuits.f k a0_0 a0_1 a0_2 l0_3 l0_4 a0_5 a1_0 a1_1 a1_2 a1_3 l1_4 l1_5 = some true
theorem laws_FnExactSuits.walk (P : laws_FnExactSuits.Pure) (a0_0 : Int) (a0_1 : Int) (a0_2 : Int) (v0_3 : Value) (l0_3 : List Int) (v0_4 : Value) (l0_4 : List Bool) (a0_5 : Int) (a1_0 : Int) (a1_1 : Int) (a1_2 : Int) (a1_3 : Int) (v1_4 : Value) (l1_4 : List Int) (v1_5 : Value) (l1_5 : List Bool) (w : World) (w0_0 : (Lit.int .i64 a0_0).wf = true) (w0_1 : (Lit.int .i64 a0_1).wf = true) (w0_2 : (Lit.int .i64 a0_2).wf = true) (i0_3 : InInts .i64 w v0_3 l0_3) (i0_4 : InBools w v0_4 l0_4) (w0_5 : (Lit.int .i64 a0_5).wf = true) (w1_0 : (Lit.int .i64 a1_0).wf = true) (w1_1 : (Lit.int .i64 a1_1).wf = true) (w1_2 : (Lit.int .i64 a1_2).wf = true) (w1_3 : (Lit.int .i64 a1_3).wf = true) (i1_4 : InInts .i64 w v1_4 l1_4) (i1_5 : InBools w v1_5 l1_5) :
    Calls Try.prog 6 #[.agg #[.int .i64 a0_0, .int .i64 a0_1, .int .i64 a0_2, v0_3, v0_4, .int .i64 a0_5], .agg #[.int .i64 a1_0, .int .i64 a1_1, .int .i64 a1_2, .int .i64 a1_3, v1_4, v1_5]] w fun e w' => e = .returned (.bool true) ∧ Below w.heap.size w w' := by
  obtain ⟨A0_3, c0_3, rfl, hc0_3, hr0_3, hm0_3, hw0_3⟩ := i0_3
  obtain ⟨A0_4, c0_4, rfl, hc0_4, hr0_4, hm0_4⟩ := i0_4
  obtain ⟨A1_4, c1_4, rfl, hc1_4, hr1_4, hm1_4, hw1_4⟩ := i1_4
  obtain ⟨A1_5, c1_5, rfl, hc1_5, hr1_5, hm1_5⟩ := i1_5
  obtain ⟨k, h⟩ := P a0_0 a0_1 a0_2 l0_3 l0_4 a0_5 a1_0 a1_1 a1_2 a1_3 l1_4 l1_5 w0_0 w0_1 w0_2 hm0_3 hw0_3 hm0_4 w0_5 w1_0 w1_1 w1_2 w1_3 hm1_4 hw1_4 hm1_5
  refine (laws_FnExactSuits.calls k a0_0 a0_1 a0_2 A0_3 c0_3 l0_3 A0_4 c0_4 l0_4 a0_5 a1_0 a1_1 a1_2 a1_3 A1_4 c1_4 l1_4 A1_5 c1_5 l1_5 true w hr0_3 hc0_3 hr0_4 hc0_4 hr1_4 hc1_4 hr1_5 hc1_5 h).mono ?_
  rintro e w' ⟨rfl, hd⟩
  exact ⟨rfl, hd⟩
end Go.Proofs.Ytbdifcgkokajlaa.PFnExactSuits
