/- spec.l1In: does a number lie between two? No condition. -/
import Derived.Test.YtiiodfagedcofaaGOwn
namespace Go.Proofs.Ytiiodfagedcofaa.G
open Go.Proofs.Ytiiodfagedcofaa.K Go Go.RowKit Go.Proofs.YtiiodfagedcofaaW.PrintWords Go.Proofs.YtiiodfagedcofaaW.PrintLast Go.Proofs.YtiiodfagedcofaaW.PrintMore
set_option linter.unusedVariables false
set_option linter.unusedSimpArgs false
set_option maxHeartbeats 1000000 in
theorem l1In_own (a b c : Int) (r : Bool) (w : World) (h : decide (b ≤ a ∧ a ≤ c) = r) : Calls Try.prog 44 #[.int .i64 a, .int .i64 b, .int .i64 c] w fun e w' => e = .returned (.bool r) ∧ Drawn0 w w' := by
  by_cases h1 : b ≤ a
  · have d1 : decide (b ≤ a) = true := decide_eq_true h1
    go_enter Try.func44, Try.ntmps44
    go_wp2
    go_ret
    exact ⟨by rw [← h]; first | (simp [h1]; done) | (simp; omega), Drawn0.refl _⟩
  · have d1 : decide (b ≤ a) = false := decide_eq_false h1
    go_enter Try.func44, Try.ntmps44
    go_wp2
    go_ret
    exact ⟨by rw [← h]; first | (simp [h1]; done) | (simp; omega), Drawn0.refl _⟩
end Go.Proofs.Ytiiodfagedcofaa.G
