/- spec.l1In: does a number lie between two? No condition. -/
import Derived.Test.YtiogbjbkfhhdhaaGOwn
namespace Go.Proofs.Ytiogbjbkfhhdhaa.G
open Go.Proofs.Ytiogbjbkfhhdhaa.K Go Go.RowKit Go.Proofs.YtiogbjbkfhhdhaaW.PrintWords Go.Proofs.YtiogbjbkfhhdhaaW.PrintLast Go.Proofs.YtiogbjbkfhhdhaaW.PrintMore
set_option linter.unusedVariables false
set_option linter.unusedSimpArgs false
set_option maxHeartbeats 1000000 in
theorem l1In_own (a b c : Int) (r : Bool) (w : World) (h : decide (b ≤ a ∧ a ≤ c) = r) : Calls Try.prog 54 #[.int .i64 a, .int .i64 b, .int .i64 c] w fun e w' => e = .returned (.bool r) ∧ Drawn0 w w' := by
  by_cases h1 : b ≤ a
  · have d1 : decide (b ≤ a) = true := decide_eq_true h1
    go_enter Try.func54, Try.ntmps54
    go_wp2
    go_ret
    exact ⟨by rw [← h]; first | (simp [h1]; done) | (simp; omega), Drawn0.refl _⟩
  · have d1 : decide (b ≤ a) = false := decide_eq_false h1
    go_enter Try.func54, Try.ntmps54
    go_wp2
    go_ret
    exact ⟨by rw [← h]; first | (simp [h1]; done) | (simp; omega), Drawn0.refl _⟩
end Go.Proofs.Ytiogbjbkfhhdhaa.G
