/- The law on TickOn is true at every two numbers: both answers are the sum modulo 2^32, or nothing where one is no tick. No condition. -/
import Derived.Test.YtioajlgddbnlgaaPFnExactTickOnx1
import Derived.Test.YtioajlgddbnlgaaC
namespace Go.Proofs.Ytioajlgddbnlgaa.Pure
open Go Go.RowKit Go.Proofs.Ytioajlgddbnlgaa.PFnExactTickOn Go.Proofs.YtioajlgddbnlgaaW.PrintWords Go.Proofs.YtioajlgddbnlgaaW.PrintLast Go.Proofs.Ytioajlgddbnlgaa.PlainC
set_option linter.unusedVariables false
set_option linter.unusedSimpArgs false

theorem impl_isTick_eq (t : Int) : impl_isTick.f t = some (decide (0 ≤ t ∧ t ≤ 4294967295)) := by
  by_cases h0 : t ≥ 0
  · have h1 : 0 ≤ t := h0
    simp only [impl_isTick.f, impl_in.f, h0, h1, if_true, Option.bind_some, true_and]
  · have h1 : ¬ 0 ≤ t := h0
    simp only [impl_isTick.f, impl_in.f, h0, h1, if_false, Option.bind_some, false_and, decide_false]

theorem spec_l1Tick_eq (t : Int) : spec_l1Tick.f t = some (decide (0 ≤ t ∧ t ≤ 4294967295)) := by
  by_cases h0 : t ≥ 0
  · have h1 : 0 ≤ t := h0
    simp only [spec_l1Tick.f, spec_l1In.f, h0, h1, if_true, Option.bind_some, true_and]
  · have h1 : ¬ 0 ≤ t := h0
    simp only [spec_l1Tick.f, spec_l1In.f, h0, h1, if_false, Option.bind_some, false_and, decide_false]

theorem impl_TickOn_eq (a b : Int) : impl_TickOn.f a b = some (if (0 ≤ a ∧ a ≤ 4294967295) ∧ 0 ≤ b ∧ b ≤ 4294967295 then (a + b) % 4294967296 else 0) := by
  simp only [impl_TickOn.f, impl_isTick_eq, Option.bind_some]
  by_cases h1 : 0 ≤ a ∧ a ≤ 4294967295
  · by_cases h2 : 0 ≤ b ∧ b ≤ 4294967295
    · rw [w64 (x := a + b) (by omega) (by omega), tmod_pos (by omega)]
      simp [h1, h2]
    · simp [h1, h2]
  · simp [h1]

theorem spec_TickOn_eq (a b : Int) : spec_TickOn.f a b = some (if (0 ≤ a ∧ a ≤ 4294967295) ∧ 0 ≤ b ∧ b ≤ 4294967295 then (a + b) % 4294967296 else 0) := by
  simp only [spec_TickOn.f, spec_l1Tick_eq, Option.bind_some, and_32]
  by_cases h1 : 0 ≤ a ∧ a ≤ 4294967295
  · by_cases h2 : 0 ≤ b ∧ b ≤ 4294967295
    · rw [w64 (x := a + b) (by omega) (by omega)]
      simp [h1, h2]
    · simp [h1, h2]
  · simp [h1]

theorem FnExactTickOn : laws_FnExactTickOn.Pure := by
  intro a b _ _
  simp only [laws_FnExactTickOn.f, spec_TickOn_eq, impl_TickOn_eq, Option.bind_some, if_true]

end Go.Proofs.Ytioajlgddbnlgaa.Pure
