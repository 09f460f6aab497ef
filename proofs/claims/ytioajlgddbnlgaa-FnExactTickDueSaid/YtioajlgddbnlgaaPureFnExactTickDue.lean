/- The law on TickDue is true at every two numbers. No condition. -/
import Derived.Test.YtioajlgddbnlgaaPFnExactTickDuex1
import Derived.Test.YtioajlgddbnlgaaC
namespace Go.Proofs.Ytioajlgddbnlgaa.Pure
open Go Go.RowKit Go.Proofs.Ytioajlgddbnlgaa.PFnExactTickDue Go.Proofs.YtioajlgddbnlgaaW.PrintWords Go.Proofs.YtioajlgddbnlgaaW.PrintLast Go.Proofs.Ytioajlgddbnlgaa.PlainC
set_option linter.unusedVariables false
set_option linter.unusedSimpArgs false

theorem impl_isTick_eq (t : Int) : impl_isTick.f t = some (decide (0 ≤ t ∧ t ≤ 4294967295)) := by
  by_cases h0 : t ≥ 0
  · have h1 : 0 ≤ t := h0
    simp only [impl_isTick.f, impl_in.f, h0, h1, if_true, Option.bind_some, true_and]
  · have h1 : ¬ 0 ≤ t := h0
    simp only [impl_isTick.f, impl_in.f, h0, h1, if_false, Option.bind_some, false_and, decide_false]

theorem spec_l1Tick_eq (t : Int) : spec_l1Tick.f t = some (decide (0 ≤ t ∧ t ≤ 4294967295)) := by
  by_cases h0 : t ≥ 0
  · have h1 : 0 ≤ t := h0
    simp only [spec_l1Tick.f, spec_l1In.f, h0, h1, if_true, Option.bind_some, true_and]
  · have h1 : ¬ 0 ≤ t := h0
    simp only [spec_l1Tick.f, spec_l1In.f, h0, h1, if_false, Option.bind_some, false_and, decide_false]

theorem impl_TickGap_eq (a b : Int) : impl_TickGap.f a b = some (if (0 ≤ a ∧ a ≤ 4294967295) ∧ 0 ≤ b ∧ b ≤ 4294967295 then (b - a) % 4294967296 else 0) := by
  simp only [impl_TickGap.f, impl_isTick_eq, Option.bind_some]
  by_cases h1 : 0 ≤ a ∧ a ≤ 4294967295
  · by_cases h2 : 0 ≤ b ∧ b ≤ 4294967295
    · rw [w64 (x := b - a) (by omega) (by omega), w64 (x := b - a + 4294967295) (by omega) (by omega), w64 (by omega) (by omega), tmod_pos (by omega)]
      have e : (b - a + 4294967295 + 1) % 4294967296 = (b - a) % 4294967296 := by omega
      simp [h1, h2, e]
    · simp [h1, h2]
  · simp [h1]

theorem impl_TickDue_eq (a b : Int) : impl_TickDue.f a b = some (decide (((0 ≤ a ∧ a ≤ 4294967295) ∧ 0 ≤ b ∧ b ≤ 4294967295) ∧ (a - b) % 4294967296 < 2147483648)) := by
  simp only [impl_TickDue.f, impl_isTick_eq, impl_TickGap_eq, Option.bind_some]
  by_cases h1 : 0 ≤ a ∧ a ≤ 4294967295
  · by_cases h2 : 0 ≤ b ∧ b ≤ 4294967295
    · simp [h1, h2]
    · simp [h1, h2]
  · simp [h1]

theorem spec_TickGap_eq (a b : Int) : spec_TickGap.f a b = some (if (0 ≤ a ∧ a ≤ 4294967295) ∧ 0 ≤ b ∧ b ≤ 4294967295 then (b - a) % 4294967296 else 0) := by
  simp only [spec_TickGap.f, spec_l1Tick_eq, Option.bind_some, and_32]
  by_cases h1 : 0 ≤ a ∧ a ≤ 4294967295
  · by_cases h2 : 0 ≤ b ∧ b ≤ 4294967295
    · rw [w64 (x := b - a) (by omega) (by omega)]
      simp [h1, h2]
    · simp [h1, h2]
  · simp [h1]

theorem spec_TickDue_eq (a b : Int) : spec_TickDue.f a b = some (decide (((0 ≤ a ∧ a ≤ 4294967295) ∧ 0 ≤ b ∧ b ≤ 4294967295) ∧ (a - b) % 4294967296 < 2147483648)) := by
  simp only [spec_TickDue.f, spec_l1Tick_eq, spec_TickGap_eq, Option.bind_some]
  by_cases h1 : 0 ≤ a ∧ a ≤ 4294967295
  · by_cases h2 : 0 ≤ b ∧ b ≤ 4294967295
    · simp [h1, h2]
    · simp [h1, h2]
  · simp [h1]

theorem FnExactTickDue : laws_FnExactTickDue.Pure := by
  intro a b _ _
  simp only [laws_FnExactTickDue.f, spec_TickDue_eq, impl_TickDue_eq, Option.bind_some, bne_self_eq_false, Bool.false_eq_true, if_false]

end Go.Proofs.Ytioajlgddbnlgaa.Pure
