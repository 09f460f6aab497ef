/- The law on ticks is true at every code: the tick so many behind a drawn one has just that gap, and is due from then on. No condition. -/
import Derived.Test.YtioajlgddbnlgaaQFnTicksx2
import Derived.Test.YtioajlgddbnlgaaC
namespace Go.Proofs.Ytioajlgddbnlgaa.Pure
open Go Go.RowKit Go.Proofs.Ytioajlgddbnlgaa.PFnTicks Go.Proofs.YtioajlgddbnlgaaW.PrintWords Go.Proofs.YtioajlgddbnlgaaW.PrintLast Go.Proofs.Ytioajlgddbnlgaa.PlainC
set_option linter.unusedVariables false
set_option linter.unusedSimpArgs false

theorem impl_isTick_eq (t : Int) : impl_isTick.f t = some (decide (0 ≤ t ∧ t ≤ 4294967295)) := by
  by_cases h0 : t ≥ 0
  · have h1 : 0 ≤ t := h0
    simp only [impl_isTick.f, impl_in.f, h0, h1, if_true, Option.bind_some, true_and]
  · have h1 : ¬ 0 ≤ t := h0
    simp only [impl_isTick.f, impl_in.f, h0, h1, if_false, Option.bind_some, false_and, decide_false]

theorem impl_TickGap_eq (a b : Int) : impl_TickGap.f a b = some (if (0 ≤ a ∧ a ≤ 4294967295) ∧ 0 ≤ b ∧ b ≤ 4294967295 then (b - a) % 4294967296 else 0) := by
  simp only [impl_TickGap.f, impl_isTick_eq, Option.bind_some]
  by_cases h1 : 0 ≤ a ∧ a ≤ 4294967295
  · by_cases h2 : 0 ≤ b ∧ b ≤ 4294967295
    · rw [w64 (x := b - a) (by omega) (by omega), w64 (x := b - a + 4294967295) (by omega) (by omega), w64 (by omega) (by omega), tmod_pos (by omega)]
      have e : (b - a + 4294967295 + 1) % 4294967296 = (b - a) % 4294967296 := by omega
      simp [h1, h2, e]
    · simp [h1, h2]
  · simp [h1]

theorem impl_TickOn_eq (a b : Int) : impl_TickOn.f a b = some (if (0 ≤ a ∧ a ≤ 4294967295) ∧ 0 ≤ b ∧ b ≤ 4294967295 then (a + b) % 4294967296 else 0) := by
  simp only [impl_TickOn.f, impl_isTick_eq, Option.bind_some]
  by_cases h1 : 0 ≤ a ∧ a ≤ 4294967295
  · by_cases h2 : 0 ≤ b ∧ b ≤ 4294967295
    · rw [w64 (x := a + b) (by omega) (by omega), tmod_pos (by omega)]
      simp [h1, h2]
    · simp [h1, h2]
  · simp [h1]

theorem impl_TickDue_eq (a b : Int) : impl_TickDue.f a b = some (decide (((0 ≤ a ∧ a ≤ 4294967295) ∧ 0 ≤ b ∧ b ≤ 4294967295) ∧ (a - b) % 4294967296 < 2147483648)) := by
  simp only [impl_TickDue.f, impl_isTick_eq, impl_TickGap_eq, Option.bind_some]
  by_cases h1 : 0 ≤ a ∧ a ≤ 4294967295
  · by_cases h2 : 0 ≤ b ∧ b ≤ 4294967295
    · simp [h1, h2]
    · simp [h1, h2]
  · simp [h1]

/-- A draw tells a number of which P holds, and a cursor that stands right. -/
def Told (o : Option (Int × Int × Int)) (P : Int → Prop) : Prop := ∃ v i h, o = some (v, i, h) ∧ P v ∧ 0 ≤ i

theorem l1New_l0 (l : List Int) (hl : l.length ≤ 140737488351232) (d : Nat) : ∀ (i : Nat) (x : Int), i ≤ l.length → l.length - i = d → ∃ h, Ev (fun k => spec_l1New.l0 k l x (i : Int)) (l, 0, h) := by
  induction d with
  | zero =>
    intro i x hi hd
    obtain rfl : i = l.length := by omega
    refine ⟨x, evUp ?_⟩
    have h1 : ¬ ((l.length : Nat) : Int) < (l.length : Int) := by omega
    simp only [spec_l1New.l0, h1, if_false]
    exact Ev.now _
  | succ d ih =>
    intro i x hi hd
    have h1 : (i : Int) < (l.length : Int) := by omega
    have h2 : 0 ≤ (i : Int) := by omega
    by_cases h3 : (i : Int) < 4000
    · obtain ⟨h, hh⟩ := ih (i + 1) (Go.bits .and .i64 (wrap64 ((wrap64 ((wrap64 (x * 137)) + (wrap64 (rd l i)))) + 11)) 1073741823) (by omega) (by omega)
      refine ⟨h, evUp ?_⟩
      simp only [spec_l1New.l0, h1, h2, h3, if_true]
      rw [w64 (x := (i : Int) + 1) (by omega) (by omega)]
      exact hh
    · refine ⟨x, evUp ?_⟩
      simp only [spec_l1New.l0, h1, h3, if_true, if_false]
      exact Ev.now _

theorem l1New_ev (l : List Int) (hl : l.length ≤ 140737488351232) : ∃ h, Ev (fun k => spec_l1New.f k l) (l, 0, h) :=
  l1New_l0 l hl l.length 0 _ (by omega) (by omega)

theorem l1Byte_told (l : List Int) (hl : l.length ≤ 140737488351232) (i h : Int) (hi : 0 ≤ i) : Told (spec_l1Byte.f l i h) (fun v => 0 ≤ v ∧ v ≤ 255) := by
  by_cases h1 : i < (l.length : Int)
  · refine ⟨_, _, _, by simp only [spec_l1Byte.f, h1, hi, if_true]; rfl, ?_, ?_⟩
    · rw [and_255]; omega
    · rw [w64 (by omega) (by omega)]; omega
  · refine ⟨_, _, _, by simp only [spec_l1Byte.f, h1, if_false]; rfl, ?_, hi⟩
    rw [and_255]; omega

theorem l1Below_told (l : List Int) (hl : l.length ≤ 140737488351232) (i h n : Int) (hi : 0 ≤ i) (hn : 0 < n) : Told (spec_l1Below.f l i h n) (fun v => 0 ≤ v ∧ v < n ∧ v ≤ 16777215) := by
  have n0 : ¬ n ≤ 0 := by omega
  have n1 : ¬ n = 0 := by omega
  obtain ⟨v1, i1, h1, e1, p1, hi1⟩ := l1Byte_told l hl i h hi
  by_cases h2 : n ≤ 256
  · refine ⟨_, _, _, by simp only [spec_l1Below.f, n0, n1, h2, if_false, if_true, e1, Option.bind_some]; rfl, ?_, hi1⟩
    rw [tmod_pos p1.1]
    have a1 := Int.emod_nonneg v1 n1
    have a2 := Int.emod_lt_of_pos v1 hn
    have a3 : v1 % n ≤ v1 := emod_le_self p1.1 hn
    omega
  · obtain ⟨v2, i2, h2', e2, p2, hi2⟩ := l1Byte_told l hl i1 h1 hi1
    obtain ⟨v3, i3, h3, e3, p3, hi3⟩ := l1Byte_told l hl i2 h2' hi2
    refine ⟨_, _, _, by simp only [spec_l1Below.f, n0, n1, h2, if_false, e1, e2, e3, Option.bind_some]; rfl, ?_, hi3⟩
    rw [w64 (x := v1 * 65536) (by omega) (by omega), w64 (x := v2 * 256) (by omega) (by omega), w64 (x := v1 * 65536 + v2 * 256) (by omega) (by omega), w64 (by omega) (by omega), tmod_pos (by omega)]
    have a0 : 0 ≤ v1 * 65536 + v2 * 256 + v3 := by omega
    have a1 := Int.emod_nonneg (v1 * 65536 + v2 * 256 + v3) n1
    have a2 := Int.emod_lt_of_pos (v1 * 65536 + v2 * 256 + v3) hn
    have a3 : (v1 * 65536 + v2 * 256 + v3) % n ≤ v1 * 65536 + v2 * 256 + v3 := emod_le_self a0 hn
    omega

theorem l1Int_told (l : List Int) (hl : l.length ≤ 140737488351232) (i h : Int) (xs : List Int) (hi : 0 ≤ i) (hx : 0 < xs.length) : Told (spec_l1Int.f l i h xs) (fun v => v ∈ xs) := by
  obtain ⟨v, i1, h1, e1, p1, hi1⟩ := l1Below_told l hl i h (xs.length : Int) hi (by omega)
  have a1 : 0 ≤ v := p1.1
  have a2 : v < (xs.length : Int) := p1.2.1
  exact ⟨_, _, _, by simp only [spec_l1Int.f, e1, Option.bind_some, a1, a2, if_true]; rfl, rd_mem a1 a2, hi1⟩

theorem tickDraw_told (l : List Int) (hl : l.length ≤ 140737488351232) (i h : Int) (hi : 0 ≤ i) : Told (spec_l1TickDraw.f l i h) (fun _ => True) := by
  obtain ⟨v, i1, h1, e1, _, hi1⟩ := l1Below_told l hl i h 60000 hi (by omega)
  obtain ⟨v2, i2, h2, e2, _, hi2⟩ := l1Int_told l hl i1 h1 [0, 1, 5, 1000, 4294967295, 4294967293, 2147483648, 2147483647, (-1), 4294967296, v] hi1 (by simp)
  exact ⟨v2, i2, h2, by simp only [spec_l1TickDraw.f, e1, e2, Option.bind_some], trivial, hi2⟩

theorem ticks_no (t n : Int) (h : t < 0 ∨ n < 0 ∨ t > 4294967295 ∨ n > 4294967295) : Ev (fun k => laws_FnTicks.j0 k t n (if (0 ≤ t ∧ t ≤ 4294967295) ∧ 0 ≤ n ∧ n ≤ 4294967295 then (t + n) % 4294967296 else 0) true) true := by
  have hc : ¬ ((0 ≤ t ∧ t ≤ 4294967295) ∧ 0 ≤ n ∧ n ≤ 4294967295) := by omega
  refine evUp ?_
  simp only [laws_FnTicks.j0, if_true, hc, if_false, impl_TickGap_eq, impl_TickDue_eq, Option.bind_some, false_and, decide_false, Bool.not_false]
  exact Ev.now _

theorem FnTicks : laws_FnTicks.Pure := by
  intro l h1 h2 h3
  refine Ev.rounds (g := fun k => laws_FnTicks.f k l) ?_
  by_cases hb : (l.length : Int) > 1048576
  · simp only [laws_FnTicks.f, laws_big.f, hb, decide_true, if_true, Option.bind_some]; exact Ev.now _
  · simp only [laws_FnTicks.f, laws_big.f, hb, decide_false, Bool.false_eq_true, if_false, Option.bind_some]
    have hl : l.length ≤ 140737488351232 := by omega
    obtain ⟨h, hn⟩ := l1New_ev l hl
    obtain ⟨t, i1, c1, e1, _, hi1⟩ := tickDraw_told l hl 0 h (by omega)
    obtain ⟨n, i2, c2, e2, _, hi2⟩ := tickDraw_told l hl i1 c1 hi1
    have hd : Ev (fun k => spec_DrawTickOn.f k l) (t, n) := by
      simp only [spec_DrawTickOn.f]
      refine evBind hn ?_
      simp only [e1, e2, Option.bind_some]
      exact Ev.now _
    refine evBind hd ?_
    simp only [impl_TickOn_eq, Option.bind_some]
    by_cases a1 : t < 0
    · simp only [a1, if_true]
      exact ticks_no t n (by omega)
    · by_cases a2 : n < 0
      · simp only [a1, a2, if_true, if_false]
        exact ticks_no t n (by omega)
      · by_cases a3 : t > 4294967295
        · simp only [a1, a2, a3, if_true, if_false]
          exact ticks_no t n (by omega)
        · by_cases a4 : n > 4294967295
          · simp only [a1, a2, a3, a4, if_false, decide_true]
            exact ticks_no t n (by omega)
          · simp only [a1, a2, a3, a4, if_false, decide_false]
            have hc : (0 ≤ t ∧ t ≤ 4294967295) ∧ 0 ≤ n ∧ n ≤ 4294967295 := by omega
            have x0 : 0 ≤ (t + n) % 4294967296 ∧ (t + n) % 4294967296 ≤ 4294967295 := by omega
            have g1 : ((t + n) % 4294967296 - t) % 4294967296 = n := by omega
            have g2 : ((t + n) % 4294967296 + (t - (t + n) % 4294967296) % 4294967296) % 4294967296 = t := by omega
            have x1 : 0 ≤ (t - (t + n) % 4294967296) % 4294967296 ∧ (t - (t + n) % 4294967296) % 4294967296 ≤ 4294967295 := by omega
            have hc1 : 0 ≤ t ∧ t ≤ 4294967295 := hc.1
            have g3 : (t - t) % 4294967296 < 2147483648 := by omega
            refine evUp ?_
            simp only [laws_FnTicks.j0, Bool.false_eq_true, hc, if_false, if_true, impl_TickGap_eq, impl_TickOn_eq, impl_TickDue_eq, Option.bind_some, hc1, x0, x1, and_self, true_and, g1, g2, g3, beq_self_eq_true, decide_true]
            exact Ev.now _

end Go.Proofs.Ytioajlgddbnlgaa.Pure
