/- impl.counts: how many of each a kind may have. No condition. -/
import Derived.Test.YtiogbjbkfhhdhaaGOwn
import Derived.Test.YtiogbjbkfhhdhaaWRepsOne
namespace Go.Proofs.Ytiogbjbkfhhdhaa.G
open Go.Proofs.Ytiogbjbkfhhdhaa.K Go Go.RowKit Go.Proofs.YtiogbjbkfhhdhaaW.PrintWords Go.Proofs.YtiogbjbkfhhdhaaW.PrintLast Go.Proofs.YtiogbjbkfhhdhaaW.PrintMore
set_option linter.unusedVariables false
set_option linter.unusedSimpArgs false
/-- How many of each a kind may have. -/
def countsOf (k : Int) : Int × Int × Int × Int × Int × Int :=
  if k = 1 ∨ k = 2 then (1, 2000, 0, 0, 0, 0) else if k = 3 ∨ k = 4 then (1, 125, 0, 0, 0, 0) else if k = 5 then (0, 0, 0, 0, 1, 1)
  else if k = 6 then (0, 0, 1, 1, 0, 0) else if k = 15 then (0, 0, 0, 0, 1, 1968) else if k = 16 then (0, 0, 1, 123, 0, 0) else if k = 22 then (0, 0, 2, 2, 0, 0) else (1, 125, 1, 121, 0, 0)
def impl_counts.f (k : Nat) (a0 : Int) : Option (Int × Int × Int × Int × Int × Int) := some (countsOf a0)
theorem impl_counts.mono : ∀ a0 k, LeO (impl_counts.f k a0) (impl_counts.f (k + 1) a0) := fun _ _ => LeO.refl _
/-- The three pairs that a call hands back. -/
def CountsPost (r : Int × Int × Int × Int × Int × Int) (w : World) (e : Ending) (w' : World) : Prop := e = .returned (.tuple #[.agg #[.int .i64 r.1, .int .i64 r.2.1], .agg #[.int .i64 r.2.2.1, .int .i64 r.2.2.2.1], .agg #[.int .i64 r.2.2.2.2.1, .int .i64 r.2.2.2.2.2]]) ∧ Below w.heap.size w w'

set_option maxHeartbeats 4000000 in
set_option maxRecDepth 100000 in
theorem counts_walk (a0 : Int) (w : World) : Calls Try.prog 61 #[.int .i64 a0] w (CountsPost (countsOf a0) w) := by
  have hu := Try.underlying79
  have H := aM (Own.nil w)
  go_enter Try.func61, Try.ntmps61
  go_upto_if 10 with (first | ((with_reducible refine nD 2 ?_); refine bxO 2 H.out #[.int .i64 0, .int .i64 0] 79 ?_; clear H; intro g2 _ H) | ((with_reducible refine nD 3 ?_); refine bxO 3 H.out #[.int .i64 0, .int .i64 0] 79 ?_; clear H; intro g3 _ H) | ((with_reducible refine nD 4 ?_); refine bxO 4 H.out #[.int .i64 0, .int .i64 0] 79 ?_; clear H; intro g4 _ H) | ((with_reducible refine nD 5 ?_); refine bxO 5 H.out #[.int .i64 0, .int .i64 0] 79 ?_; clear H; intro g5 _ H) | ((with_reducible refine nD 6 ?_); refine bxO 6 H.out #[.int .i64 0, .int .i64 0] 79 ?_; clear H; intro g6 _ H) | ((with_reducible refine nS 5 ?_); refine stO 1 H.out ?_; clear H; intro _ H) | ((with_reducible refine nS 6 ?_); refine stO 0 H.out ?_; clear H; intro _ H))
  have hk : a0 = 1 ∨ a0 = 2 ∨ a0 = 3 ∨ a0 = 4 ∨ a0 = 5 ∨ a0 = 6 ∨ a0 = 15 ∨ a0 = 16 ∨ a0 = 22 ∨ (a0 ≠ 1 ∧ a0 ≠ 2 ∧ a0 ≠ 3 ∧ a0 ≠ 4 ∧ a0 ≠ 5 ∧ a0 ≠ 6 ∧ a0 ≠ 15 ∧ a0 ≠ 16 ∧ a0 ≠ 22) := by omega
  rcases hk with h | h | h | h | h | h | h | h | h | h
  · have hr : countsOf a0 = (1, 2000, 0, 0, 0, 0) := by subst h; rfl
    have e1 : (a0 == 1) = true := by subst h; rfl
    clear h
    have HR := aM hr
    clear hr
    rw [e1]
    go_wp2
    refine rgI [1, 0] 6 H.out ?_
    clear H
    intro _ H
    have HL := aM (H.out.hasI [1, 0])
    refine pO 0 13 ?_
    refine lO 1 14 0 hu HL.out ?_
    refine lO 2 15 0 hu HL.out ?_
    clear HL
    refine stS 3 4 [1, 0] H.out ?_
    clear H
    intro _ H
    refine stS 4 3 [1, 0] H.out ?_
    clear H
    intro _ H
    refine stS 5 2 [1, 0] H.out ?_
    clear H
    intro _ H
    refine done_ (by kernel_rfl) ?_
    go_wp2
    refine bodyPost_ret (results_list (rs := [.cell 2 79, .cell 3 79, .cell 4 79]) rfl (by simp) (.cell g2 79 _ (0, 0) _ rfl (H.out.b 4) hu rfl (by kernel_rfl) (.cell g3 79 _ (0, 0) _ rfl (H.out.b 3) hu rfl (by kernel_rfl) (.cell g4 79 _ (0, 0) _ rfl (H.out.b 2) hu rfl (by kernel_rfl) .nil)))) rfl ?_
    exact ⟨by rw [HR.out], H.out.below⟩
  · have hr : countsOf a0 = (1, 2000, 0, 0, 0, 0) := by subst h; rfl
    have e1 : (a0 == 1) = false := by subst h; rfl
    have e2 : (a0 == 2) = true := by subst h; rfl
    clear h
    have HR := aM hr
    clear hr
    rw [e1]
    go_wp2
    refine rgI [1, 0] 6 H.out ?_
    clear H
    intro _ H
    have HL := aM (H.out.hasI [1, 0])
    refine pO 0 13 ?_
    refine lO 1 14 0 hu HL.out ?_
    refine lO 2 15 0 hu HL.out ?_
    clear HL
    refine stS 3 4 [1, 0] H.out ?_
    clear H
    intro _ H
    refine stS 4 3 [1, 0] H.out ?_
    clear H
    intro _ H
    refine stS 5 2 [1, 0] H.out ?_
    clear H
    intro _ H
    refine done_ (by kernel_rfl) ?_
    go_wp2
    refine bodyPost_ret (results_list (rs := [.cell 2 79, .cell 3 79, .cell 4 79]) rfl (by simp) (.cell g2 79 _ (0, 0) _ rfl (H.out.b 4) hu rfl (by kernel_rfl) (.cell g3 79 _ (0, 0) _ rfl (H.out.b 3) hu rfl (by kernel_rfl) (.cell g4 79 _ (0, 0) _ rfl (H.out.b 2) hu rfl (by kernel_rfl) .nil)))) rfl ?_
    exact ⟨by rw [HR.out], H.out.below⟩
  · have hr : countsOf a0 = (1, 125, 0, 0, 0, 0) := by subst h; rfl
    have e1 : (a0 == 1) = false := by subst h; rfl
    have e2 : (a0 == 2) = false := by subst h; rfl
    have e3 : (a0 == 3) = true := by subst h; rfl
    clear h
    have HR := aM hr
    clear hr
    rw [e1]
    go_wp2
    refine rgI [1, 0] 6 H.out ?_
    clear H
    intro _ H
    have HL := aM (H.out.hasI [1, 0])
    refine pO 0 19 ?_
    refine lO 1 20 0 hu HL.out ?_
    refine lO 2 21 0 hu HL.out ?_
    clear HL
    refine stS 3 4 [1, 0] H.out ?_
    clear H
    intro _ H
    refine stS 4 3 [1, 0] H.out ?_
    clear H
    intro _ H
    refine stS 5 2 [1, 0] H.out ?_
    clear H
    intro _ H
    refine done_ (by kernel_rfl) ?_
    go_wp2
    refine bodyPost_ret (results_list (rs := [.cell 2 79, .cell 3 79, .cell 4 79]) rfl (by simp) (.cell g2 79 _ (0, 0) _ rfl (H.out.b 4) hu rfl (by kernel_rfl) (.cell g3 79 _ (0, 0) _ rfl (H.out.b 3) hu rfl (by kernel_rfl) (.cell g4 79 _ (0, 0) _ rfl (H.out.b 2) hu rfl (by kernel_rfl) .nil)))) rfl ?_
    exact ⟨by rw [HR.out], H.out.below⟩
  · have hr : countsOf a0 = (1, 125, 0, 0, 0, 0) := by subst h; rfl
    have e1 : (a0 == 1) = false := by subst h; rfl
    have e2 : (a0 == 2) = false := by subst h; rfl
    have e3 : (a0 == 3) = false := by subst h; rfl
    have e4 : (a0 == 4) = true := by subst h; rfl
    clear h
    have HR := aM hr
    clear hr
    rw [e1]
    go_wp2
    refine rgI [1, 0] 6 H.out ?_
    clear H
    intro _ H
    have HL := aM (H.out.hasI [1, 0])
    refine pO 0 19 ?_
    refine lO 1 20 0 hu HL.out ?_
    refine lO 2 21 0 hu HL.out ?_
    clear HL
    refine stS 3 4 [1, 0] H.out ?_
    clear H
    intro _ H
    refine stS 4 3 [1, 0] H.out ?_
    clear H
    intro _ H
    refine stS 5 2 [1, 0] H.out ?_
    clear H
    intro _ H
    refine done_ (by kernel_rfl) ?_
    go_wp2
    refine bodyPost_ret (results_list (rs := [.cell 2 79, .cell 3 79, .cell 4 79]) rfl (by simp) (.cell g2 79 _ (0, 0) _ rfl (H.out.b 4) hu rfl (by kernel_rfl) (.cell g3 79 _ (0, 0) _ rfl (H.out.b 3) hu rfl (by kernel_rfl) (.cell g4 79 _ (0, 0) _ rfl (H.out.b 2) hu rfl (by kernel_rfl) .nil)))) rfl ?_
    exact ⟨by rw [HR.out], H.out.below⟩
  · have hr : countsOf a0 = (0, 0, 0, 0, 1, 1) := by subst h; rfl
    have e1 : (a0 == 1) = false := by subst h; rfl
    have e2 : (a0 == 2) = false := by subst h; rfl
    have e3 : (a0 == 3) = false := by subst h; rfl
    have e4 : (a0 == 4) = false := by subst h; rfl
    have e5 : (a0 == 5) = true := by subst h; rfl
    clear h
    have HR := aM hr
    clear hr
    rw [e1]
    go_wp2
    refine rgI [1, 0] 6 H.out ?_
    clear H
    intro _ H
    have HL := aM (H.out.hasI [1, 0])
    refine lO 0 24 0 hu HL.out ?_
    refine lO 1 25 0 hu HL.out ?_
    refine lO 2 26 1 hu HL.out ?_
    clear HL
    refine stS 3 4 [1, 0] H.out ?_
    clear H
    intro _ H
    refine stS 4 3 [1, 0] H.out ?_
    clear H
    intro _ H
    refine stS 5 2 [1, 0] H.out ?_
    clear H
    intro _ H
    refine done_ (by kernel_rfl) ?_
    go_wp2
    refine bodyPost_ret (results_list (rs := [.cell 2 79, .cell 3 79, .cell 4 79]) rfl (by simp) (.cell g2 79 _ (0, 0) _ rfl (H.out.b 4) hu rfl (by kernel_rfl) (.cell g3 79 _ (0, 0) _ rfl (H.out.b 3) hu rfl (by kernel_rfl) (.cell g4 79 _ (0, 0) _ rfl (H.out.b 2) hu rfl (by kernel_rfl) .nil)))) rfl ?_
    exact ⟨by rw [HR.out], H.out.below⟩
  · have hr : countsOf a0 = (0, 0, 1, 1, 0, 0) := by subst h; rfl
    have e1 : (a0 == 1) = false := by subst h; rfl
    have e2 : (a0 == 2) = false := by subst h; rfl
    have e3 : (a0 == 3) = false := by subst h; rfl
    have e4 : (a0 == 4) = false := by subst h; rfl
    have e5 : (a0 == 5) = false := by subst h; rfl
    have e6 : (a0 == 6) = true := by subst h; rfl
    clear h
    have HR := aM hr
    clear hr
    rw [e1]
    go_wp2
    refine rgI [1, 0] 6 H.out ?_
    clear H
    intro _ H
    have HL := aM (H.out.hasI [1, 0])
    refine lO 0 29 0 hu HL.out ?_
    refine lO 1 30 1 hu HL.out ?_
    refine lO 2 31 0 hu HL.out ?_
    clear HL
    refine stS 3 4 [1, 0] H.out ?_
    clear H
    intro _ H
    refine stS 4 3 [1, 0] H.out ?_
    clear H
    intro _ H
    refine stS 5 2 [1, 0] H.out ?_
    clear H
    intro _ H
    refine done_ (by kernel_rfl) ?_
    go_wp2
    refine bodyPost_ret (results_list (rs := [.cell 2 79, .cell 3 79, .cell 4 79]) rfl (by simp) (.cell g2 79 _ (0, 0) _ rfl (H.out.b 4) hu rfl (by kernel_rfl) (.cell g3 79 _ (0, 0) _ rfl (H.out.b 3) hu rfl (by kernel_rfl) (.cell g4 79 _ (0, 0) _ rfl (H.out.b 2) hu rfl (by kernel_rfl) .nil)))) rfl ?_
    exact ⟨by rw [HR.out], H.out.below⟩
  · have hr : countsOf a0 = (0, 0, 0, 0, 1, 1968) := by subst h; rfl
    have e1 : (a0 == 1) = false := by subst h; rfl
    have e2 : (a0 == 2) = false := by subst h; rfl
    have e3 : (a0 == 3) = false := by subst h; rfl
    have e4 : (a0 == 4) = false := by subst h; rfl
    have e5 : (a0 == 5) = false := by subst h; rfl
    have e6 : (a0 == 6) = false := by subst h; rfl
    have e15 : (a0 == 15) = true := by subst h; rfl
    clear h
    have HR := aM hr
    clear hr
    rw [e1]
    go_wp2
    refine rgI [1, 0] 6 H.out ?_
    clear H
    intro _ H
    have HL := aM (H.out.hasI [1, 0])
    refine lO 0 34 0 hu HL.out ?_
    refine lO 1 35 0 hu HL.out ?_
    refine pO 2 36 ?_
    clear HL
    refine stS 3 4 [1, 0] H.out ?_
    clear H
    intro _ H
    refine stS 4 3 [1, 0] H.out ?_
    clear H
    intro _ H
    refine stS 5 2 [1, 0] H.out ?_
    clear H
    intro _ H
    refine done_ (by kernel_rfl) ?_
    go_wp2
    refine bodyPost_ret (results_list (rs := [.cell 2 79, .cell 3 79, .cell 4 79]) rfl (by simp) (.cell g2 79 _ (0, 0) _ rfl (H.out.b 4) hu rfl (by kernel_rfl) (.cell g3 79 _ (0, 0) _ rfl (H.out.b 3) hu rfl (by kernel_rfl) (.cell g4 79 _ (0, 0) _ rfl (H.out.b 2) hu rfl (by kernel_rfl) .nil)))) rfl ?_
    exact ⟨by rw [HR.out], H.out.below⟩
  · have hr : countsOf a0 = (0, 0, 1, 123, 0, 0) := by subst h; rfl
    have e1 : (a0 == 1) = false := by subst h; rfl
    have e2 : (a0 == 2) = false := by subst h; rfl
    have e3 : (a0 == 3) = false := by subst h; rfl
    have e4 : (a0 == 4) = false := by subst h; rfl
    have e5 : (a0 == 5) = false := by subst h; rfl
    have e6 : (a0 == 6) = false := by subst h; rfl
    have e15 : (a0 == 15) = false := by subst h; rfl
    have e16 : (a0 == 16) = true := by subst h; rfl
    clear h
    have HR := aM hr
    clear hr
    rw [e1]
    go_wp2
    refine rgI [1, 0] 6 H.out ?_
    clear H
    intro _ H
    have HL := aM (H.out.hasI [1, 0])
    refine lO 0 39 0 hu HL.out ?_
    refine pO 1 40 ?_
    refine lO 2 41 0 hu HL.out ?_
    clear HL
    refine stS 3 4 [1, 0] H.out ?_
    clear H
    intro _ H
    refine stS 4 3 [1, 0] H.out ?_
    clear H
    intro _ H
    refine stS 5 2 [1, 0] H.out ?_
    clear H
    intro _ H
    refine done_ (by kernel_rfl) ?_
    go_wp2
    refine bodyPost_ret (results_list (rs := [.cell 2 79, .cell 3 79, .cell 4 79]) rfl (by simp) (.cell g2 79 _ (0, 0) _ rfl (H.out.b 4) hu rfl (by kernel_rfl) (.cell g3 79 _ (0, 0) _ rfl (H.out.b 3) hu rfl (by kernel_rfl) (.cell g4 79 _ (0, 0) _ rfl (H.out.b 2) hu rfl (by kernel_rfl) .nil)))) rfl ?_
    exact ⟨by rw [HR.out], H.out.below⟩
  · have hr : countsOf a0 = (0, 0, 2, 2, 0, 0) := by subst h; rfl
    have e1 : (a0 == 1) = false := by subst h; rfl
    have e2 : (a0 == 2) = false := by subst h; rfl
    have e3 : (a0 == 3) = false := by subst h; rfl
    have e4 : (a0 == 4) = false := by subst h; rfl
    have e5 : (a0 == 5) = false := by subst h; rfl
    have e6 : (a0 == 6) = false := by subst h; rfl
    have e15 : (a0 == 15) = false := by subst h; rfl
    have e16 : (a0 == 16) = false := by subst h; rfl
    have e22 : (a0 == 22) = true := by subst h; rfl
    clear h
    have HR := aM hr
    clear hr
    rw [e1]
    go_wp2
    refine rgI [1, 0] 6 H.out ?_
    clear H
    intro _ H
    have HL := aM (H.out.hasI [1, 0])
    refine lO 0 44 0 hu HL.out ?_
    refine pO 1 45 ?_
    refine lO 2 46 0 hu HL.out ?_
    clear HL
    refine stS 3 4 [1, 0] H.out ?_
    clear H
    intro _ H
    refine stS 4 3 [1, 0] H.out ?_
    clear H
    intro _ H
    refine stS 5 2 [1, 0] H.out ?_
    clear H
    intro _ H
    refine done_ (by kernel_rfl) ?_
    go_wp2
    refine bodyPost_ret (results_list (rs := [.cell 2 79, .cell 3 79, .cell 4 79]) rfl (by simp) (.cell g2 79 _ (0, 0) _ rfl (H.out.b 4) hu rfl (by kernel_rfl) (.cell g3 79 _ (0, 0) _ rfl (H.out.b 3) hu rfl (by kernel_rfl) (.cell g4 79 _ (0, 0) _ rfl (H.out.b 2) hu rfl (by kernel_rfl) .nil)))) rfl ?_
    exact ⟨by rw [HR.out], H.out.below⟩
  · have hr : countsOf a0 = (1, 125, 1, 121, 0, 0) := by unfold countsOf; simp [h]
    have e1 : (a0 == 1) = false := by simp [h]
    have e2 : (a0 == 2) = false := by simp [h]
    have e3 : (a0 == 3) = false := by simp [h]
    have e4 : (a0 == 4) = false := by simp [h]
    have e5 : (a0 == 5) = false := by simp [h]
    have e6 : (a0 == 6) = false := by simp [h]
    have e15 : (a0 == 15) = false := by simp [h]
    have e16 : (a0 == 16) = false := by simp [h]
    have e22 : (a0 == 22) = false := by simp [h]
    clear h
    have HR := aM hr
    clear hr
    rw [e1]
    go_wp2
    refine rgI [1, 0] 6 H.out ?_
    clear H
    intro _ H
    have HL := aM (H.out.hasI [1, 0])
    refine pO 0 47 ?_
    refine pO 1 48 ?_
    refine lO 2 49 0 hu HL.out ?_
    clear HL
    refine stS 3 4 [1, 0] H.out ?_
    clear H
    intro _ H
    refine stS 4 3 [1, 0] H.out ?_
    clear H
    intro _ H
    refine stS 5 2 [1, 0] H.out ?_
    clear H
    intro _ H
    refine done_ (by kernel_rfl) ?_
    go_wp2
    refine bodyPost_ret (results_list (rs := [.cell 2 79, .cell 3 79, .cell 4 79]) rfl (by simp) (.cell g2 79 _ (0, 0) _ rfl (H.out.b 4) hu rfl (by kernel_rfl) (.cell g3 79 _ (0, 0) _ rfl (H.out.b 3) hu rfl (by kernel_rfl) (.cell g4 79 _ (0, 0) _ rfl (H.out.b 2) hu rfl (by kernel_rfl) .nil)))) rfl ?_
    exact ⟨by rw [HR.out], H.out.below⟩
theorem impl_counts.calls (k : Nat) (a0 : Int) (r1 : Int) (r2 : Int) (r3 : Int) (r4 : Int) (r5 : Int) (r6 : Int) (w : World) (h : impl_counts.f k a0 = some (r1, r2, r3, r4, r5, r6)) :
    Calls Try.prog 61 #[.int .i64 a0] w fun e w' => e = .returned (.tuple #[.agg #[.int .i64 r1, .int .i64 r2], .agg #[.int .i64 r3, .int .i64 r4], .agg #[.int .i64 r5, .int .i64 r6]]) ∧ Below w.heap.size w w' := by
  have h2 := Option.some.inj h
  refine (counts_walk a0 w).mono ?_
  rw [h2]
  exact fun _ _ h => h
end Go.Proofs.Ytiogbjbkfhhdhaa.G
