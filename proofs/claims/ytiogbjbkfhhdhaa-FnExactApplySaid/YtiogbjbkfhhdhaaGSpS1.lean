/- What spec.Serve calls: a fault, words written, bits read, whether all is there. No condition. -/
import Derived.Test.YtiogbjbkfhhdhaaGSpecO
import Derived.Test.YtiogbjbkfhhdhaaGIn
namespace Go.Proofs.Ytiogbjbkfhhdhaa.G
open Go.Proofs.Ytiogbjbkfhhdhaa.K Go Go.RowKit Go.Proofs.YtiogbjbkfhhdhaaW.PrintWords Go.Proofs.YtiogbjbkfhhdhaaW.PrintLast Go.Proofs.YtiogbjbkfhhdhaaW.PrintMore Go.Proofs.Ytiogbjbkfhhdhaa.PlainC
set_option linter.unusedVariables false
set_option linter.unusedSimpArgs false

/-- A fault, told of a question. -/
def FaultPost (w : World) (k f : Int) (e : Ending) (w' : World) : Prop := e = .returned (.agg #[.int .i64 k, .int .i64 f, .int .i64 0, .int .i64 0, .slice none 0 0, .slice none 0 0]) ∧ Below w.heap.size w w'
set_option maxHeartbeats 8000000 in
set_option maxRecDepth 100000 in
theorem specFault_own {w : World} {A4 A5 : Option Addr} {c4 c5 : Nat} {k a n wat : Int} {ws : List Int} {bs : List Bool} (h4 : Kd.C (Kd.int .i64) w A4 ws.length ws) (k4 : ws.length ≤ c4) (h5 : Kd.C Kd.bool w A5 bs.length bs) (k5 : bs.length ≤ c5) (m4 : ws.length ≤ 1048576) (m5 : bs.length ≤ 1048576) (s : Int) (hs : 1 ≤ s ∧ s ≤ 255) : Calls Try.prog 33 #[.agg #[.int .i64 k, .int .i64 a, .int .i64 n, .slice A4 ws.length c4, .slice A5 bs.length c5, .int .i64 wat], .int .i64 s] w (FaultPost w (if reqB k a n ws bs wat = true then k else 0) (if reqB k a n ws bs wat = true then s else 0)) := by
  have hq := Try.underlying36
  have hu := Try.underlying32
  have HA := aM (And.intro h4 (And.intro k4 (And.intro h5 (And.intro k5 (And.intro m4 m5)))))
  have HS := aM hs
  have H := aM (Own.nil w)
  obtain ⟨rq, hr⟩ : ∃ rq, reqB k a n ws bs wat = rq := ⟨_, rfl⟩
  have HR := aM hr
  rw [hr]
  clear h4 k4 h5 k5 m4 m5 hs hr
  cases rq with
  | false =>
    rw [if_neg (by decide), if_neg (by decide)]
    go_enter Try.func33, Try.ntmps33
    go_wp2_with (first | ((with_reducible refine nD 2 ?_); refine bxO 2 H.out #[.int .i64 k, .int .i64 a, .int .i64 n, .slice A4 ws.length c4, .slice A5 bs.length c5, .int .i64 wat] 36 ?_; clear H; intro g2 _ H) | ((with_reducible refine nD 4 ?_); refine bxO 4 H.out #[.int .i64 0, .int .i64 0, .int .i64 0, .int .i64 0, .slice none 0 0, .slice none 0 0] 32 ?_; clear H; intro g4 _ H) | ((with_reducible refine nD 5 ?_); refine ldO 5 1 H.out hq ?_) | ((with_reducible refine nD 6 ?_); refine gC 6 Try.func32 (by have h_ := specReq_own (k := k) (a := a) (n := n) (wat := wat) (H.out.arg HA.out.1) HA.out.2.1 (H.out.arg HA.out.2.2.1) HA.out.2.2.2.1 HA.out.2.2.2.2.1 HA.out.2.2.2.2.2; rw [HR.out] at h_; exact h_) ?_; rintro e w_ ⟨rfl, hO⟩; refine ⟨_, rfl, ?_⟩; replace H := aM (H.out.step hO); clear hO; obtain ⟨z0, y0, _, _, _, _, _, _, _, _, _, _⟩ := bk6 (H.out.b 1)) | ((with_reducible refine nD 10 ?_); (try (refine gate_guard (by rfl) ?_; dsimp only)); refine gC 10 Try.func54 (l1In_own s 1 255 true _ (decide_eq_true HS.out)) ?_; rintro e w_ ⟨rfl, hO⟩; refine ⟨_, rfl, ?_⟩; replace H := aM (H.out.drawn hO); clear hO; obtain ⟨z0, y0, _, _, _, _, _, _, _, _, _, _⟩ := bk6 (H.out.b 1)) | ((with_reducible refine nS 4 ?_); refine stO 0 H.out ?_; clear H; intro _ H))
    refine bodyPost_ret (results_cell_row rfl _ _ g4 32 _ (0, 0) _ rfl (H.out.b 0) hu rfl (by kernel_rfl)) rfl ?_
    exact ⟨rfl, H.out.below⟩
  | true =>
    rw [if_pos rfl, if_pos rfl]
    go_enter Try.func33, Try.ntmps33
    go_wp2_with (first | ((with_reducible refine nD 2 ?_); refine bxO 2 H.out #[.int .i64 k, .int .i64 a, .int .i64 n, .slice A4 ws.length c4, .slice A5 bs.length c5, .int .i64 wat] 36 ?_; clear H; intro g2 _ H) | ((with_reducible refine nD 4 ?_); refine bxO 4 H.out #[.int .i64 0, .int .i64 0, .int .i64 0, .int .i64 0, .slice none 0 0, .slice none 0 0] 32 ?_; clear H; intro g4 _ H) | ((with_reducible refine nD 5 ?_); refine ldO 5 1 H.out hq ?_) | ((with_reducible refine nD 6 ?_); refine gC 6 Try.func32 (by have h_ := specReq_own (k := k) (a := a) (n := n) (wat := wat) (H.out.arg HA.out.1) HA.out.2.1 (H.out.arg HA.out.2.2.1) HA.out.2.2.2.1 HA.out.2.2.2.2.1 HA.out.2.2.2.2.2; rw [HR.out] at h_; exact h_) ?_; rintro e w_ ⟨rfl, hO⟩; refine ⟨_, rfl, ?_⟩; replace H := aM (H.out.step hO); clear hO; obtain ⟨z0, y0, _, _, _, _, _, _, _, _, _, _⟩ := bk6 (H.out.b 1)) | ((with_reducible refine nD 10 ?_); (try (refine gate_guard (by rfl) ?_; dsimp only)); refine gC 10 Try.func54 (l1In_own s 1 255 true _ (decide_eq_true HS.out)) ?_; rintro e w_ ⟨rfl, hO⟩; refine ⟨_, rfl, ?_⟩; replace H := aM (H.out.drawn hO); clear hO; obtain ⟨z0, y0, _, _, _, _, _, _, _, _, _, _⟩ := bk6 (H.out.b 1)) | ((with_reducible refine nS 4 ?_); refine stO 0 H.out ?_; clear H; intro _ H))
    refine bodyPost_ret (results_cell_row rfl _ _ g4 32 _ (0, 0) _ rfl (H.out.b 0) hu rfl (by kernel_rfl)) rfl ?_
    exact ⟨rfl, H.out.below⟩

end Go.Proofs.Ytiogbjbkfhhdhaa.G
