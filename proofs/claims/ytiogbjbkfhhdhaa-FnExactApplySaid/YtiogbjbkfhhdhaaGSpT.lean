/- spec.l5There: is all there that a right question touches? Condition: no row is longer than a machine's memory. -/
import Derived.Test.YtiogbjbkfhhdhaaGSpecO
namespace Go.Proofs.Ytiogbjbkfhhdhaa.G
open Go.Proofs.Ytiogbjbkfhhdhaa.K Go Go.RowKit Go.Proofs.YtiogbjbkfhhdhaaW.PrintWords Go.Proofs.YtiogbjbkfhhdhaaW.PrintLast Go.Proofs.YtiogbjbkfhhdhaaW.PrintMore Go.Proofs.Ytiogbjbkfhhdhaa.PlainC
set_option linter.unusedVariables false
set_option linter.unusedSimpArgs false
theorem there_lies {k a n : Int} {ws : List Int} {bs : List Bool} {wat : Int} (hr : reqB k a n ws bs wat = true) (l0 l1 : List Bool) (l2 l3 : List Int) : ∃ s m : Int, spacesOf k a n ws bs wat = (s, a, m) ∧ 0 ≤ s ∧ s < 4 ∧ 0 ≤ m ∧ m ≤ 2000 ∧ 0 ≤ a ∧ a ≤ 65535 ∧ (k = 23 → 0 ≤ wat ∧ wat ≤ 65535) ∧
    thereB l0 l1 l2 l3 k a n ws bs wat = decide (a + m ≤ rd [(l0.length : Int), (l1.length : Int), (l2.length : Int), (l3.length : Int)] s ∧ (k = 23 → wat + (ws.length : Int) ≤ rd [(l0.length : Int), (l1.length : Int), (l2.length : Int), (l3.length : Int)] 2)) := by
  obtain ⟨hk, a0, a1, f12, f34, f5, f6, f15, f16, f22, f23⟩ := reqB_facts hr
  have sp : spacesOf k a n ws bs wat = (if k = 1 then ((0 : Int), a, n) else if k = 5 ∨ k = 15 then (0, a, (bs.length : Int)) else if k = 2 then (1, a, n) else if k = 4 then (3, a, n) else if k = 6 ∨ k = 22 then (2, a, 1) else if k = 16 then (2, a, (ws.length : Int)) else (2, a, n)) := by
    unfold spacesOf; rw [if_pos hr]
  rcases kind_cases hk with rfl | rfl | rfl | rfl | rfl | rfl | rfl | rfl | rfl | rfl
  · have := f12 (.inl rfl); exact ⟨0, n, by rw [sp]; rfl, by omega, by omega, by omega, by omega, by omega, by omega, by omega, by simp [thereB, rd]⟩
  · have := f12 (.inr rfl); exact ⟨1, n, by rw [sp]; rfl, by omega, by omega, by omega, by omega, by omega, by omega, by omega, by simp [thereB, rd]⟩
  · have := f34 (.inl rfl); exact ⟨2, n, by rw [sp]; rfl, by omega, by omega, by omega, by omega, by omega, by omega, by omega, by simp [thereB, rd]⟩
  · have := f34 (.inr rfl); exact ⟨3, n, by rw [sp]; rfl, by omega, by omega, by omega, by omega, by omega, by omega, by omega, by simp [thereB, rd]⟩
  · have := f5 rfl; exact ⟨0, bs.length, by rw [sp]; rfl, by omega, by omega, by omega, by omega, by omega, by omega, by omega, by simp [thereB, rd]⟩
  · exact ⟨2, 1, by rw [sp]; rfl, by omega, by omega, by omega, by omega, by omega, by omega, by omega, by simp [thereB, rd]⟩
  · have := f15 rfl; exact ⟨0, bs.length, by rw [sp]; rfl, by omega, by omega, by omega, by omega, by omega, by omega, by omega, by simp [thereB, rd]⟩
  · have := f16 rfl; exact ⟨2, ws.length, by rw [sp]; rfl, by omega, by omega, by omega, by omega, by omega, by omega, by omega, by simp [thereB, rd]⟩
  · exact ⟨2, 1, by rw [sp]; rfl, by omega, by omega, by omega, by omega, by omega, by omega, by omega, by simp [thereB, rd]⟩
  · have := f23 rfl; exact ⟨2, n, by rw [sp]; rfl, by omega, by omega, by omega, by omega, by omega, by omega, by omega, by simp [thereB, rd]⟩
theorem elemI {w : World} {aD : Addr} {n c : Nat} {xs : List Int} (h : (ri (.slice (some aD) n c) xs).P w) {j : Int} (h0 : 0 ≤ j) (h1 : j < (xs.length : Int)) : w.cell? (aD.add j.toNat) = some (.int .i64 (rd xs j)) := by
  obtain ⟨ad, e, hc⟩ := Kd.at_int (Kd.R_reads' h).2.2 j h0 h1
  cases e
  exact hc
theorem elem2 {w : World} {aD : Addr} {n c : Nat} {xs : List Int} (h : (ri (.slice (some aD) n c) xs).P w) (h1 : 2 < xs.length) : w.cell? ⟨aD.block, aD.off + 2, none⟩ = some (.int .i64 (rd xs 2)) := cellJ (Kd.R_reads' h).2.2 2 h1
set_option maxHeartbeats 8000000 in
set_option maxRecDepth 100000 in
theorem there_own {A0 A1 A2 A3 : Option Addr} {c0 c1 c2 c3 : Nat} {l0 l1 : List Bool} {l2 l3 : List Int} {w : World} {A4 A5 : Option Addr} {c4 c5 : Nat} {k a n wat : Int} {ws : List Int} {bs : List Bool} (h4 : Kd.C (Kd.int .i64) w A4 ws.length ws) (k4 : ws.length ≤ c4) (h5 : Kd.C Kd.bool w A5 bs.length bs) (k5 : bs.length ≤ c5) (m4 : ws.length ≤ 1048576) (m5 : bs.length ≤ 1048576) (h0 : Kd.C Kd.bool w A0 l0.length l0) (h1 : Kd.C Kd.bool w A1 l1.length l1) (h2 : Kd.C (Kd.int .i64) w A2 l2.length l2) (h3 : Kd.C (Kd.int .i64) w A3 l3.length l3) (hr : reqB k a n ws bs wat = true) (b : Bool) (hT : thereB l0 l1 l2 l3 k a n ws bs wat = b) :
    Calls Try.prog 34 #[.agg #[.slice A0 l0.length c0, .slice A1 l1.length c1, .slice A2 l2.length c2, .slice A3 l3.length c3], .agg #[.int .i64 k, .int .i64 a, .int .i64 n, .slice A4 ws.length c4, .slice A5 bs.length c5, .int .i64 wat]] w fun e w' => e = .returned (.bool b) ∧ Below w.heap.size w w' := by
  have hq := Try.underlying36
  obtain ⟨s, m, hsp, s0, s1_, hl⟩ := there_lies hr l0 l1 l2 l3
  have s1 : s < (([(l0.length : Int), (l1.length : Int), (l2.length : Int), (l3.length : Int)] : List Int).length : Int) := by simp; omega
  have HSP := aM hsp
  have HT := aM (hT.symm.trans hl.2.2.2.2.2)
  have HA := aM (And.intro h4 (And.intro k4 (And.intro h5 (And.intro k5 (And.intro m4 m5)))))
  have HN := aM hl
  have H := aM (Own.nil w)
  clear h4 k4 h5 k5 m4 m5 hsp hl hT hr h0 h1 h2 h3
  have hw1 : IntKind.i64.wrap (a + m) = a + m := (by have := HN.out; rw [i64wrap, w64 (by omega) (by omega)])
  go_enter Try.func34, Try.ntmps34
  go_upto_region 3 with (first | ((with_reducible refine nD 2 ?_); refine bxO 2 H.out #[.slice A0 l0.length c0, .slice A1 l1.length c1, .slice A2 l2.length c2, .slice A3 l3.length c3] 30 ?_; clear H; intro g2 _ H) | ((with_reducible refine nD 3 ?_); refine bxO 3 H.out #[.int .i64 k, .int .i64 a, .int .i64 n, .slice A4 ws.length c4, .slice A5 bs.length c5, .int .i64 wat] 36 ?_; clear H; intro g3 _ H; obtain ⟨zg2_0, zg2y_0, zg2_1, zg2y_1, zg2_2, zg2y_2, zg2_3, zg2y_3⟩ := bk4 (H.out.b 1)) | ((with_reducible refine nD 21 ?_); refine litI 21 [(l0.length : Int), (l1.length : Int), (l2.length : Int), (l3.length : Int)] H.out ?_; clear H; intro Ax cx _ H) | ((with_reducible refine nD 23 ?_); refine ldO 23 1 H.out hq ?_) | ((with_reducible refine nD 24 ?_); refine gC 24 Try.func57 (by have h_ := specSpaces_own (k := k) (a := a) (n := n) (wat := wat) (H.out.arg HA.out.1) HA.out.2.1 (H.out.arg HA.out.2.2.1) HA.out.2.2.2.1 HA.out.2.2.2.2.1 HA.out.2.2.2.2.2; rw [HSP.out] at h_; exact h_) ?_; rintro e w_ ⟨rfl, hO⟩; refine ⟨_, rfl, ?_⟩; replace H := aM (H.out.step hO); clear hO))
  obtain ⟨aD, eD, _⟩ := Kd.at_int (H.out.ci 0) s s0 s1
  subst eD
  by_cases c1 : a + m ≤ rd [(l0.length : Int), (l1.length : Int), (l2.length : Int), (l3.length : Int)] s
  · have d1 : decide (a + m ≤ rd [(l0.length : Int), (l1.length : Int), (l2.length : Int), (l3.length : Int)] s) = true := decide_eq_true c1
    have H1 := aM c1
    clear c1
    by_cases c2 : k = 23
    · have H2 := aM c2
      have e2 : (k != 23) = false := by rw [c2]; rfl
      have hw2 : IntKind.i64.wrap (wat + (ws.length : Int)) = wat + (ws.length : Int) := (by have := HN.out.2.2.2.2.1 c2; have := HA.out.2.2.2.2.1; rw [i64wrap, w64 (by omega) (by omega)])
      clear c2
      refine rgI [0, 1] 26 H.out ?_
      clear H
      intro w_ H
      have HL := aM (H.out.hasI [0, 1])
      refine pO 0 28 ?_
      refine pO 1 29 ?_
      refine pO 2 30 ?_
      refine pO 3 31 ?_
      refine pO 4 32 ?_
      refine pO 5 33 ?_
      refine tO 6 34 _ (fun w' s => elemI (s.2 0 _ rfl) s0 s1) HL.out ?_
      refine pO 7 35 ?_
      refine pO 8 36 ?_
      refine pO 9 37 ?_
      refine fO 10 38 1 0 HL.out ?_
      refine pO 11 39 ?_
      refine pO 12 40 ?_
      refine pO 13 41 ?_
      refine fO 14 42 1 5 HL.out ?_
      refine pO 15 43 ?_
      refine fO 16 44 1 3 HL.out ?_
      refine pO 17 45 ?_
      refine pO 18 46 ?_
      refine pO 19 47 ?_
      refine pO 20 48 ?_
      refine tO 21 49 _ (fun w' s => elem2 (s.2 0 _ rfl) (by simp)) HL.out ?_
      refine pO 22 50 ?_
      refine pO 23 51 ?_
      refine pO 24 52 ?_
      refine pO 25 4 ?_
      refine done_ (by kernel_rfl) ?_
      go_wp2
      go_ret
      exact ⟨by rw [HT.out]; simp [H1.out, H2.out], H.out.below⟩
    · have H2 := aM c2
      have e2 : (k != 23) = true := by simpa using c2
      clear c2
      refine rgI [0, 1] 26 H.out ?_
      clear H
      intro w_ H
      have HL := aM (H.out.hasI [0, 1])
      refine pO 0 28 ?_
      refine pO 1 29 ?_
      refine pO 2 30 ?_
      refine pO 3 31 ?_
      refine pO 4 32 ?_
      refine pO 5 33 ?_
      refine tO 6 34 _ (fun w' s => elemI (s.2 0 _ rfl) s0 s1) HL.out ?_
      refine pO 7 35 ?_
      refine pO 8 36 ?_
      refine pO 9 37 ?_
      refine fO 10 38 1 0 HL.out ?_
      refine pO 11 39 ?_
      refine pO 12 40 ?_
      refine nO 13 41 ?_
      refine nO 14 42 ?_
      refine nO 15 43 ?_
      refine nO 16 44 ?_
      refine nO 17 45 ?_
      refine nO 18 46 ?_
      refine nO 19 47 ?_
      refine nO 20 48 ?_
      refine nO 21 49 ?_
      refine nO 22 50 ?_
      refine pO 23 51 ?_
      refine pO 24 52 ?_
      refine pO 25 4 ?_
      refine done_ (by kernel_rfl) ?_
      go_wp2
      go_ret
      exact ⟨by rw [HT.out]; simp [H1.out, H2.out], H.out.below⟩
  · have d1 : decide (a + m ≤ rd [(l0.length : Int), (l1.length : Int), (l2.length : Int), (l3.length : Int)] s) = false := decide_eq_false c1
    have H1 := aM c1
    clear c1
    refine rgI [0, 1] 26 H.out ?_
    clear H
    intro w_ H
    have HL := aM (H.out.hasI [0, 1])
    refine pO 0 28 ?_
    refine pO 1 29 ?_
    refine pO 2 30 ?_
    refine pO 3 31 ?_
    refine pO 4 32 ?_
    refine pO 5 33 ?_
    refine tO 6 34 _ (fun w' s => elemI (s.2 0 _ rfl) s0 s1) HL.out ?_
    refine pO 7 35 ?_
    refine pO 8 36 ?_
    refine nO 9 37 ?_
    refine nO 10 38 ?_
    refine nO 11 39 ?_
    refine nO 12 40 ?_
    refine nO 13 41 ?_
    refine nO 14 42 ?_
    refine nO 15 43 ?_
    refine nO 16 44 ?_
    refine nO 17 45 ?_
    refine nO 18 46 ?_
    refine nO 19 47 ?_
    refine nO 20 48 ?_
    refine nO 21 49 ?_
    refine nO 22 50 ?_
    refine nO 23 51 ?_
    refine pO 24 52 ?_
    refine pO 25 4 ?_
    refine done_ (by kernel_rfl) ?_
    go_wp2
    go_ret
    exact ⟨by rw [HT.out, decide_eq_false (fun h => by have := H1.out; have := h.1; omega)]; first | rfl | simp, H.out.below⟩
end Go.Proofs.Ytiogbjbkfhhdhaa.G
