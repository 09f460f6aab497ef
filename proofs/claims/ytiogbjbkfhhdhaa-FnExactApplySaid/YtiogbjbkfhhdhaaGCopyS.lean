/- spec.l5Copy: a device's rows copied. Condition: no row is longer than a machine's memory. -/
import Derived.Test.YtiogbjbkfhhdhaaGOwn
namespace Go.Proofs.Ytiogbjbkfhhdhaa.G
open Go.Proofs.Ytiogbjbkfhhdhaa.K Go Go.RowKit Go.Proofs.YtiogbjbkfhhdhaaW.PrintWords Go.Proofs.YtiogbjbkfhhdhaaW.PrintLast Go.Proofs.YtiogbjbkfhhdhaaW.PrintMore
set_option linter.unusedVariables false
set_option linter.unusedSimpArgs false
/-- A device's rows, new ones. -/
def CopyPost (w : World) (l0 l1 : List Bool) (l2 l3 : List Int) (e : Ending) (w' : World) : Prop := ∃ B0 B1 B2 B3 e0 e1 e2 e3, e = .returned (.agg #[.slice B0 l0.length e0, .slice B1 l1.length e1, .slice B2 l2.length e2, .slice B3 l3.length e3]) ∧ Own w w' [rb (.slice B0 l0.length e0) l0, rb (.slice B1 l1.length e1) l1, ri (.slice B2 l2.length e2) l2, ri (.slice B3 l3.length e3) l3]
set_option maxHeartbeats 8000000 in
set_option maxRecDepth 100000 in
theorem l5Copy_own {w : World} {A0 A1 A2 A3 : Option Addr} {c0 c1 c2 c3 : Nat} {l0 l1 : List Bool} {l2 l3 : List Int} (h0 : Kd.C Kd.bool w A0 l0.length l0) (h1 : Kd.C Kd.bool w A1 l1.length l1) (h2 : Kd.C (Kd.int .i64) w A2 l2.length l2) (h3 : Kd.C (Kd.int .i64) w A3 l3.length l3) (m0 : l0.length ≤ 1048576) (m1 : l1.length ≤ 1048576) (m2 : l2.length ≤ 1048576) (m3 : l3.length ≤ 1048576) :
    Calls Try.prog 30 #[.agg #[.slice A0 l0.length c0, .slice A1 l1.length c1, .slice A2 l2.length c2, .slice A3 l3.length c3]] w (CopyPost w l0 l1 l2 l3) := by
  have hu := Try.underlying30
  have HR := aM (And.intro h0 (And.intro h1 (And.intro h2 h3)))
  have HM := aM (And.intro m0 (And.intro m1 (And.intro m2 m3)))
  have H := aM (Own.nil w)
  clear h0 h1 h2 h3 m0 m1 m2 m3
  go_enter Try.func30, Try.ntmps30
  go_upto_region 1 with (first | ((with_reducible refine nD 1 ?_); refine bxO 1 H.out #[.slice A0 l0.length c0, .slice A1 l1.length c1, .slice A2 l2.length c2, .slice A3 l3.length c3] 30 ?_; clear H; intro g1 _ H) | ((with_reducible refine nD 2 ?_); refine bxO 2 H.out #[.slice none 0 0, .slice none 0 0, .slice none 0 0, .slice none 0 0] 30 ?_; clear H; intro g2 _ H))
  refine rgI [1] 18 H.out ?_
  clear H
  intro w_ H
  have HL := aM (H.out.hasI [1])
  refine pO 1 4 ?_
  refine fO 2 5 0 0 HL.out ?_
  refine pO 5 8 ?_
  refine fO 6 9 0 1 HL.out ?_
  refine pO 9 12 ?_
  refine fO 10 13 0 2 HL.out ?_
  refine pO 13 16 ?_
  refine fO 14 17 0 3 HL.out ?_
  clear HL
  refine gen_ (fun G hG => ?_)
  obtain ⟨f, hf⟩ : ∃ f : Value → Value → Value → Value → Value → Value → Value → Value → Act, f = fun x0 x1 x2 x3 y0 y1 y2 y3 => ⟨#[.agg #[.slice A0 l0.length c0, .slice A1 l1.length c1, .slice A2 l2.length c2, .slice A3 l3.length c3], .pointer (some ⟨g1, 0, none⟩), .pointer (some ⟨g2, 0, none⟩), x0, .pointer (some ⟨g1, 0, none⟩), .slice A0 l0.length c0, y0, x1, .pointer (some ⟨g1, 1, none⟩), .slice A1 l1.length c1, y1, x2, .pointer (some ⟨g1, 2, none⟩), .slice A2 l2.length c2, y2, x3, .pointer (some ⟨g1, 3, none⟩), .slice A3 l3.length c3, y3, undef], []⟩ := ⟨_, rfl⟩
  have s4_ : ∀ (x0 : Value) (x1 : Value) (x2 : Value) (x3 : Value) (B0 : Option Addr) (e0 : Nat) (B1 : Option Addr) (e1 : Nat) (B2 : Option Addr) (e2 : Nat) (B3 : Option Addr) (e3 : Nat) (w1 : World), Aside0 (Own w w1 [rb (.slice B0 l0.length e0) l0, rb (.slice B1 l1.length e1) l1, ri (.slice B2 l2.length e2) l2, ri (.slice B3 l3.length e3) l3, bx g2 #[.slice none 0 0, .slice none 0 0, .slice none 0 0, .slice none 0 0] 30, bx g1 #[.slice A0 l0.length c0, .slice A1 l1.length c1, .slice A2 l2.length c2, .slice A3 l3.length c3] 30]) → G 2 #[true, true, true, true, true, true, true, true, true, true, true, true, true, true, true, true, false, false] (f x0 x1 x2 x3 (.slice B0 l0.length e0) (.slice B1 l1.length e1) (.slice B2 l2.length e2) (.slice B3 l3.length e3)) w1 := by
    intro x0 x1 x2 x3 B0 e0 B1 e1 B2 e2 B3 e3 w1 H
    subst hG hf
    refine pO 16 19 ?_
    refine stS 17 4 [5] H.out ?_
    clear H
    intro _ H
    refine done_ (by kernel_rfl) ?_
    go_wp2
    refine bodyPost_ret (results_cell_row rfl _ _ g2 30 _ (0, 0) _ rfl (H.out.b 4) hu rfl (by kernel_rfl)) rfl ?_
    exact ⟨_, _, _, _, _, _, _, _, rfl, H.out.sub (by repeat (first | exact List.nil_sublist _ | apply List.Sublist.cons_cons | apply List.Sublist.cons))⟩
  have s3_3 : ∀ (x0 : Value) (x1 : Value) (x2 : Value) (B0 : Option Addr) (e0 : Nat) (B1 : Option Addr) (e1 : Nat) (B2 : Option Addr) (e2 : Nat) (Q3 : Option Addr) (q3 : Nat) (w1 : World), Aside0 (Own w w1 [rb (.slice B0 l0.length e0) l0, rb (.slice B1 l1.length e1) l1, ri (.slice B2 l2.length e2) l2, ri (.slice Q3 ([] : List Int).length q3) [], bx g2 #[.slice none 0 0, .slice none 0 0, .slice none 0 0, .slice none 0 0] 30, bx g1 #[.slice A0 l0.length c0, .slice A1 l1.length c1, .slice A2 l2.length c2, .slice A3 l3.length c3] 30]) → G 3 #[true, true, true, true, true, true, true, true, true, true, true, true, true, true, true, false, false, false] (f x0 x1 x2 (.slice Q3 ([] : List Int).length q3) (.slice B0 l0.length e0) (.slice B1 l1.length e1) (.slice B2 l2.length e2) undef) w1 := by
    intro x0 x1 x2 B0 e0 B1 e1 B2 e2 Q3 q3 w1 H
    subst hG hf
    refine rdy [15] ?_
    refine AllReadyL.cons rfl (by simp) (fun K hK => apIS 3 18 H.out rfl (H.out.arg HR.out.2.2.2) (fun B3 e3 w2 H2 => hK.out _ _ (H2.out.hasI [5]) (fun _ => s4_ x0 x1 x2 (.slice Q3 ([] : List Int).length q3) B0 e0 B1 e1 B2 e2 B3 e3 w2 H2)) (by have := HM.out; simp; omega) (List.nil_append _)) ?_
    exact AllReadyL.nil
  have s2_23 : ∀ (x0 : Value) (x1 : Value) (B0 : Option Addr) (e0 : Nat) (B1 : Option Addr) (e1 : Nat) (Q2 : Option Addr) (q2 : Nat) (Q3 : Option Addr) (q3 : Nat) (w1 : World), Aside0 (Own w w1 [rb (.slice B0 l0.length e0) l0, rb (.slice B1 l1.length e1) l1, ri (.slice Q2 ([] : List Int).length q2) [], ri (.slice Q3 ([] : List Int).length q3) [], bx g2 #[.slice none 0 0, .slice none 0 0, .slice none 0 0, .slice none 0 0] 30, bx g1 #[.slice A0 l0.length c0, .slice A1 l1.length c1, .slice A2 l2.length c2, .slice A3 l3.length c3] 30]) → G 4 #[true, true, true, true, true, true, true, true, true, true, true, false, true, true, true, false, false, false] (f x0 x1 (.slice Q2 ([] : List Int).length q2) (.slice Q3 ([] : List Int).length q3) (.slice B0 l0.length e0) (.slice B1 l1.length e1) undef undef) w1 := by
    intro x0 x1 B0 e0 B1 e1 Q2 q2 Q3 q3 w1 H
    subst hG hf
    refine rdy [11] ?_
    refine AllReadyL.cons rfl (by simp) (fun K hK => apIS 2 14 H.out rfl (H.out.arg HR.out.2.2.1) (fun B2 e2 w2 H2 => hK.out _ _ (H2.out.hasI [5]) (fun _ => s3_3 x0 x1 (.slice Q2 ([] : List Int).length q2) B0 e0 B1 e1 B2 e2 Q3 q3 w2 H2)) (by have := HM.out; simp; omega) (List.nil_append _)) ?_
    exact AllReadyL.nil
  have s3_ : ∀ (x0 : Value) (x1 : Value) (x2 : Value) (B0 : Option Addr) (e0 : Nat) (B1 : Option Addr) (e1 : Nat) (B2 : Option Addr) (e2 : Nat) (w1 : World), Aside0 (Own w w1 [rb (.slice B0 l0.length e0) l0, rb (.slice B1 l1.length e1) l1, ri (.slice B2 l2.length e2) l2, bx g2 #[.slice none 0 0, .slice none 0 0, .slice none 0 0, .slice none 0 0] 30, bx g1 #[.slice A0 l0.length c0, .slice A1 l1.length c1, .slice A2 l2.length c2, .slice A3 l3.length c3] 30]) → G 4 #[true, true, true, true, true, true, true, true, true, true, true, true, false, true, true, false, false, false] (f x0 x1 x2 undef (.slice B0 l0.length e0) (.slice B1 l1.length e1) (.slice B2 l2.length e2) undef) w1 := by
    intro x0 x1 x2 B0 e0 B1 e1 B2 e2 w1 H
    subst hG hf
    refine rdy [12] ?_
    refine AllReadyL.cons rfl (by simp) (fun K hK => litIS 15 [] H.out (fun Q3 q3 w2 H2 => hK.out _ _ (H2.out.hasI [5]) (fun _ => s3_3 x0 x1 x2 B0 e0 B1 e1 B2 e2 Q3 q3 w2 (aM (H2.out.ins 3)))) (by simp)) ?_
    exact AllReadyL.nil
  have s1_123 : ∀ (x0 : Value) (B0 : Option Addr) (e0 : Nat) (Q1 : Option Addr) (q1 : Nat) (Q2 : Option Addr) (q2 : Nat) (Q3 : Option Addr) (q3 : Nat) (w1 : World), Aside0 (Own w w1 [rb (.slice B0 l0.length e0) l0, rb (.slice Q1 ([] : List Bool).length q1) [], ri (.slice Q2 ([] : List Int).length q2) [], ri (.slice Q3 ([] : List Int).length q3) [], bx g2 #[.slice none 0 0, .slice none 0 0, .slice none 0 0, .slice none 0 0] 30, bx g1 #[.slice A0 l0.length c0, .slice A1 l1.length c1, .slice A2 l2.length c2, .slice A3 l3.length c3] 30]) → G 5 #[true, true, true, true, true, true, true, false, true, true, true, false, true, true, true, false, false, false] (f x0 (.slice Q1 ([] : List Bool).length q1) (.slice Q2 ([] : List Int).length q2) (.slice Q3 ([] : List Int).length q3) (.slice B0 l0.length e0) undef undef undef) w1 := by
    intro x0 B0 e0 Q1 q1 Q2 q2 Q3 q3 w1 H
    subst hG hf
    refine rdy [7] ?_
    refine AllReadyL.cons rfl (by simp) (fun K hK => apBS 1 10 H.out rfl (H.out.arg HR.out.2.1) (fun B1 e1 w2 H2 => hK.out _ _ (H2.out.hasI [5]) (fun _ => s2_23 x0 (.slice Q1 ([] : List Bool).length q1) B0 e0 B1 e1 Q2 q2 Q3 q3 w2 H2)) (by have := HM.out; simp; omega) (List.nil_append _)) ?_
    exact AllReadyL.nil
  have s2_2 : ∀ (x0 : Value) (x1 : Value) (B0 : Option Addr) (e0 : Nat) (B1 : Option Addr) (e1 : Nat) (Q2 : Option Addr) (q2 : Nat) (w1 : World), Aside0 (Own w w1 [rb (.slice B0 l0.length e0) l0, rb (.slice B1 l1.length e1) l1, ri (.slice Q2 ([] : List Int).length q2) [], bx g2 #[.slice none 0 0, .slice none 0 0, .slice none 0 0, .slice none 0 0] 30, bx g1 #[.slice A0 l0.length c0, .slice A1 l1.length c1, .slice A2 l2.length c2, .slice A3 l3.length c3] 30]) → G 5 #[true, true, true, true, true, true, true, true, true, true, true, false, false, true, true, false, false, false] (f x0 x1 (.slice Q2 ([] : List Int).length q2) undef (.slice B0 l0.length e0) (.slice B1 l1.length e1) undef undef) w1 := by
    intro x0 x1 B0 e0 B1 e1 Q2 q2 w1 H
    subst hG hf
    refine rdy [11, 12] ?_
    refine AllReadyL.cons rfl (by simp) (fun K hK => apIS 2 14 H.out rfl (H.out.arg HR.out.2.2.1) (fun B2 e2 w2 H2 => hK.out _ _ (H2.out.hasI [4]) (fun _ => s3_ x0 x1 (.slice Q2 ([] : List Int).length q2) B0 e0 B1 e1 B2 e2 w2 H2)) (by have := HM.out; simp; omega) (List.nil_append _)) ?_
    refine AllReadyL.cons rfl (by simp) (fun K hK => litIS 15 [] H.out (fun Q3 q3 w2 H2 => hK.out _ _ (H2.out.hasI [5]) (fun _ => s2_23 x0 x1 B0 e0 B1 e1 Q2 q2 Q3 q3 w2 (aM (H2.out.ins 3)))) (by simp)) ?_
    exact AllReadyL.nil
  have s2_3 : ∀ (x0 : Value) (x1 : Value) (B0 : Option Addr) (e0 : Nat) (B1 : Option Addr) (e1 : Nat) (Q3 : Option Addr) (q3 : Nat) (w1 : World), Aside0 (Own w w1 [rb (.slice B0 l0.length e0) l0, rb (.slice B1 l1.length e1) l1, ri (.slice Q3 ([] : List Int).length q3) [], bx g2 #[.slice none 0 0, .slice none 0 0, .slice none 0 0, .slice none 0 0] 30, bx g1 #[.slice A0 l0.length c0, .slice A1 l1.length c1, .slice A2 l2.length c2, .slice A3 l3.length c3] 30]) → G 5 #[true, true, true, true, true, true, true, true, false, true, true, false, true, true, true, false, false, false] (f x0 x1 undef (.slice Q3 ([] : List Int).length q3) (.slice B0 l0.length e0) (.slice B1 l1.length e1) undef undef) w1 := by
    intro x0 x1 B0 e0 B1 e1 Q3 q3 w1 H
    subst hG hf
    refine rdy [8] ?_
    refine AllReadyL.cons rfl (by simp) (fun K hK => litIS 11 [] H.out (fun Q2 q2 w2 H2 => hK.out _ _ (H2.out.hasI [5]) (fun _ => s2_23 x0 x1 B0 e0 B1 e1 Q2 q2 Q3 q3 w2 (aM (H2.out.ins 2)))) (by simp)) ?_
    exact AllReadyL.nil
  have s0_0123 : ∀ (Q0 : Option Addr) (q0 : Nat) (Q1 : Option Addr) (q1 : Nat) (Q2 : Option Addr) (q2 : Nat) (Q3 : Option Addr) (q3 : Nat) (w1 : World), Aside0 (Own w w1 [rb (.slice Q0 ([] : List Bool).length q0) [], rb (.slice Q1 ([] : List Bool).length q1) [], ri (.slice Q2 ([] : List Int).length q2) [], ri (.slice Q3 ([] : List Int).length q3) [], bx g2 #[.slice none 0 0, .slice none 0 0, .slice none 0 0, .slice none 0 0] 30, bx g1 #[.slice A0 l0.length c0, .slice A1 l1.length c1, .slice A2 l2.length c2, .slice A3 l3.length c3] 30]) → G 6 #[true, true, true, false, true, true, true, false, true, true, true, false, true, true, true, false, false, false] (f (.slice Q0 ([] : List Bool).length q0) (.slice Q1 ([] : List Bool).length q1) (.slice Q2 ([] : List Int).length q2) (.slice Q3 ([] : List Int).length q3) undef undef undef undef) w1 := by
    intro Q0 q0 Q1 q1 Q2 q2 Q3 q3 w1 H
    subst hG hf
    refine rdy [3] ?_
    refine AllReadyL.cons rfl (by simp) (fun K hK => apBS 0 6 H.out rfl (H.out.arg HR.out.1) (fun B0 e0 w2 H2 => hK.out _ _ (H2.out.hasI [5]) (fun _ => s1_123 (.slice Q0 ([] : List Bool).length q0) B0 e0 Q1 q1 Q2 q2 Q3 q3 w2 H2)) (by have := HM.out; simp; omega) (List.nil_append _)) ?_
    exact AllReadyL.nil
  have s1_12 : ∀ (x0 : Value) (B0 : Option Addr) (e0 : Nat) (Q1 : Option Addr) (q1 : Nat) (Q2 : Option Addr) (q2 : Nat) (w1 : World), Aside0 (Own w w1 [rb (.slice B0 l0.length e0) l0, rb (.slice Q1 ([] : List Bool).length q1) [], ri (.slice Q2 ([] : List Int).length q2) [], bx g2 #[.slice none 0 0, .slice none 0 0, .slice none 0 0, .slice none 0 0] 30, bx g1 #[.slice A0 l0.length c0, .slice A1 l1.length c1, .slice A2 l2.length c2, .slice A3 l3.length c3] 30]) → G 6 #[true, true, true, true, true, true, true, false, true, true, true, false, false, true, true, false, false, false] (f x0 (.slice Q1 ([] : List Bool).length q1) (.slice Q2 ([] : List Int).length q2) undef (.slice B0 l0.length e0) undef undef undef) w1 := by
    intro x0 B0 e0 Q1 q1 Q2 q2 w1 H
    subst hG hf
    refine rdy [7, 12] ?_
    refine AllReadyL.cons rfl (by simp) (fun K hK => apBS 1 10 H.out rfl (H.out.arg HR.out.2.1) (fun B1 e1 w2 H2 => hK.out _ _ (H2.out.hasI [4]) (fun _ => s2_2 x0 (.slice Q1 ([] : List Bool).length q1) B0 e0 B1 e1 Q2 q2 w2 H2)) (by have := HM.out; simp; omega) (List.nil_append _)) ?_
    refine AllReadyL.cons rfl (by simp) (fun K hK => litIS 15 [] H.out (fun Q3 q3 w2 H2 => hK.out _ _ (H2.out.hasI [5]) (fun _ => s1_123 x0 B0 e0 Q1 q1 Q2 q2 Q3 q3 w2 (aM (H2.out.ins 3)))) (by simp)) ?_
    exact AllReadyL.nil
  have s1_13 : ∀ (x0 : Value) (B0 : Option Addr) (e0 : Nat) (Q1 : Option Addr) (q1 : Nat) (Q3 : Option Addr) (q3 : Nat) (w1 : World), Aside0 (Own w w1 [rb (.slice B0 l0.length e0) l0, rb (.slice Q1 ([] : List Bool).length q1) [], ri (.slice Q3 ([] : List Int).length q3) [], bx g2 #[.slice none 0 0, .slice none 0 0, .slice none 0 0, .slice none 0 0] 30, bx g1 #[.slice A0 l0.length c0, .slice A1 l1.length c1, .slice A2 l2.length c2, .slice A3 l3.length c3] 30]) → G 6 #[true, true, true, true, true, true, true, false, false, true, true, false, true, true, true, false, false, false] (f x0 (.slice Q1 ([] : List Bool).length q1) undef (.slice Q3 ([] : List Int).length q3) (.slice B0 l0.length e0) undef undef undef) w1 := by
    intro x0 B0 e0 Q1 q1 Q3 q3 w1 H
    subst hG hf
    refine rdy [7, 8] ?_
    refine AllReadyL.cons rfl (by simp) (fun K hK => apBS 1 10 H.out rfl (H.out.arg HR.out.2.1) (fun B1 e1 w2 H2 => hK.out _ _ (H2.out.hasI [4]) (fun _ => s2_3 x0 (.slice Q1 ([] : List Bool).length q1) B0 e0 B1 e1 Q3 q3 w2 H2)) (by have := HM.out; simp; omega) (List.nil_append _)) ?_
    refine AllReadyL.cons rfl (by simp) (fun K hK => litIS 11 [] H.out (fun Q2 q2 w2 H2 => hK.out _ _ (H2.out.hasI [5]) (fun _ => s1_123 x0 B0 e0 Q1 q1 Q2 q2 Q3 q3 w2 (aM (H2.out.ins 2)))) (by simp)) ?_
    exact AllReadyL.nil
  have s1_23 : ∀ (x0 : Value) (B0 : Option Addr) (e0 : Nat) (Q2 : Option Addr) (q2 : Nat) (Q3 : Option Addr) (q3 : Nat) (w1 : World), Aside0 (Own w w1 [rb (.slice B0 l0.length e0) l0, ri (.slice Q2 ([] : List Int).length q2) [], ri (.slice Q3 ([] : List Int).length q3) [], bx g2 #[.slice none 0 0, .slice none 0 0, .slice none 0 0, .slice none 0 0] 30, bx g1 #[.slice A0 l0.length c0, .slice A1 l1.length c1, .slice A2 l2.length c2, .slice A3 l3.length c3] 30]) → G 6 #[true, true, true, true, false, true, true, false, true, true, true, false, true, true, true, false, false, false] (f x0 undef (.slice Q2 ([] : List Int).length q2) (.slice Q3 ([] : List Int).length q3) (.slice B0 l0.length e0) undef undef undef) w1 := by
    intro x0 B0 e0 Q2 q2 Q3 q3 w1 H
    subst hG hf
    refine rdy [4] ?_
    refine AllReadyL.cons rfl (by simp) (fun K hK => litBS 7 [] H.out (fun Q1 q1 w2 H2 => hK.out _ _ (H2.out.hasI [5]) (fun _ => s1_123 x0 B0 e0 Q1 q1 Q2 q2 Q3 q3 w2 (aM (H2.out.ins 1)))) (by simp)) ?_
    exact AllReadyL.nil
  have s2_ : ∀ (x0 : Value) (x1 : Value) (B0 : Option Addr) (e0 : Nat) (B1 : Option Addr) (e1 : Nat) (w1 : World), Aside0 (Own w w1 [rb (.slice B0 l0.length e0) l0, rb (.slice B1 l1.length e1) l1, bx g2 #[.slice none 0 0, .slice none 0 0, .slice none 0 0, .slice none 0 0] 30, bx g1 #[.slice A0 l0.length c0, .slice A1 l1.length c1, .slice A2 l2.length c2, .slice A3 l3.length c3] 30]) → G 6 #[true, true, true, true, true, true, true, true, false, true, true, false, false, true, true, false, false, false] (f x0 x1 undef undef (.slice B0 l0.length e0) (.slice B1 l1.length e1) undef undef) w1 := by
    intro x0 x1 B0 e0 B1 e1 w1 H
    subst hG hf
    refine rdy [8, 12] ?_
    refine AllReadyL.cons rfl (by simp) (fun K hK => litIS 11 [] H.out (fun Q2 q2 w2 H2 => hK.out _ _ (H2.out.hasI [4]) (fun _ => s2_2 x0 x1 B0 e0 B1 e1 Q2 q2 w2 (aM (H2.out.ins 2)))) (by simp)) ?_
    refine AllReadyL.cons rfl (by simp) (fun K hK => litIS 15 [] H.out (fun Q3 q3 w2 H2 => hK.out _ _ (H2.out.hasI [4]) (fun _ => s2_3 x0 x1 B0 e0 B1 e1 Q3 q3 w2 (aM (H2.out.ins 2)))) (by simp)) ?_
    exact AllReadyL.nil
  have s0_012 : ∀ (Q0 : Option Addr) (q0 : Nat) (Q1 : Option Addr) (q1 : Nat) (Q2 : Option Addr) (q2 : Nat) (w1 : World), Aside0 (Own w w1 [rb (.slice Q0 ([] : List Bool).length q0) [], rb (.slice Q1 ([] : List Bool).length q1) [], ri (.slice Q2 ([] : List Int).length q2) [], bx g2 #[.slice none 0 0, .slice none 0 0, .slice none 0 0, .slice none 0 0] 30, bx g1 #[.slice A0 l0.length c0, .slice A1 l1.length c1, .slice A2 l2.length c2, .slice A3 l3.length c3] 30]) → G 7 #[true, true, true, false, true, true, true, false, true, true, true, false, false, true, true, false, false, false] (f (.slice Q0 ([] : List Bool).length q0) (.slice Q1 ([] : List Bool).length q1) (.slice Q2 ([] : List Int).length q2) undef undef undef undef undef) w1 := by
    intro Q0 q0 Q1 q1 Q2 q2 w1 H
    subst hG hf
    refine rdy [3, 12] ?_
    refine AllReadyL.cons rfl (by simp) (fun K hK => apBS 0 6 H.out rfl (H.out.arg HR.out.1) (fun B0 e0 w2 H2 => hK.out _ _ (H2.out.hasI [4]) (fun _ => s1_12 (.slice Q0 ([] : List Bool).length q0) B0 e0 Q1 q1 Q2 q2 w2 H2)) (by have := HM.out; simp; omega) (List.nil_append _)) ?_
    refine AllReadyL.cons rfl (by simp) (fun K hK => litIS 15 [] H.out (fun Q3 q3 w2 H2 => hK.out _ _ (H2.out.hasI [5]) (fun _ => s0_0123 Q0 q0 Q1 q1 Q2 q2 Q3 q3 w2 (aM (H2.out.ins 3)))) (by simp)) ?_
    exact AllReadyL.nil
  have s0_013 : ∀ (Q0 : Option Addr) (q0 : Nat) (Q1 : Option Addr) (q1 : Nat) (Q3 : Option Addr) (q3 : Nat) (w1 : World), Aside0 (Own w w1 [rb (.slice Q0 ([] : List Bool).length q0) [], rb (.slice Q1 ([] : List Bool).length q1) [], ri (.slice Q3 ([] : List Int).length q3) [], bx g2 #[.slice none 0 0, .slice none 0 0, .slice none 0 0, .slice none 0 0] 30, bx g1 #[.slice A0 l0.length c0, .slice A1 l1.length c1, .slice A2 l2.length c2, .slice A3 l3.length c3] 30]) → G 7 #[true, true, true, false, true, true, true, false, false, true, true, false, true, true, true, false, false, false] (f (.slice Q0 ([] : List Bool).length q0) (.slice Q1 ([] : List Bool).length q1) undef (.slice Q3 ([] : List Int).length q3) undef undef undef undef) w1 := by
    intro Q0 q0 Q1 q1 Q3 q3 w1 H
    subst hG hf
    refine rdy [3, 8] ?_
    refine AllReadyL.cons rfl (by simp) (fun K hK => apBS 0 6 H.out rfl (H.out.arg HR.out.1) (fun B0 e0 w2 H2 => hK.out _ _ (H2.out.hasI [4]) (fun _ => s1_13 (.slice Q0 ([] : List Bool).length q0) B0 e0 Q1 q1 Q3 q3 w2 H2)) (by have := HM.out; simp; omega) (List.nil_append _)) ?_
    refine AllReadyL.cons rfl (by simp) (fun K hK => litIS 11 [] H.out (fun Q2 q2 w2 H2 => hK.out _ _ (H2.out.hasI [5]) (fun _ => s0_0123 Q0 q0 Q1 q1 Q2 q2 Q3 q3 w2 (aM (H2.out.ins 2)))) (by simp)) ?_
    exact AllReadyL.nil
  have s0_023 : ∀ (Q0 : Option Addr) (q0 : Nat) (Q2 : Option Addr) (q2 : Nat) (Q3 : Option Addr) (q3 : Nat) (w1 : World), Aside0 (Own w w1 [rb (.slice Q0 ([] : List Bool).length q0) [], ri (.slice Q2 ([] : List Int).length q2) [], ri (.slice Q3 ([] : List Int).length q3) [], bx g2 #[.slice none 0 0, .slice none 0 0, .slice none 0 0, .slice none 0 0] 30, bx g1 #[.slice A0 l0.length c0, .slice A1 l1.length c1, .slice A2 l2.length c2, .slice A3 l3.length c3] 30]) → G 7 #[true, true, true, false, false, true, true, false, true, true, true, false, true, true, true, false, false, false] (f (.slice Q0 ([] : List Bool).length q0) undef (.slice Q2 ([] : List Int).length q2) (.slice Q3 ([] : List Int).length q3) undef undef undef undef) w1 := by
    intro Q0 q0 Q2 q2 Q3 q3 w1 H
    subst hG hf
    refine rdy [3, 4] ?_
    refine AllReadyL.cons rfl (by simp) (fun K hK => apBS 0 6 H.out rfl (H.out.arg HR.out.1) (fun B0 e0 w2 H2 => hK.out _ _ (H2.out.hasI [4]) (fun _ => s1_23 (.slice Q0 ([] : List Bool).length q0) B0 e0 Q2 q2 Q3 q3 w2 H2)) (by have := HM.out; simp; omega) (List.nil_append _)) ?_
    refine AllReadyL.cons rfl (by simp) (fun K hK => litBS 7 [] H.out (fun Q1 q1 w2 H2 => hK.out _ _ (H2.out.hasI [5]) (fun _ => s0_0123 Q0 q0 Q1 q1 Q2 q2 Q3 q3 w2 (aM (H2.out.ins 1)))) (by simp)) ?_
    exact AllReadyL.nil
  have s0_123 : ∀ (Q1 : Option Addr) (q1 : Nat) (Q2 : Option Addr) (q2 : Nat) (Q3 : Option Addr) (q3 : Nat) (w1 : World), Aside0 (Own w w1 [rb (.slice Q1 ([] : List Bool).length q1) [], ri (.slice Q2 ([] : List Int).length q2) [], ri (.slice Q3 ([] : List Int).length q3) [], bx g2 #[.slice none 0 0, .slice none 0 0, .slice none 0 0, .slice none 0 0] 30, bx g1 #[.slice A0 l0.length c0, .slice A1 l1.length c1, .slice A2 l2.length c2, .slice A3 l3.length c3] 30]) → G 7 #[false, true, true, false, true, true, true, false, true, true, true, false, true, true, true, false, false, false] (f undef (.slice Q1 ([] : List Bool).length q1) (.slice Q2 ([] : List Int).length q2) (.slice Q3 ([] : List Int).length q3) undef undef undef undef) w1 := by
    intro Q1 q1 Q2 q2 Q3 q3 w1 H
    subst hG hf
    refine rdy [0] ?_
    refine AllReadyL.cons rfl (by simp) (fun K hK => litBS 3 [] H.out (fun Q0 q0 w2 H2 => hK.out _ _ (H2.out.hasI [5]) (fun _ => s0_0123 Q0 q0 Q1 q1 Q2 q2 Q3 q3 w2 (aM (H2.out.ins 0)))) (by simp)) ?_
    exact AllReadyL.nil
  have s1_1 : ∀ (x0 : Value) (B0 : Option Addr) (e0 : Nat) (Q1 : Option Addr) (q1 : Nat) (w1 : World), Aside0 (Own w w1 [rb (.slice B0 l0.length e0) l0, rb (.slice Q1 ([] : List Bool).length q1) [], bx g2 #[.slice none 0 0, .slice none 0 0, .slice none 0 0, .slice none 0 0] 30, bx g1 #[.slice A0 l0.length c0, .slice A1 l1.length c1, .slice A2 l2.length c2, .slice A3 l3.length c3] 30]) → G 7 #[true, true, true, true, true, true, true, false, false, true, true, false, false, true, true, false, false, false] (f x0 (.slice Q1 ([] : List Bool).length q1) undef undef (.slice B0 l0.length e0) undef undef undef) w1 := by
    intro x0 B0 e0 Q1 q1 w1 H
    subst hG hf
    refine rdy [7, 8, 12] ?_
    refine AllReadyL.cons rfl (by simp) (fun K hK => apBS 1 10 H.out rfl (H.out.arg HR.out.2.1) (fun B1 e1 w2 H2 => hK.out _ _ (H2.out.hasI [3]) (fun _ => s2_ x0 (.slice Q1 ([] : List Bool).length q1) B0 e0 B1 e1 w2 H2)) (by have := HM.out; simp; omega) (List.nil_append _)) ?_
    refine AllReadyL.cons rfl (by simp) (fun K hK => litIS 11 [] H.out (fun Q2 q2 w2 H2 => hK.out _ _ (H2.out.hasI [4]) (fun _ => s1_12 x0 B0 e0 Q1 q1 Q2 q2 w2 (aM (H2.out.ins 2)))) (by simp)) ?_
    refine AllReadyL.cons rfl (by simp) (fun K hK => litIS 15 [] H.out (fun Q3 q3 w2 H2 => hK.out _ _ (H2.out.hasI [4]) (fun _ => s1_13 x0 B0 e0 Q1 q1 Q3 q3 w2 (aM (H2.out.ins 2)))) (by simp)) ?_
    exact AllReadyL.nil
  have s1_2 : ∀ (x0 : Value) (B0 : Option Addr) (e0 : Nat) (Q2 : Option Addr) (q2 : Nat) (w1 : World), Aside0 (Own w w1 [rb (.slice B0 l0.length e0) l0, ri (.slice Q2 ([] : List Int).length q2) [], bx g2 #[.slice none 0 0, .slice none 0 0, .slice none 0 0, .slice none 0 0] 30, bx g1 #[.slice A0 l0.length c0, .slice A1 l1.length c1, .slice A2 l2.length c2, .slice A3 l3.length c3] 30]) → G 7 #[true, true, true, true, false, true, true, false, true, true, true, false, false, true, true, false, false, false] (f x0 undef (.slice Q2 ([] : List Int).length q2) undef (.slice B0 l0.length e0) undef undef undef) w1 := by
    intro x0 B0 e0 Q2 q2 w1 H
    subst hG hf
    refine rdy [4, 12] ?_
    refine AllReadyL.cons rfl (by simp) (fun K hK => litBS 7 [] H.out (fun Q1 q1 w2 H2 => hK.out _ _ (H2.out.hasI [4]) (fun _ => s1_12 x0 B0 e0 Q1 q1 Q2 q2 w2 (aM (H2.out.ins 1)))) (by simp)) ?_
    refine AllReadyL.cons rfl (by simp) (fun K hK => litIS 15 [] H.out (fun Q3 q3 w2 H2 => hK.out _ _ (H2.out.hasI [4]) (fun _ => s1_23 x0 B0 e0 Q2 q2 Q3 q3 w2 (aM (H2.out.ins 2)))) (by simp)) ?_
    exact AllReadyL.nil
  have s1_3 : ∀ (x0 : Value) (B0 : Option Addr) (e0 : Nat) (Q3 : Option Addr) (q3 : Nat) (w1 : World), Aside0 (Own w w1 [rb (.slice B0 l0.length e0) l0, ri (.slice Q3 ([] : List Int).length q3) [], bx g2 #[.slice none 0 0, .slice none 0 0, .slice none 0 0, .slice none 0 0] 30, bx g1 #[.slice A0 l0.length c0, .slice A1 l1.length c1, .slice A2 l2.length c2, .slice A3 l3.length c3] 30]) → G 7 #[true, true, true, true, false, true, true, false, false, true, true, false, true, true, true, false, false, false] (f x0 undef undef (.slice Q3 ([] : List Int).length q3) (.slice B0 l0.length e0) undef undef undef) w1 := by
    intro x0 B0 e0 Q3 q3 w1 H
    subst hG hf
    refine rdy [4, 8] ?_
    refine AllReadyL.cons rfl (by simp) (fun K hK => litBS 7 [] H.out (fun Q1 q1 w2 H2 => hK.out _ _ (H2.out.hasI [4]) (fun _ => s1_13 x0 B0 e0 Q1 q1 Q3 q3 w2 (aM (H2.out.ins 1)))) (by simp)) ?_
    refine AllReadyL.cons rfl (by simp) (fun K hK => litIS 11 [] H.out (fun Q2 q2 w2 H2 => hK.out _ _ (H2.out.hasI [4]) (fun _ => s1_23 x0 B0 e0 Q2 q2 Q3 q3 w2 (aM (H2.out.ins 1)))) (by simp)) ?_
    exact AllReadyL.nil
  have s0_01 : ∀ (Q0 : Option Addr) (q0 : Nat) (Q1 : Option Addr) (q1 : Nat) (w1 : World), Aside0 (Own w w1 [rb (.slice Q0 ([] : List Bool).length q0) [], rb (.slice Q1 ([] : List Bool).length q1) [], bx g2 #[.slice none 0 0, .slice none 0 0, .slice none 0 0, .slice none 0 0] 30, bx g1 #[.slice A0 l0.length c0, .slice A1 l1.length c1, .slice A2 l2.length c2, .slice A3 l3.length c3] 30]) → G 8 #[true, true, true, false, true, true, true, false, false, true, true, false, false, true, true, false, false, false] (f (.slice Q0 ([] : List Bool).length q0) (.slice Q1 ([] : List Bool).length q1) undef undef undef undef undef undef) w1 := by
    intro Q0 q0 Q1 q1 w1 H
    subst hG hf
    refine rdy [3, 8, 12] ?_
    refine AllReadyL.cons rfl (by simp) (fun K hK => apBS 0 6 H.out rfl (H.out.arg HR.out.1) (fun B0 e0 w2 H2 => hK.out _ _ (H2.out.hasI [3]) (fun _ => s1_1 (.slice Q0 ([] : List Bool).length q0) B0 e0 Q1 q1 w2 H2)) (by have := HM.out; simp; omega) (List.nil_append _)) ?_
    refine AllReadyL.cons rfl (by simp) (fun K hK => litIS 11 [] H.out (fun Q2 q2 w2 H2 => hK.out _ _ (H2.out.hasI [4]) (fun _ => s0_012 Q0 q0 Q1 q1 Q2 q2 w2 (aM (H2.out.ins 2)))) (by simp)) ?_
    refine AllReadyL.cons rfl (by simp) (fun K hK => litIS 15 [] H.out (fun Q3 q3 w2 H2 => hK.out _ _ (H2.out.hasI [4]) (fun _ => s0_013 Q0 q0 Q1 q1 Q3 q3 w2 (aM (H2.out.ins 2)))) (by simp)) ?_
    exact AllReadyL.nil
  have s0_02 : ∀ (Q0 : Option Addr) (q0 : Nat) (Q2 : Option Addr) (q2 : Nat) (w1 : World), Aside0 (Own w w1 [rb (.slice Q0 ([] : List Bool).length q0) [], ri (.slice Q2 ([] : List Int).length q2) [], bx g2 #[.slice none 0 0, .slice none 0 0, .slice none 0 0, .slice none 0 0] 30, bx g1 #[.slice A0 l0.length c0, .slice A1 l1.length c1, .slice A2 l2.length c2, .slice A3 l3.length c3] 30]) → G 8 #[true, true, true, false, false, true, true, false, true, true, true, false, false, true, true, false, false, false] (f (.slice Q0 ([] : List Bool).length q0) undef (.slice Q2 ([] : List Int).length q2) undef undef undef undef undef) w1 := by
    intro Q0 q0 Q2 q2 w1 H
    subst hG hf
    refine rdy [3, 4, 12] ?_
    refine AllReadyL.cons rfl (by simp) (fun K hK => apBS 0 6 H.out rfl (H.out.arg HR.out.1) (fun B0 e0 w2 H2 => hK.out _ _ (H2.out.hasI [3]) (fun _ => s1_2 (.slice Q0 ([] : List Bool).length q0) B0 e0 Q2 q2 w2 H2)) (by have := HM.out; simp; omega) (List.nil_append _)) ?_
    refine AllReadyL.cons rfl (by simp) (fun K hK => litBS 7 [] H.out (fun Q1 q1 w2 H2 => hK.out _ _ (H2.out.hasI [4]) (fun _ => s0_012 Q0 q0 Q1 q1 Q2 q2 w2 (aM (H2.out.ins 1)))) (by simp)) ?_
    refine AllReadyL.cons rfl (by simp) (fun K hK => litIS 15 [] H.out (fun Q3 q3 w2 H2 => hK.out _ _ (H2.out.hasI [4]) (fun _ => s0_023 Q0 q0 Q2 q2 Q3 q3 w2 (aM (H2.out.ins 2)))) (by simp)) ?_
    exact AllReadyL.nil
  have s0_03 : ∀ (Q0 : Option Addr) (q0 : Nat) (Q3 : Option Addr) (q3 : Nat) (w1 : World), Aside0 (Own w w1 [rb (.slice Q0 ([] : List Bool).length q0) [], ri (.slice Q3 ([] : List Int).length q3) [], bx g2 #[.slice none 0 0, .slice none 0 0, .slice none 0 0, .slice none 0 0] 30, bx g1 #[.slice A0 l0.length c0, .slice A1 l1.length c1, .slice A2 l2.length c2, .slice A3 l3.length c3] 30]) → G 8 #[true, true, true, false, false, true, true, false, false, true, true, false, true, true, true, false, false, false] (f (.slice Q0 ([] : List Bool).length q0) undef undef (.slice Q3 ([] : List Int).length q3) undef undef undef undef) w1 := by
    intro Q0 q0 Q3 q3 w1 H
    subst hG hf
    refine rdy [3, 4, 8] ?_
    refine AllReadyL.cons rfl (by simp) (fun K hK => apBS 0 6 H.out rfl (H.out.arg HR.out.1) (fun B0 e0 w2 H2 => hK.out _ _ (H2.out.hasI [3]) (fun _ => s1_3 (.slice Q0 ([] : List Bool).length q0) B0 e0 Q3 q3 w2 H2)) (by have := HM.out; simp; omega) (List.nil_append _)) ?_
    refine AllReadyL.cons rfl (by simp) (fun K hK => litBS 7 [] H.out (fun Q1 q1 w2 H2 => hK.out _ _ (H2.out.hasI [4]) (fun _ => s0_013 Q0 q0 Q1 q1 Q3 q3 w2 (aM (H2.out.ins 1)))) (by simp)) ?_
    refine AllReadyL.cons rfl (by simp) (fun K hK => litIS 11 [] H.out (fun Q2 q2 w2 H2 => hK.out _ _ (H2.out.hasI [4]) (fun _ => s0_023 Q0 q0 Q2 q2 Q3 q3 w2 (aM (H2.out.ins 1)))) (by simp)) ?_
    exact AllReadyL.nil
  have s0_12 : ∀ (Q1 : Option Addr) (q1 : Nat) (Q2 : Option Addr) (q2 : Nat) (w1 : World), Aside0 (Own w w1 [rb (.slice Q1 ([] : List Bool).length q1) [], ri (.slice Q2 ([] : List Int).length q2) [], bx g2 #[.slice none 0 0, .slice none 0 0, .slice none 0 0, .slice none 0 0] 30, bx g1 #[.slice A0 l0.length c0, .slice A1 l1.length c1, .slice A2 l2.length c2, .slice A3 l3.length c3] 30]) → G 8 #[false, true, true, false, true, true, true, false, true, true, true, false, false, true, true, false, false, false] (f undef (.slice Q1 ([] : List Bool).length q1) (.slice Q2 ([] : List Int).length q2) undef undef undef undef undef) w1 := by
    intro Q1 q1 Q2 q2 w1 H
    subst hG hf
    refine rdy [0, 12] ?_
    refine AllReadyL.cons rfl (by simp) (fun K hK => litBS 3 [] H.out (fun Q0 q0 w2 H2 => hK.out _ _ (H2.out.hasI [4]) (fun _ => s0_012 Q0 q0 Q1 q1 Q2 q2 w2 (aM (H2.out.ins 0)))) (by simp)) ?_
    refine AllReadyL.cons rfl (by simp) (fun K hK => litIS 15 [] H.out (fun Q3 q3 w2 H2 => hK.out _ _ (H2.out.hasI [4]) (fun _ => s0_123 Q1 q1 Q2 q2 Q3 q3 w2 (aM (H2.out.ins 2)))) (by simp)) ?_
    exact AllReadyL.nil
  have s0_13 : ∀ (Q1 : Option Addr) (q1 : Nat) (Q3 : Option Addr) (q3 : Nat) (w1 : World), Aside0 (Own w w1 [rb (.slice Q1 ([] : List Bool).length q1) [], ri (.slice Q3 ([] : List Int).length q3) [], bx g2 #[.slice none 0 0, .slice none 0 0, .slice none 0 0, .slice none 0 0] 30, bx g1 #[.slice A0 l0.length c0, .slice A1 l1.length c1, .slice A2 l2.length c2, .slice A3 l3.length c3] 30]) → G 8 #[false, true, true, false, true, true, true, false, false, true, true, false, true, true, true, false, false, false] (f undef (.slice Q1 ([] : List Bool).length q1) undef (.slice Q3 ([] : List Int).length q3) undef undef undef undef) w1 := by
    intro Q1 q1 Q3 q3 w1 H
    subst hG hf
    refine rdy [0, 8] ?_
    refine AllReadyL.cons rfl (by simp) (fun K hK => litBS 3 [] H.out (fun Q0 q0 w2 H2 => hK.out _ _ (H2.out.hasI [4]) (fun _ => s0_013 Q0 q0 Q1 q1 Q3 q3 w2 (aM (H2.out.ins 0)))) (by simp)) ?_
    refine AllReadyL.cons rfl (by simp) (fun K hK => litIS 11 [] H.out (fun Q2 q2 w2 H2 => hK.out _ _ (H2.out.hasI [4]) (fun _ => s0_123 Q1 q1 Q2 q2 Q3 q3 w2 (aM (H2.out.ins 1)))) (by simp)) ?_
    exact AllReadyL.nil
  have s0_23 : ∀ (Q2 : Option Addr) (q2 : Nat) (Q3 : Option Addr) (q3 : Nat) (w1 : World), Aside0 (Own w w1 [ri (.slice Q2 ([] : List Int).length q2) [], ri (.slice Q3 ([] : List Int).length q3) [], bx g2 #[.slice none 0 0, .slice none 0 0, .slice none 0 0, .slice none 0 0] 30, bx g1 #[.slice A0 l0.length c0, .slice A1 l1.length c1, .slice A2 l2.length c2, .slice A3 l3.length c3] 30]) → G 8 #[false, true, true, false, false, true, true, false, true, true, true, false, true, true, true, false, false, false] (f undef undef (.slice Q2 ([] : List Int).length q2) (.slice Q3 ([] : List Int).length q3) undef undef undef undef) w1 := by
    intro Q2 q2 Q3 q3 w1 H
    subst hG hf
    refine rdy [0, 4] ?_
    refine AllReadyL.cons rfl (by simp) (fun K hK => litBS 3 [] H.out (fun Q0 q0 w2 H2 => hK.out _ _ (H2.out.hasI [4]) (fun _ => s0_023 Q0 q0 Q2 q2 Q3 q3 w2 (aM (H2.out.ins 0)))) (by simp)) ?_
    refine AllReadyL.cons rfl (by simp) (fun K hK => litBS 7 [] H.out (fun Q1 q1 w2 H2 => hK.out _ _ (H2.out.hasI [4]) (fun _ => s0_123 Q1 q1 Q2 q2 Q3 q3 w2 (aM (H2.out.ins 0)))) (by simp)) ?_
    exact AllReadyL.nil
  have s1_ : ∀ (x0 : Value) (B0 : Option Addr) (e0 : Nat) (w1 : World), Aside0 (Own w w1 [rb (.slice B0 l0.length e0) l0, bx g2 #[.slice none 0 0, .slice none 0 0, .slice none 0 0, .slice none 0 0] 30, bx g1 #[.slice A0 l0.length c0, .slice A1 l1.length c1, .slice A2 l2.length c2, .slice A3 l3.length c3] 30]) → G 8 #[true, true, true, true, false, true, true, false, false, true, true, false, false, true, true, false, false, false] (f x0 undef undef undef (.slice B0 l0.length e0) undef undef undef) w1 := by
    intro x0 B0 e0 w1 H
    subst hG hf
    refine rdy [4, 8, 12] ?_
    refine AllReadyL.cons rfl (by simp) (fun K hK => litBS 7 [] H.out (fun Q1 q1 w2 H2 => hK.out _ _ (H2.out.hasI [3]) (fun _ => s1_1 x0 B0 e0 Q1 q1 w2 (aM (H2.out.ins 1)))) (by simp)) ?_
    refine AllReadyL.cons rfl (by simp) (fun K hK => litIS 11 [] H.out (fun Q2 q2 w2 H2 => hK.out _ _ (H2.out.hasI [3]) (fun _ => s1_2 x0 B0 e0 Q2 q2 w2 (aM (H2.out.ins 1)))) (by simp)) ?_
    refine AllReadyL.cons rfl (by simp) (fun K hK => litIS 15 [] H.out (fun Q3 q3 w2 H2 => hK.out _ _ (H2.out.hasI [3]) (fun _ => s1_3 x0 B0 e0 Q3 q3 w2 (aM (H2.out.ins 1)))) (by simp)) ?_
    exact AllReadyL.nil
  have s0_0 : ∀ (Q0 : Option Addr) (q0 : Nat) (w1 : World), Aside0 (Own w w1 [rb (.slice Q0 ([] : List Bool).length q0) [], bx g2 #[.slice none 0 0, .slice none 0 0, .slice none 0 0, .slice none 0 0] 30, bx g1 #[.slice A0 l0.length c0, .slice A1 l1.length c1, .slice A2 l2.length c2, .slice A3 l3.length c3] 30]) → G 9 #[true, true, true, false, false, true, true, false, false, true, true, false, false, true, true, false, false, false] (f (.slice Q0 ([] : List Bool).length q0) undef undef undef undef undef undef undef) w1 := by
    intro Q0 q0 w1 H
    subst hG hf
    refine rdy [3, 4, 8, 12] ?_
    refine AllReadyL.cons rfl (by simp) (fun K hK => apBS 0 6 H.out rfl (H.out.arg HR.out.1) (fun B0 e0 w2 H2 => hK.out _ _ (H2.out.hasI [2]) (fun _ => s1_ (.slice Q0 ([] : List Bool).length q0) B0 e0 w2 H2)) (by have := HM.out; simp; omega) (List.nil_append _)) ?_
    refine AllReadyL.cons rfl (by simp) (fun K hK => litBS 7 [] H.out (fun Q1 q1 w2 H2 => hK.out _ _ (H2.out.hasI [3]) (fun _ => s0_01 Q0 q0 Q1 q1 w2 (aM (H2.out.ins 1)))) (by simp)) ?_
    refine AllReadyL.cons rfl (by simp) (fun K hK => litIS 11 [] H.out (fun Q2 q2 w2 H2 => hK.out _ _ (H2.out.hasI [3]) (fun _ => s0_02 Q0 q0 Q2 q2 w2 (aM (H2.out.ins 1)))) (by simp)) ?_
    refine AllReadyL.cons rfl (by simp) (fun K hK => litIS 15 [] H.out (fun Q3 q3 w2 H2 => hK.out _ _ (H2.out.hasI [3]) (fun _ => s0_03 Q0 q0 Q3 q3 w2 (aM (H2.out.ins 1)))) (by simp)) ?_
    exact AllReadyL.nil
  have s0_1 : ∀ (Q1 : Option Addr) (q1 : Nat) (w1 : World), Aside0 (Own w w1 [rb (.slice Q1 ([] : List Bool).length q1) [], bx g2 #[.slice none 0 0, .slice none 0 0, .slice none 0 0, .slice none 0 0] 30, bx g1 #[.slice A0 l0.length c0, .slice A1 l1.length c1, .slice A2 l2.length c2, .slice A3 l3.length c3] 30]) → G 9 #[false, true, true, false, true, true, true, false, false, true, true, false, false, true, true, false, false, false] (f undef (.slice Q1 ([] : List Bool).length q1) undef undef undef undef undef undef) w1 := by
    intro Q1 q1 w1 H
    subst hG hf
    refine rdy [0, 8, 12] ?_
    refine AllReadyL.cons rfl (by simp) (fun K hK => litBS 3 [] H.out (fun Q0 q0 w2 H2 => hK.out _ _ (H2.out.hasI [3]) (fun _ => s0_01 Q0 q0 Q1 q1 w2 (aM (H2.out.ins 0)))) (by simp)) ?_
    refine AllReadyL.cons rfl (by simp) (fun K hK => litIS 11 [] H.out (fun Q2 q2 w2 H2 => hK.out _ _ (H2.out.hasI [3]) (fun _ => s0_12 Q1 q1 Q2 q2 w2 (aM (H2.out.ins 1)))) (by simp)) ?_
    refine AllReadyL.cons rfl (by simp) (fun K hK => litIS 15 [] H.out (fun Q3 q3 w2 H2 => hK.out _ _ (H2.out.hasI [3]) (fun _ => s0_13 Q1 q1 Q3 q3 w2 (aM (H2.out.ins 1)))) (by simp)) ?_
    exact AllReadyL.nil
  have s0_2 : ∀ (Q2 : Option Addr) (q2 : Nat) (w1 : World), Aside0 (Own w w1 [ri (.slice Q2 ([] : List Int).length q2) [], bx g2 #[.slice none 0 0, .slice none 0 0, .slice none 0 0, .slice none 0 0] 30, bx g1 #[.slice A0 l0.length c0, .slice A1 l1.length c1, .slice A2 l2.length c2, .slice A3 l3.length c3] 30]) → G 9 #[false, true, true, false, false, true, true, false, true, true, true, false, false, true, true, false, false, false] (f undef undef (.slice Q2 ([] : List Int).length q2) undef undef undef undef undef) w1 := by
    intro Q2 q2 w1 H
    subst hG hf
    refine rdy [0, 4, 12] ?_
    refine AllReadyL.cons rfl (by simp) (fun K hK => litBS 3 [] H.out (fun Q0 q0 w2 H2 => hK.out _ _ (H2.out.hasI [3]) (fun _ => s0_02 Q0 q0 Q2 q2 w2 (aM (H2.out.ins 0)))) (by simp)) ?_
    refine AllReadyL.cons rfl (by simp) (fun K hK => litBS 7 [] H.out (fun Q1 q1 w2 H2 => hK.out _ _ (H2.out.hasI [3]) (fun _ => s0_12 Q1 q1 Q2 q2 w2 (aM (H2.out.ins 0)))) (by simp)) ?_
    refine AllReadyL.cons rfl (by simp) (fun K hK => litIS 15 [] H.out (fun Q3 q3 w2 H2 => hK.out _ _ (H2.out.hasI [3]) (fun _ => s0_23 Q2 q2 Q3 q3 w2 (aM (H2.out.ins 1)))) (by simp)) ?_
    exact AllReadyL.nil
  have s0_3 : ∀ (Q3 : Option Addr) (q3 : Nat) (w1 : World), Aside0 (Own w w1 [ri (.slice Q3 ([] : List Int).length q3) [], bx g2 #[.slice none 0 0, .slice none 0 0, .slice none 0 0, .slice none 0 0] 30, bx g1 #[.slice A0 l0.length c0, .slice A1 l1.length c1, .slice A2 l2.length c2, .slice A3 l3.length c3] 30]) → G 9 #[false, true, true, false, false, true, true, false, false, true, true, false, true, true, true, false, false, false] (f undef undef undef (.slice Q3 ([] : List Int).length q3) undef undef undef undef) w1 := by
    intro Q3 q3 w1 H
    subst hG hf
    refine rdy [0, 4, 8] ?_
    refine AllReadyL.cons rfl (by simp) (fun K hK => litBS 3 [] H.out (fun Q0 q0 w2 H2 => hK.out _ _ (H2.out.hasI [3]) (fun _ => s0_03 Q0 q0 Q3 q3 w2 (aM (H2.out.ins 0)))) (by simp)) ?_
    refine AllReadyL.cons rfl (by simp) (fun K hK => litBS 7 [] H.out (fun Q1 q1 w2 H2 => hK.out _ _ (H2.out.hasI [3]) (fun _ => s0_13 Q1 q1 Q3 q3 w2 (aM (H2.out.ins 0)))) (by simp)) ?_
    refine AllReadyL.cons rfl (by simp) (fun K hK => litIS 11 [] H.out (fun Q2 q2 w2 H2 => hK.out _ _ (H2.out.hasI [3]) (fun _ => s0_23 Q2 q2 Q3 q3 w2 (aM (H2.out.ins 0)))) (by simp)) ?_
    exact AllReadyL.nil
  have s0_ : ∀ (w1 : World), Aside0 (Own w w1 [bx g2 #[.slice none 0 0, .slice none 0 0, .slice none 0 0, .slice none 0 0] 30, bx g1 #[.slice A0 l0.length c0, .slice A1 l1.length c1, .slice A2 l2.length c2, .slice A3 l3.length c3] 30]) → G 10 #[false, true, true, false, false, true, true, false, false, true, true, false, false, true, true, false, false, false] (f undef undef undef undef undef undef undef undef) w1 := by
    intro  w1 H
    subst hG hf
    refine rdy [0, 4, 8, 12] ?_
    refine AllReadyL.cons rfl (by simp) (fun K hK => litBS 3 [] H.out (fun Q0 q0 w2 H2 => hK.out _ _ (H2.out.hasI [2]) (fun _ => s0_0 Q0 q0 w2 (aM (H2.out.ins 0)))) (by simp)) ?_
    refine AllReadyL.cons rfl (by simp) (fun K hK => litBS 7 [] H.out (fun Q1 q1 w2 H2 => hK.out _ _ (H2.out.hasI [2]) (fun _ => s0_1 Q1 q1 w2 (aM (H2.out.ins 0)))) (by simp)) ?_
    refine AllReadyL.cons rfl (by simp) (fun K hK => litIS 11 [] H.out (fun Q2 q2 w2 H2 => hK.out _ _ (H2.out.hasI [2]) (fun _ => s0_2 Q2 q2 w2 (aM (H2.out.ins 0)))) (by simp)) ?_
    refine AllReadyL.cons rfl (by simp) (fun K hK => litIS 15 [] H.out (fun Q3 q3 w2 H2 => hK.out _ _ (H2.out.hasI [2]) (fun _ => s0_3 Q3 q3 w2 (aM (H2.out.ins 0)))) (by simp)) ?_
    exact AllReadyL.nil
  subst hf
  exact s0_ w_ H
end Go.Proofs.Ytiogbjbkfhhdhaa.G
