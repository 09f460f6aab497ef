/- What spec.DeviceNew makes: four rows of a size. No condition. -/
import Derived.Test.YtiiodfagedcofaaGOwn
import Derived.Test.YtiiodfagedcofaaGNewD
import Derived.Test.YtiiodfagedcofaaGIn
namespace Go.Proofs.Ytiiodfagedcofaa.G
open Go.Proofs.Ytiiodfagedcofaa.K Go Go.RowKit Go.Proofs.YtiiodfagedcofaaW.PrintWords Go.Proofs.YtiiodfagedcofaaW.PrintLast Go.Proofs.YtiiodfagedcofaaW.PrintMore
set_option linter.unusedVariables false
set_option linter.unusedSimpArgs false

set_option maxHeartbeats 4000000 in
set_option maxRecDepth 100000 in
theorem spec_DeviceNew.own (n : Int) (w : World) : Calls Try.prog 52 #[.int .i64 n] w (NewPost n w) := by
  have hu := Try.underlying27
  have H := aM (Own.nil w)
  obtain ⟨b, hb⟩ : ∃ b, decide (0 ≤ n ∧ n ≤ 64) = b := ⟨_, rfl⟩
  have Hb := aM hb
  clear hb
  go_enter Try.func52, Try.ntmps52
  go_upto_if 5 with (first | ((with_reducible refine nD 2 ?_); refine bxO 2 H.out #[.slice none 0 0, .slice none 0 0, .slice none 0 0, .slice none 0 0] 27 ?_; clear H; intro g _ H) | ((with_reducible refine nD 4 ?_); refine gC 4 Try.func44 (l1In_own n 0 64 b _ Hb.out) ?_; rintro e w_ ⟨rfl, hd⟩; refine ⟨_, rfl, ?_⟩; replace H := aM (H.out.drawn hd); clear hd))
  go_cut [0] from 3 (fun v0 wc => ∃ m : Int, v0 = .int .i64 m ∧ Aside0 (0 ≤ m ∧ m ≤ 64 ∧ zb n = List.replicate m.toNat false ∧ zi n = List.replicate m.toNat 0) ∧ Aside0 (Own w wc [bx g #[.slice none 0 0, .slice none 0 0, .slice none 0 0, .slice none 0 0] 27]))
  case first =>
    cases b with
    | true =>
      have h := of_decide_eq_true Hb.out
      have HA := aM (show 0 ≤ n ∧ n ≤ 64 ∧ zb n = List.replicate n.toNat false ∧ zi n = List.replicate n.toNat 0 from ⟨h.1, h.2, by simp [zb, szOf, h], by simp [zi, szOf, h]⟩)
      clear h Hb
      go_wp2
      go_meet
      case rel => exact ⟨n, rfl, HA, H⟩
    | false =>
      have h := of_decide_eq_false Hb.out
      have HA := aM (show (0 : Int) ≤ 0 ∧ (0 : Int) ≤ 64 ∧ zb n = List.replicate (0 : Int).toNat false ∧ zi n = List.replicate (0 : Int).toNat 0 from ⟨by omega, by omega, by simp [zb, szOf, h], by simp [zi, szOf, h]⟩)
      clear h Hb
      go_wp2
      go_meet
      case rel => exact ⟨0, rfl, HA, H⟩
  case rest =>
    clear H
    obtain ⟨m, rfl, HA, H⟩ := hcut
    go_wp2
    refine rgI [] 10 H.out ?_
    clear H
    intro w_ H
    refine pO 0 6 ?_
    refine pO 2 8 ?_
    refine pO 4 10 ?_
    refine pO 6 12 ?_
    refine gen_ (fun G hG => ?_)
    obtain ⟨f, hf⟩ : ∃ f : Value → Value → Value → Value → Act, f = fun x y z t => ⟨#[.int .i64 m, undef, .pointer (some ⟨g, 0, none⟩), u3, u4, u5, .int .i64 m, x, .int .i64 m, y, .int .i64 m, z, .int .i64 m, t, u14], []⟩ := ⟨_, rfl⟩
    have s15 : ∀ (A0 : Option Addr) (c0 : Nat) (A1 : Option Addr) (c1 : Nat) (A2 : Option Addr) (c2 : Nat) (A3 : Option Addr) (c3 : Nat) (w1 : World), Aside0 (Own w w1 [rb (.slice A0 (zb n).length c0) (zb n), rb (.slice A1 (zb n).length c1) (zb n), ri (.slice A2 (zi n).length c2) (zi n), ri (.slice A3 (zi n).length c3) (zi n), bx g #[.slice none 0 0, .slice none 0 0, .slice none 0 0, .slice none 0 0] 27]) → G 2 #[true, true, true, true, true, true, true, true, false, false] (f (.slice A0 (zb n).length c0) (.slice A1 (zb n).length c1) (.slice A2 (zi n).length c2) (.slice A3 (zi n).length c3)) w1 := by
      intro A0 c0 A1 c1 A2 c2 A3 c3 w1 H
      subst hG hf
      refine pO 8 14 ?_
      refine oneO 9 none (fun K hK => ?_)
      refine stR 4 H.out (fun w2 H => ?_)
      refine hK.out _ _ (H.out.hasI []) (fun _ => ?_)
      refine done_ (by kernel_rfl) ?_
      go_wp2
      refine bodyPost_ret (results_cell_row rfl _ _ g 27 _ (0, 0) _ rfl (H.out.b 4) hu rfl (by kernel_rfl)) rfl ?_
      exact ⟨_, _, _, _, _, _, _, _, rfl, H.out.sub (List.sublist_append_left _ [_])⟩
    have s7 : ∀ (A0 : Option Addr) (c0 : Nat) (A1 : Option Addr) (c1 : Nat) (A2 : Option Addr) (c2 : Nat) (w1 : World), Aside0 (Own w w1 [rb (.slice A0 (zb n).length c0) (zb n), rb (.slice A1 (zb n).length c1) (zb n), ri (.slice A2 (zi n).length c2) (zi n), bx g #[.slice none 0 0, .slice none 0 0, .slice none 0 0, .slice none 0 0] 27]) → G 3 #[true, true, true, true, true, true, true, false, false, false] (f (.slice A0 (zb n).length c0) (.slice A1 (zb n).length c1) (.slice A2 (zi n).length c2) u13) w1 := by
      intro A0 c0 A1 c1 A2 c2 w1 H
      subst hG hf
      refine rdy [7] ?_
      refine AllReadyL.cons rfl (by simp) (fun K hK => mkI 3 m _ HA.out.2.2.2 HA.out.1 (Int.le_trans HA.out.2.1 (by decide)) H.out (fun A3 c3 w2 H => hK.out _ _ (H.out.hasI []) (fun _ => s15 A0 c0 A1 c1 A2 c2 A3 c3 w2 H)) Try.underlying25 zinfoI) ?_
      exact AllReadyL.nil
    have s11 : ∀ (A0 : Option Addr) (c0 : Nat) (A1 : Option Addr) (c1 : Nat) (A3 : Option Addr) (c3 : Nat) (w1 : World), Aside0 (Own w w1 [rb (.slice A0 (zb n).length c0) (zb n), rb (.slice A1 (zb n).length c1) (zb n), ri (.slice A3 (zi n).length c3) (zi n), bx g #[.slice none 0 0, .slice none 0 0, .slice none 0 0, .slice none 0 0] 27]) → G 3 #[true, true, true, true, true, false, true, true, false, false] (f (.slice A0 (zb n).length c0) (.slice A1 (zb n).length c1) u11 (.slice A3 (zi n).length c3)) w1 := by
      intro A0 c0 A1 c1 A3 c3 w1 H
      subst hG hf
      refine rdy [5] ?_
      refine AllReadyL.cons rfl (by simp) (fun K hK => mkI 2 m _ HA.out.2.2.2 HA.out.1 (Int.le_trans HA.out.2.1 (by decide)) H.out (fun A2 c2 w2 H => hK.out _ _ (H.out.hasI []) (fun _ => s15 A0 c0 A1 c1 A2 c2 A3 c3 w2 H)) Try.underlying25 zinfoI) ?_
      exact AllReadyL.nil
    have s13 : ∀ (A0 : Option Addr) (c0 : Nat) (A2 : Option Addr) (c2 : Nat) (A3 : Option Addr) (c3 : Nat) (w1 : World), Aside0 (Own w w1 [rb (.slice A0 (zb n).length c0) (zb n), ri (.slice A2 (zi n).length c2) (zi n), ri (.slice A3 (zi n).length c3) (zi n), bx g #[.slice none 0 0, .slice none 0 0, .slice none 0 0, .slice none 0 0] 27]) → G 3 #[true, true, true, false, true, true, true, true, false, false] (f (.slice A0 (zb n).length c0) u9 (.slice A2 (zi n).length c2) (.slice A3 (zi n).length c3)) w1 := by
      intro A0 c0 A2 c2 A3 c3 w1 H
      subst hG hf
      refine rdy [3] ?_
      refine AllReadyL.cons rfl (by simp) (fun K hK => mkB 1 m _ HA.out.2.2.1 HA.out.1 (Int.le_trans HA.out.2.1 (by decide)) H.out (fun A1 c1 w2 H => hK.out _ _ (H.out.hasI []) (fun _ => s15 A0 c0 A1 c1 A2 c2 A3 c3 w2 H)) Try.underlying24 zinfoB) ?_
      exact AllReadyL.nil
    have s14 : ∀ (A1 : Option Addr) (c1 : Nat) (A2 : Option Addr) (c2 : Nat) (A3 : Option Addr) (c3 : Nat) (w1 : World), Aside0 (Own w w1 [rb (.slice A1 (zb n).length c1) (zb n), ri (.slice A2 (zi n).length c2) (zi n), ri (.slice A3 (zi n).length c3) (zi n), bx g #[.slice none 0 0, .slice none 0 0, .slice none 0 0, .slice none 0 0] 27]) → G 3 #[true, false, true, true, true, true, true, true, false, false] (f u7 (.slice A1 (zb n).length c1) (.slice A2 (zi n).length c2) (.slice A3 (zi n).length c3)) w1 := by
      intro A1 c1 A2 c2 A3 c3 w1 H
      subst hG hf
      refine rdy [1] ?_
      refine AllReadyL.cons rfl (by simp) (fun K hK => mkB 0 m _ HA.out.2.2.1 HA.out.1 (Int.le_trans HA.out.2.1 (by decide)) H.out (fun A0 c0 w2 H => hK.out _ _ (H.out.hasI []) (fun _ => s15 A0 c0 A1 c1 A2 c2 A3 c3 w2 H)) Try.underlying24 zinfoB) ?_
      exact AllReadyL.nil
    have s3 : ∀ (A0 : Option Addr) (c0 : Nat) (A1 : Option Addr) (c1 : Nat) (w1 : World), Aside0 (Own w w1 [rb (.slice A0 (zb n).length c0) (zb n), rb (.slice A1 (zb n).length c1) (zb n), bx g #[.slice none 0 0, .slice none 0 0, .slice none 0 0, .slice none 0 0] 27]) → G 4 #[true, true, true, true, true, false, true, false, false, false] (f (.slice A0 (zb n).length c0) (.slice A1 (zb n).length c1) u11 u13) w1 := by
      intro A0 c0 A1 c1 w1 H
      subst hG hf
      refine rdy [5, 7] ?_
      refine AllReadyL.cons rfl (by simp) (fun K hK => mkI 2 m _ HA.out.2.2.2 HA.out.1 (Int.le_trans HA.out.2.1 (by decide)) H.out (fun A2 c2 w2 H => hK.out _ _ (H.out.hasI []) (fun _ => s7 A0 c0 A1 c1 A2 c2 w2 H)) Try.underlying25 zinfoI) ?_
      refine AllReadyL.cons rfl (by simp) (fun K hK => mkI 2 m _ HA.out.2.2.2 HA.out.1 (Int.le_trans HA.out.2.1 (by decide)) H.out (fun A3 c3 w2 H => hK.out _ _ (H.out.hasI []) (fun _ => s11 A0 c0 A1 c1 A3 c3 w2 H)) Try.underlying25 zinfoI) ?_
      exact AllReadyL.nil
    have s5 : ∀ (A0 : Option Addr) (c0 : Nat) (A2 : Option Addr) (c2 : Nat) (w1 : World), Aside0 (Own w w1 [rb (.slice A0 (zb n).length c0) (zb n), ri (.slice A2 (zi n).length c2) (zi n), bx g #[.slice none 0 0, .slice none 0 0, .slice none 0 0, .slice none 0 0] 27]) → G 4 #[true, true, true, false, true, true, true, false, false, false] (f (.slice A0 (zb n).length c0) u9 (.slice A2 (zi n).length c2) u13) w1 := by
      intro A0 c0 A2 c2 w1 H
      subst hG hf
      refine rdy [3, 7] ?_
      refine AllReadyL.cons rfl (by simp) (fun K hK => mkB 1 m _ HA.out.2.2.1 HA.out.1 (Int.le_trans HA.out.2.1 (by decide)) H.out (fun A1 c1 w2 H => hK.out _ _ (H.out.hasI []) (fun _ => s7 A0 c0 A1 c1 A2 c2 w2 H)) Try.underlying24 zinfoB) ?_
      refine AllReadyL.cons rfl (by simp) (fun K hK => mkI 2 m _ HA.out.2.2.2 HA.out.1 (Int.le_trans HA.out.2.1 (by decide)) H.out (fun A3 c3 w2 H => hK.out _ _ (H.out.hasI []) (fun _ => s13 A0 c0 A2 c2 A3 c3 w2 H)) Try.underlying25 zinfoI) ?_
      exact AllReadyL.nil
    have s6 : ∀ (A1 : Option Addr) (c1 : Nat) (A2 : Option Addr) (c2 : Nat) (w1 : World), Aside0 (Own w w1 [rb (.slice A1 (zb n).length c1) (zb n), ri (.slice A2 (zi n).length c2) (zi n), bx g #[.slice none 0 0, .slice none 0 0, .slice none 0 0, .slice none 0 0] 27]) → G 4 #[true, false, true, true, true, true, true, false, false, false] (f u7 (.slice A1 (zb n).length c1) (.slice A2 (zi n).length c2) u13) w1 := by
      intro A1 c1 A2 c2 w1 H
      subst hG hf
      refine rdy [1, 7] ?_
      refine AllReadyL.cons rfl (by simp) (fun K hK => mkB 0 m _ HA.out.2.2.1 HA.out.1 (Int.le_trans HA.out.2.1 (by decide)) H.out (fun A0 c0 w2 H => hK.out _ _ (H.out.hasI []) (fun _ => s7 A0 c0 A1 c1 A2 c2 w2 H)) Try.underlying24 zinfoB) ?_
      refine AllReadyL.cons rfl (by simp) (fun K hK => mkI 2 m _ HA.out.2.2.2 HA.out.1 (Int.le_trans HA.out.2.1 (by decide)) H.out (fun A3 c3 w2 H => hK.out _ _ (H.out.hasI []) (fun _ => s14 A1 c1 A2 c2 A3 c3 w2 H)) Try.underlying25 zinfoI) ?_
      exact AllReadyL.nil
    have s9 : ∀ (A0 : Option Addr) (c0 : Nat) (A3 : Option Addr) (c3 : Nat) (w1 : World), Aside0 (Own w w1 [rb (.slice A0 (zb n).length c0) (zb n), ri (.slice A3 (zi n).length c3) (zi n), bx g #[.slice none 0 0, .slice none 0 0, .slice none 0 0, .slice none 0 0] 27]) → G 4 #[true, true, true, false, true, false, true, true, false, false] (f (.slice A0 (zb n).length c0) u9 u11 (.slice A3 (zi n).length c3)) w1 := by
      intro A0 c0 A3 c3 w1 H
      subst hG hf
      refine rdy [3, 5] ?_
      refine AllReadyL.cons rfl (by simp) (fun K hK => mkB 1 m _ HA.out.2.2.1 HA.out.1 (Int.le_trans HA.out.2.1 (by decide)) H.out (fun A1 c1 w2 H => hK.out _ _ (H.out.hasI []) (fun _ => s11 A0 c0 A1 c1 A3 c3 w2 H)) Try.underlying24 zinfoB) ?_
      refine AllReadyL.cons rfl (by simp) (fun K hK => mkI 1 m _ HA.out.2.2.2 HA.out.1 (Int.le_trans HA.out.2.1 (by decide)) H.out (fun A2 c2 w2 H => hK.out _ _ (H.out.hasI []) (fun _ => s13 A0 c0 A2 c2 A3 c3 w2 H)) Try.underlying25 zinfoI) ?_
      exact AllReadyL.nil
    have s10 : ∀ (A1 : Option Addr) (c1 : Nat) (A3 : Option Addr) (c3 : Nat) (w1 : World), Aside0 (Own w w1 [rb (.slice A1 (zb n).length c1) (zb n), ri (.slice A3 (zi n).length c3) (zi n), bx g #[.slice none 0 0, .slice none 0 0, .slice none 0 0, .slice none 0 0] 27]) → G 4 #[true, false, true, true, true, false, true, true, false, false] (f u7 (.slice A1 (zb n).length c1) u11 (.slice A3 (zi n).length c3)) w1 := by
      intro A1 c1 A3 c3 w1 H
      subst hG hf
      refine rdy [1, 5] ?_
      refine AllReadyL.cons rfl (by simp) (fun K hK => mkB 0 m _ HA.out.2.2.1 HA.out.1 (Int.le_trans HA.out.2.1 (by decide)) H.out (fun A0 c0 w2 H => hK.out _ _ (H.out.hasI []) (fun _ => s11 A0 c0 A1 c1 A3 c3 w2 H)) Try.underlying24 zinfoB) ?_
      refine AllReadyL.cons rfl (by simp) (fun K hK => mkI 1 m _ HA.out.2.2.2 HA.out.1 (Int.le_trans HA.out.2.1 (by decide)) H.out (fun A2 c2 w2 H => hK.out _ _ (H.out.hasI []) (fun _ => s14 A1 c1 A2 c2 A3 c3 w2 H)) Try.underlying25 zinfoI) ?_
      exact AllReadyL.nil
    have s12 : ∀ (A2 : Option Addr) (c2 : Nat) (A3 : Option Addr) (c3 : Nat) (w1 : World), Aside0 (Own w w1 [ri (.slice A2 (zi n).length c2) (zi n), ri (.slice A3 (zi n).length c3) (zi n), bx g #[.slice none 0 0, .slice none 0 0, .slice none 0 0, .slice none 0 0] 27]) → G 4 #[true, false, true, false, true, true, true, true, false, false] (f u7 u9 (.slice A2 (zi n).length c2) (.slice A3 (zi n).length c3)) w1 := by
      intro A2 c2 A3 c3 w1 H
      subst hG hf
      refine rdy [1, 3] ?_
      refine AllReadyL.cons rfl (by simp) (fun K hK => mkB 0 m _ HA.out.2.2.1 HA.out.1 (Int.le_trans HA.out.2.1 (by decide)) H.out (fun A0 c0 w2 H => hK.out _ _ (H.out.hasI []) (fun _ => s13 A0 c0 A2 c2 A3 c3 w2 H)) Try.underlying24 zinfoB) ?_
      refine AllReadyL.cons rfl (by simp) (fun K hK => mkB 0 m _ HA.out.2.2.1 HA.out.1 (Int.le_trans HA.out.2.1 (by decide)) H.out (fun A1 c1 w2 H => hK.out _ _ (H.out.hasI []) (fun _ => s14 A1 c1 A2 c2 A3 c3 w2 H)) Try.underlying24 zinfoB) ?_
      exact AllReadyL.nil
    have s1 : ∀ (A0 : Option Addr) (c0 : Nat) (w1 : World), Aside0 (Own w w1 [rb (.slice A0 (zb n).length c0) (zb n), bx g #[.slice none 0 0, .slice none 0 0, .slice none 0 0, .slice none 0 0] 27]) → G 5 #[true, true, true, false, true, false, true, false, false, false] (f (.slice A0 (zb n).length c0) u9 u11 u13) w1 := by
      intro A0 c0 w1 H
      subst hG hf
      refine rdy [3, 5, 7] ?_
      refine AllReadyL.cons rfl (by simp) (fun K hK => mkB 1 m _ HA.out.2.2.1 HA.out.1 (Int.le_trans HA.out.2.1 (by decide)) H.out (fun A1 c1 w2 H => hK.out _ _ (H.out.hasI []) (fun _ => s3 A0 c0 A1 c1 w2 H)) Try.underlying24 zinfoB) ?_
      refine AllReadyL.cons rfl (by simp) (fun K hK => mkI 1 m _ HA.out.2.2.2 HA.out.1 (Int.le_trans HA.out.2.1 (by decide)) H.out (fun A2 c2 w2 H => hK.out _ _ (H.out.hasI []) (fun _ => s5 A0 c0 A2 c2 w2 H)) Try.underlying25 zinfoI) ?_
      refine AllReadyL.cons rfl (by simp) (fun K hK => mkI 1 m _ HA.out.2.2.2 HA.out.1 (Int.le_trans HA.out.2.1 (by decide)) H.out (fun A3 c3 w2 H => hK.out _ _ (H.out.hasI []) (fun _ => s9 A0 c0 A3 c3 w2 H)) Try.underlying25 zinfoI) ?_
      exact AllReadyL.nil
    have s2 : ∀ (A1 : Option Addr) (c1 : Nat) (w1 : World), Aside0 (Own w w1 [rb (.slice A1 (zb n).length c1) (zb n), bx g #[.slice none 0 0, .slice none 0 0, .slice none 0 0, .slice none 0 0] 27]) → G 5 #[true, false, true, true, true, false, true, false, false, false] (f u7 (.slice A1 (zb n).length c1) u11 u13) w1 := by
      intro A1 c1 w1 H
      subst hG hf
      refine rdy [1, 5, 7] ?_
      refine AllReadyL.cons rfl (by simp) (fun K hK => mkB 0 m _ HA.out.2.2.1 HA.out.1 (Int.le_trans HA.out.2.1 (by decide)) H.out (fun A0 c0 w2 H => hK.out _ _ (H.out.hasI []) (fun _ => s3 A0 c0 A1 c1 w2 H)) Try.underlying24 zinfoB) ?_
      refine AllReadyL.cons rfl (by simp) (fun K hK => mkI 1 m _ HA.out.2.2.2 HA.out.1 (Int.le_trans HA.out.2.1 (by decide)) H.out (fun A2 c2 w2 H => hK.out _ _ (H.out.hasI []) (fun _ => s6 A1 c1 A2 c2 w2 H)) Try.underlying25 zinfoI) ?_
      refine AllReadyL.cons rfl (by simp) (fun K hK => mkI 1 m _ HA.out.2.2.2 HA.out.1 (Int.le_trans HA.out.2.1 (by decide)) H.out (fun A3 c3 w2 H => hK.out _ _ (H.out.hasI []) (fun _ => s10 A1 c1 A3 c3 w2 H)) Try.underlying25 zinfoI) ?_
      exact AllReadyL.nil
    have s4 : ∀ (A2 : Option Addr) (c2 : Nat) (w1 : World), Aside0 (Own w w1 [ri (.slice A2 (zi n).length c2) (zi n), bx g #[.slice none 0 0, .slice none 0 0, .slice none 0 0, .slice none 0 0] 27]) → G 5 #[true, false, true, false, true, true, true, false, false, false] (f u7 u9 (.slice A2 (zi n).length c2) u13) w1 := by
      intro A2 c2 w1 H
      subst hG hf
      refine rdy [1, 3, 7] ?_
      refine AllReadyL.cons rfl (by simp) (fun K hK => mkB 0 m _ HA.out.2.2.1 HA.out.1 (Int.le_trans HA.out.2.1 (by decide)) H.out (fun A0 c0 w2 H => hK.out _ _ (H.out.hasI []) (fun _ => s5 A0 c0 A2 c2 w2 H)) Try.underlying24 zinfoB) ?_
      refine AllReadyL.cons rfl (by simp) (fun K hK => mkB 0 m _ HA.out.2.2.1 HA.out.1 (Int.le_trans HA.out.2.1 (by decide)) H.out (fun A1 c1 w2 H => hK.out _ _ (H.out.hasI []) (fun _ => s6 A1 c1 A2 c2 w2 H)) Try.underlying24 zinfoB) ?_
      refine AllReadyL.cons rfl (by simp) (fun K hK => mkI 1 m _ HA.out.2.2.2 HA.out.1 (Int.le_trans HA.out.2.1 (by decide)) H.out (fun A3 c3 w2 H => hK.out _ _ (H.out.hasI []) (fun _ => s12 A2 c2 A3 c3 w2 H)) Try.underlying25 zinfoI) ?_
      exact AllReadyL.nil
    have s8 : ∀ (A3 : Option Addr) (c3 : Nat) (w1 : World), Aside0 (Own w w1 [ri (.slice A3 (zi n).length c3) (zi n), bx g #[.slice none 0 0, .slice none 0 0, .slice none 0 0, .slice none 0 0] 27]) → G 5 #[true, false, true, false, true, false, true, true, false, false] (f u7 u9 u11 (.slice A3 (zi n).length c3)) w1 := by
      intro A3 c3 w1 H
      subst hG hf
      refine rdy [1, 3, 5] ?_
      refine AllReadyL.cons rfl (by simp) (fun K hK => mkB 0 m _ HA.out.2.2.1 HA.out.1 (Int.le_trans HA.out.2.1 (by decide)) H.out (fun A0 c0 w2 H => hK.out _ _ (H.out.hasI []) (fun _ => s9 A0 c0 A3 c3 w2 H)) Try.underlying24 zinfoB) ?_
      refine AllReadyL.cons rfl (by simp) (fun K hK => mkB 0 m _ HA.out.2.2.1 HA.out.1 (Int.le_trans HA.out.2.1 (by decide)) H.out (fun A1 c1 w2 H => hK.out _ _ (H.out.hasI []) (fun _ => s10 A1 c1 A3 c3 w2 H)) Try.underlying24 zinfoB) ?_
      refine AllReadyL.cons rfl (by simp) (fun K hK => mkI 0 m _ HA.out.2.2.2 HA.out.1 (Int.le_trans HA.out.2.1 (by decide)) H.out (fun A2 c2 w2 H => hK.out _ _ (H.out.hasI []) (fun _ => s12 A2 c2 A3 c3 w2 H)) Try.underlying25 zinfoI) ?_
      exact AllReadyL.nil
    have s0 : ∀ (w1 : World), Aside0 (Own w w1 [bx g #[.slice none 0 0, .slice none 0 0, .slice none 0 0, .slice none 0 0] 27]) → G 6 #[true, false, true, false, true, false, true, false, false, false] (f u7 u9 u11 u13) w1 := by
      intro w1 H
      subst hG hf
      refine rdy [1, 3, 5, 7] ?_
      refine AllReadyL.cons rfl (by simp) (fun K hK => mkB 0 m _ HA.out.2.2.1 HA.out.1 (Int.le_trans HA.out.2.1 (by decide)) H.out (fun A0 c0 w2 H => hK.out _ _ (H.out.hasI []) (fun _ => s1 A0 c0 w2 H)) Try.underlying24 zinfoB) ?_
      refine AllReadyL.cons rfl (by simp) (fun K hK => mkB 0 m _ HA.out.2.2.1 HA.out.1 (Int.le_trans HA.out.2.1 (by decide)) H.out (fun A1 c1 w2 H => hK.out _ _ (H.out.hasI []) (fun _ => s2 A1 c1 w2 H)) Try.underlying24 zinfoB) ?_
      refine AllReadyL.cons rfl (by simp) (fun K hK => mkI 0 m _ HA.out.2.2.2 HA.out.1 (Int.le_trans HA.out.2.1 (by decide)) H.out (fun A2 c2 w2 H => hK.out _ _ (H.out.hasI []) (fun _ => s4 A2 c2 w2 H)) Try.underlying25 zinfoI) ?_
      refine AllReadyL.cons rfl (by simp) (fun K hK => mkI 0 m _ HA.out.2.2.2 HA.out.1 (Int.le_trans HA.out.2.1 (by decide)) H.out (fun A3 c3 w2 H => hK.out _ _ (H.out.hasI []) (fun _ => s8 A3 c3 w2 H)) Try.underlying25 zinfoI) ?_
      exact AllReadyL.nil
    subst hf
    exact s0 w_ H
end Go.Proofs.Ytiiodfagedcofaa.G
