/- Draws: a drawn device with a drawn question. No condition. -/
import Derived.Test.YtiiodfagedcofaaGDraw5
import Derived.Test.YtiiodfagedcofaaWTab
namespace Go.Proofs.Ytiiodfagedcofaa.G
open Go.Proofs.Ytiiodfagedcofaa.K Go Go.RowKit Go.Proofs.YtiiodfagedcofaaW.PrintWords Go.Proofs.YtiiodfagedcofaaW.PrintLast Go.Proofs.YtiiodfagedcofaaW.PrintMore Go.Proofs.Ytiiodfagedcofaa.PlainC
set_option linter.unusedVariables false
set_option linter.unusedSimpArgs false
/-- A device and a question, their rows a call's own. -/
def DrawPost (w : World) (e : Ending) (w' : World) : Prop := ∃ (A0 A1 A2 A3 : Option Addr) (c0 c1 c2 c3 : Nat) (l0 l1 : List Bool) (l2 l3 : List Int) (k a n wat : Int) (A4 A5 : Option Addr) (c4 c5 : Nat) (ws : List Int) (bs : List Bool), e = .returned (.tuple #[.agg #[.slice A0 l0.length c0, .slice A1 l1.length c1, .slice A2 l2.length c2, .slice A3 l3.length c3], .agg #[.int .i64 k, .int .i64 a, .int .i64 n, .slice A4 ws.length c4, .slice A5 bs.length c5, .int .i64 wat]]) ∧ (l0.length ≤ 100 ∧ l1.length ≤ 100 ∧ l2.length ≤ 100 ∧ l3.length ≤ 100) ∧ ws.length ≤ 101 ∧ bs.length ≤ 101 ∧ Own w w' [rb (.slice A0 l0.length c0) l0, rb (.slice A1 l1.length c1) l1, ri (.slice A2 l2.length c2) l2, ri (.slice A3 l3.length c3) l3, ri (.slice A4 ws.length c4) ws, rb (.slice A5 bs.length c5) bs]

set_option maxHeartbeats 8000000 in
set_option maxRecDepth 100000 in
theorem DrawServe_own {A : Option Addr} {c : Nat} {l : List Int} (w : World) (hC : Kd.C (Kd.int .u8) w A l.length l) (hc : l.length ≤ c) : Calls Try.prog 13 #[.slice A l.length c] w (DrawPost w) := by
  have HC := aM hC
  have Hc := aM hc
  have H := aM (Own.nil w)
  clear hC hc
  have hu := Try.underlying27
  have hq := Try.underlying41
  go_enter Try.func13, Try.ntmps13
  go_upto_if 17 with (first | ((with_reducible refine nD 2 ?_); refine bxO 2 H.out #[.slice none 0 0, .slice none 0 0, .slice none 0 0, .slice none 0 0] 27 ?_; clear H; intro g2 _ H) | ((with_reducible refine nD 3 ?_); refine bxO 3 H.out #[.int .i64 0, .int .i64 0, .int .i64 0, .slice none 0 0, .slice none 0 0, .int .i64 0] 41 ?_; clear H; intro g3 _ H) | ((with_reducible refine nD 8 ?_); refine gC 8 Try.func23 (l1New_own _ (H.out.arg HC.out) Hc.out) ?_; rintro e w_ ⟨g, rfl, hO⟩; refine ⟨_, rfl, ?_⟩; replace H := aM (H.out.app hO); clear hO) | ((with_reducible refine nD 10 ?_); refine gC 10 Try.func32 (l5DrawAny_own (j := 0) H.out rfl HC.out Hc.out) ?_; rintro e w_ ⟨A0, A1, A2, A3, c0, c1, c2, c3, l0, l1, l2, l3, rfl, m0, m1, m2, m3, hO⟩; refine ⟨_, rfl, ?_⟩; clear H; have H := aM hO; clear hO; have HM := aM (And.intro m0 (And.intro m1 (And.intro m2 m3))); clear m0 m1 m2 m3) | ((with_reducible refine nD 5 ?_); refine bxO 5 H.out #[.slice none 0 0, .slice none 0 0, .slice none 0 0, .slice none 0 0] 27 ?_; clear H; intro g5 _ H) | ((with_reducible refine nS 5 ?_); refine stO 0 H.out ?_; clear H; intro _ H) | ((with_reducible refine nD 13 ?_); refine litIL 13 [0, 0, 0, 10, 60] H.out ?_; clear H; intro Al1 cl1 _ H) | ((with_reducible refine nD 14 ?_); refine gC 14 Try.func33 (l1Int_own (j := 6) H.out rfl HC.out Hc.out 0 rfl (by simp)) ?_; rintro e w_ ⟨x, rfl, hx, hO⟩; refine ⟨_, rfl, ?_⟩; clear H; have H := aM hO; clear hO; have Hx := aM hx; clear hx) | ((with_reducible refine nD 15 ?_); refine gC 15 Try.func27 (l3Draw_own (j := 6) H.out rfl HC.out Hc.out x) ?_; rintro e w_ ⟨k, a, n, wat, A4, A5, c4, c5, ws, bs, rfl, m4, m5, hO⟩; refine ⟨_, rfl, ?_⟩; clear H; have H := aM hO; clear hO; have HQ := aM (And.intro m4 m5); clear m4 m5) | ((with_reducible refine nD 6 ?_); refine bxO 6 H.out #[.int .i64 0, .int .i64 0, .int .i64 0, .slice none 0 0, .slice none 0 0, .int .i64 0] 41 ?_; clear H; intro g6 _ H) | ((with_reducible refine nS 6 ?_); refine stO 0 H.out ?_; clear H; intro _ H) | ((with_reducible refine nD 17 ?_); refine gC 17 Try.func34 (l1Once_own (j := 9) H.out rfl HC.out Hc.out 10) ?_; rintro e w_ ⟨b, rfl, hO⟩; refine ⟨_, rfl, ?_⟩; clear H; have H := aM hO; clear hO))
  cases b with
  | false =>
    go_wp2
    refine rgI [4, 0] 4 H.out ?_
    clear H
    intro _ H
    have HL := aM (H.out.hasI [4, 0])
    refine lO 0 21 0 hu HL.out ?_
    refine lO 1 22 1 hq HL.out ?_
    clear HL
    refine stS 2 11 [4, 0] H.out ?_
    clear H
    intro _ H
    refine stS 3 10 [4, 0] H.out ?_
    clear H
    intro _ H
    refine done_ (by kernel_rfl) ?_
    go_wp2
    refine bodyPost_ret (results_cc rfl _ _ g2 g3 27 41 _ _ (0, 0) (0, 0) _ _ rfl (H.out.b 11) hu rfl (by kernel_rfl) rfl (H.out.b 10) hq rfl (by kernel_rfl)) rfl ?_
    have hm := HM.out
    have hq2 := HQ.out
    exact ⟨_, _, _, _, _, _, _, _, _, _, _, _, _, _, _, _, _, _, _, _, _, _, rfl, by omega, by omega, by omega, (H.out.sub (L' := [_, _, _, _, _, _]) (by repeat (first | exact List.nil_sublist _ | apply List.Sublist.cons_cons | apply List.Sublist.cons))).perm (List.perm_append_comm (l₁ := [_, _]) (l₂ := [_, _, _, _]))⟩
  | true =>
    go_wp2_with (first | ((with_reducible refine nD 19 ?_); refine ldO 19 0 H.out hq ?_) | ((with_reducible refine nD 20 ?_); refine gC 20 Try.func35 (l3Bend_own (j := 9) H.out rfl HC.out Hc.out 1 2 rfl rfl HQ.out.1 HQ.out.2 (by decide)) ?_; rintro e w_ ⟨k', a', n', wat', A4', A5', c4', c5', ws', bs', rfl, m4, m5, hO⟩; refine ⟨_, rfl, ?_⟩; clear H HQ; have H := aM hO; clear hO; have HQ := aM (And.intro m4 m5); clear m4 m5) | ((with_reducible refine nS 6 ?_); refine stO 0 H.out ?_; clear H; intro _ H))
    refine rgI [4, 0] 4 H.out ?_
    clear H
    intro _ H
    have HL := aM (H.out.hasI [4, 0])
    refine lO 0 21 0 hu HL.out ?_
    refine lO 1 22 1 hq HL.out ?_
    clear HL
    refine stS 2 11 [4, 0] H.out ?_
    clear H
    intro _ H
    refine stS 3 10 [4, 0] H.out ?_
    clear H
    intro _ H
    refine done_ (by kernel_rfl) ?_
    go_wp2
    refine bodyPost_ret (results_cc rfl _ _ g2 g3 27 41 _ _ (0, 0) (0, 0) _ _ rfl (H.out.b 11) hu rfl (by kernel_rfl) rfl (H.out.b 10) hq rfl (by kernel_rfl)) rfl ?_
    have hm := HM.out
    have hq2 := HQ.out
    exact ⟨_, _, _, _, _, _, _, _, _, _, _, _, _, _, _, _, _, _, _, _, _, _, rfl, by omega, by omega, by omega, (H.out.sub (L' := [_, _, _, _, _, _]) (by repeat (first | exact List.nil_sublist _ | apply List.Sublist.cons_cons | apply List.Sublist.cons))).perm (List.perm_append_comm (l₁ := [_, _]) (l₂ := [_, _, _, _]))⟩

end Go.Proofs.Ytiiodfagedcofaa.G
