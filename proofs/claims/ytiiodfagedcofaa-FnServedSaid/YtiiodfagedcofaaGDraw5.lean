/- Draws: drawn devices, a drawn device with a drawn question. No condition. -/
import Derived.Test.YtiiodfagedcofaaGDraw3
import Derived.Test.YtiiodfagedcofaaGNewS
namespace Go.Proofs.Ytiiodfagedcofaa.G
open Go.Proofs.Ytiiodfagedcofaa.K Go Go.RowKit Go.Proofs.YtiiodfagedcofaaW.PrintWords Go.Proofs.YtiiodfagedcofaaW.PrintLast Go.Proofs.YtiiodfagedcofaaW.PrintMore Go.Proofs.Ytiiodfagedcofaa.PlainC
set_option linter.unusedVariables false
set_option linter.unusedSimpArgs false
section
variable {w0 w : World} {L : List It} {j g c : Nat} {A : Option Addr} {l : List Int}
/-- A device, its rows in front of what is one's own. -/
def DevPost (w0 : World) (L : List It) (e : Ending) (w' : World) : Prop := ∃ (A0 A1 A2 A3 : Option Addr) (c0 c1 c2 c3 : Nat) (l0 l1 : List Bool) (l2 l3 : List Int), e = .returned (.agg #[.slice A0 l0.length c0, .slice A1 l1.length c1, .slice A2 l2.length c2, .slice A3 l3.length c3]) ∧ l0.length ≤ 66 ∧ l1.length ≤ 66 ∧ l2.length ≤ 66 ∧ l3.length ≤ 66 ∧ Own w0 w' (rb (.slice A0 l0.length c0) l0 :: rb (.slice A1 l1.length c1) l1 :: ri (.slice A2 l2.length c2) l2 :: ri (.slice A3 l3.length c3) l3 :: L)
/-- A row with something in it has its block. -/
theorem rowB {w : World} {b : Nat} {ok : Nat → Prop} {A : Option Addr} {n c : Nat} {xs : List Bool} (h : Kd.R Kd.bool 4 w b ok (.slice A n c) xs) (h0 : 0 < xs.length) : ∃ q, A = some ⟨q, 0, none⟩ := by
  obtain ⟨q, cap, he, _⟩ := Kd.R_form h h0
  injection he with h1
  exact ⟨q, h1⟩
theorem rowI {w : World} {b : Nat} {ok : Nat → Prop} {A : Option Addr} {n c : Nat} {xs : List Int} (h : Kd.R (Kd.int .i64) 3 w b ok (.slice A n c) xs) (h0 : 0 < xs.length) : ∃ q, A = some ⟨q, 0, none⟩ := by
  obtain ⟨q, cap, he, _⟩ := Kd.R_form h h0
  injection he with h1
  exact ⟨q, h1⟩

set_option maxHeartbeats 8000000 in
set_option maxRecDepth 100000 in
theorem l5Draw_own (H0 : Own w0 w L) (hj : L[j]? = some (cur g A c l)) (hC : Kd.C (Kd.int .u8) w0 A l.length l) (hc : l.length ≤ c) : Calls Try.prog 24 #[.pointer (some ⟨g, 0, none⟩)] w (DevPost w0 L) := by
  have HJ := aM hj
  have HC := aM hC
  have Hc := aM hc
  have H := aM H0
  clear hj hC hc H0
  have hu := Try.underlying27
  go_enter Try.func24, Try.ntmps24
  go_wp2_with (first | ((with_reducible refine nD 2 ?_); refine bxO 2 H.out #[.slice none 0 0, .slice none 0 0, .slice none 0 0, .slice none 0 0] 27 ?_; clear H; intro g2 _ H) | ((with_reducible refine nD 6 ?_); refine litIL 6 [20, 20, 12, 40, 5, 64] H.out ?_; clear H; intro Al1 cl1 _ H) | ((with_reducible refine nD 7 ?_); refine gC 7 Try.func33 (l1Int_own (j := j + 2) H.out (by simpa using HJ.out) HC.out Hc.out 0 rfl (by simp)) ?_; rintro e w_ ⟨n, rfl, hn, hO⟩; refine ⟨_, rfl, ?_⟩; clear H; have H := aM hO; clear hO; have Hn := aM hn; clear hn) | ((with_reducible refine nD 8 ?_); refine gC 8 Try.func52 (spec_DeviceNew.own n _) ?_; rintro e w_ ⟨A0, A1, A2, A3, c0, c1, c2, c3, rfl, hO⟩; refine ⟨_, rfl, ?_⟩; replace H := aM (H.out.app hO); clear hO) | ((with_reducible refine nD 3 ?_); refine bxO 3 H.out #[.slice none 0 0, .slice none 0 0, .slice none 0 0, .slice none 0 0] 27 ?_; clear H; intro g3 _ H) | ((with_reducible refine nS 3 ?_); refine stO 0 H.out ?_; clear H; intro _ H))
  obtain ⟨m, hm, hm9⟩ : ∃ m, szOf n = m ∧ m ≤ 64 := ⟨_, rfl, szOf_le n⟩
  have Hm := aM hm9
  have z0 : (zb n).length = m := by rw [← hm]; simp [zb]
  have z1 : (zi n).length = m := by rw [← hm]; simp [zi]
  have Z := aM (And.intro z0 z1)
  rw [z0, z1] at H ⊢
  clear hm hm9 z0 z1
  go_loopg [4] (m + 1) (fun kq v4 w' => ∃ (i : Nat) (l0 l1 : List Bool) (l2 l3 : List Int), v4 = .int .i64 (i : Int) ∧ Aside0 (i ≤ m ∧ kq + i = m + 1 ∧ l0.length = m ∧ l1.length = m ∧ l2.length = m ∧ l3.length = m) ∧ Aside0 (Own w0 w' (bx g3 #[.slice A0 m c0, .slice A1 m c1, .slice A2 m c2, .slice A3 m c3] 27 :: rb (.slice A0 m c0) l0 :: rb (.slice A1 m c1) l1 :: ri (.slice A2 m c2) l2 :: ri (.slice A3 m c3) l3 :: ri (.slice Al1 ([20, 20, 12, 40, 5, 64] : List Int).length cl1) [20, 20, 12, 40, 5, 64] :: bx g2 #[.slice none 0 0, .slice none 0 0, .slice none 0 0, .slice none 0 0] 27 :: L)))
  case atStart => exact ⟨0, zb n, zb n, zi n, zi n, rfl, ⟨by have := Z.out; omega⟩, H⟩
  case round =>
    clear H
    obtain ⟨i, l0, l1, l2, l3, rfl, HI, H⟩ := hrel
    obtain ⟨z0, y0, z1, y1, z2, y2, z3, y3⟩ := bk4 (H.out.b 0)
    by_cases hlt : i < m
    · have d1 : decide ((i : Int) < (m : Int)) = true := decide_eq_true (by omega)
      have i0 : 0 ≤ (i : Int) := by omega
      have i1 : (i : Int) < (m : Int) := by omega
      have hw : IntKind.i64.wrap ((i : Int) + 1) = ((i + 1 : Nat) : Int) := (by have := Hm.out; rw [i64wrap, w64 (by omega) (by omega)]; omega)
      go_wp2
      obtain ⟨q1, e1⟩ := rowB (H.out.get 1) (by have := HI.out; omega)
      subst e1
      refine rgI [0] 7 H.out ?_
      clear H
      intro _ H
      have HL := aM (H.out.hasI [0])
      refine pO 0 16 ?_
      refine fO 1 17 0 0 HL.out ?_
      refine pO 2 18 ?_
      refine pO 3 19 ?_
      clear HL
      refine clS 4 20 Try.func34 (l1Once_own (j := j + 7) H.out (by simpa using HJ.out) HC.out Hc.out 2) ?_
      rintro e w_ ⟨x1, rfl, hO⟩
      refine ⟨_, rfl, hO.hasI [0], nm ?_⟩
      clear H
      have H := aM hO
      clear hO
      refine pO 5 21 ?_
      refine stEB 6 1 i x1 [0] H.out rfl (by have := HI.out; omega) (by have := HI.out; omega) ?_ rfl
      clear H
      intro _ H
      refine done_ (by kernel_rfl) ?_
      go_wp2
      obtain ⟨q2, e2⟩ := rowB (H.out.get 2) (by have := HI.out; omega)
      subst e2
      refine rgI [0] 7 H.out ?_
      clear H
      intro _ H
      have HL := aM (H.out.hasI [0])
      refine pO 0 22 ?_
      refine fO 1 23 0 1 HL.out ?_
      refine pO 2 24 ?_
      refine pO 3 25 ?_
      clear HL
      refine clS 4 26 Try.func34 (l1Once_own (j := j + 7) H.out (by simpa using HJ.out) HC.out Hc.out 2) ?_
      rintro e w_ ⟨x2, rfl, hO⟩
      refine ⟨_, rfl, hO.hasI [0], nm ?_⟩
      clear H
      have H := aM hO
      clear hO
      refine pO 5 27 ?_
      refine stEB 6 2 i x2 [0] H.out rfl (by have := HI.out; omega) (by have := HI.out; omega) ?_ rfl
      clear H
      intro _ H
      refine done_ (by kernel_rfl) ?_
      go_wp2
      obtain ⟨q3, e3⟩ := rowI (H.out.get 3) (by have := HI.out; omega)
      subst e3
      refine rgI [0] 7 H.out ?_
      clear H
      intro _ H
      have HL := aM (H.out.hasI [0])
      refine pO 0 28 ?_
      refine fO 1 29 0 2 HL.out ?_
      refine pO 2 30 ?_
      refine pO 3 31 ?_
      clear HL
      refine clS 4 32 Try.func25 (l1Below_own (j := j + 7) H.out (by simpa using HJ.out) HC.out Hc.out 65536) ?_
      rintro e w_ ⟨x3, rfl, _, _, hO⟩
      refine ⟨_, rfl, hO.hasI [0], nm ?_⟩
      clear H
      have H := aM hO
      clear hO
      refine pO 5 33 ?_
      refine stEI 6 3 i x3 [0] H.out rfl (by have := HI.out; omega) (by have := HI.out; omega) ?_ rfl
      clear H
      intro _ H
      refine done_ (by kernel_rfl) ?_
      go_wp2
      obtain ⟨q4, e4⟩ := rowI (H.out.get 4) (by have := HI.out; omega)
      subst e4
      refine rgI [0] 7 H.out ?_
      clear H
      intro _ H
      have HL := aM (H.out.hasI [0])
      refine pO 0 34 ?_
      refine fO 1 35 0 3 HL.out ?_
      refine pO 2 36 ?_
      refine pO 3 37 ?_
      clear HL
      refine clS 4 38 Try.func25 (l1Below_own (j := j + 7) H.out (by simpa using HJ.out) HC.out Hc.out 65536) ?_
      rintro e w_ ⟨x4, rfl, _, _, hO⟩
      refine ⟨_, rfl, hO.hasI [0], nm ?_⟩
      clear H
      have H := aM hO
      clear hO
      refine pO 5 39 ?_
      refine stEI 6 4 i x4 [0] H.out rfl (by have := HI.out; omega) (by have := HI.out; omega) ?_ rfl
      clear H
      intro _ H
      refine done_ (by kernel_rfl) ?_
      go_wp2
      go_roundg (gk - 1)
      case measure => have := HI.out; omega
      case rel => exact ⟨i + 1, l0.set i x1, l1.set i x2, l2.set i x3, l3.set i x4, rfl, ⟨by have := HI.out; simp only [List.length_set]; omega⟩, H⟩
    · have d1 : decide ((i : Int) < (m : Int)) = false := decide_eq_false (by omega)
      go_wp2_with (first | ((with_reducible refine nD 40 ?_); refine ldO 40 0 H.out hu ?_) | ((with_reducible refine nS 2 ?_); refine stO 6 H.out ?_; clear H; intro _ H))
      refine bodyPost_ret (results_cell_row rfl _ _ g2 27 _ (0, 0) _ rfl (H.out.b 6) hu rfl (by kernel_rfl)) rfl ?_
      have hI := HI.out
      have h9 := Hm.out
      exact ⟨A0, A1, A2, A3, c0, c1, c2, c3, l0, l1, l2, l3, by rw [hI.2.2.1, hI.2.2.2.1, hI.2.2.2.2.1, hI.2.2.2.2.2], by omega, by omega, by omega, by omega, by rw [hI.2.2.1, hI.2.2.2.1, hI.2.2.2.2.1, hI.2.2.2.2.2]; exact (H.out.tail 1).keep4 2⟩

/-- A device, its rows in front of what is one's own: l5Draw's, one of them somewhat longer. -/
def AnyPost (w0 : World) (L : List It) (e : Ending) (w' : World) : Prop := ∃ (A0 A1 A2 A3 : Option Addr) (c0 c1 c2 c3 : Nat) (l0 l1 : List Bool) (l2 l3 : List Int), e = .returned (.agg #[.slice A0 l0.length c0, .slice A1 l1.length c1, .slice A2 l2.length c2, .slice A3 l3.length c3]) ∧ l0.length ≤ 100 ∧ l1.length ≤ 100 ∧ l2.length ≤ 100 ∧ l3.length ≤ 100 ∧ Own w0 w' (rb (.slice A0 l0.length c0) l0 :: rb (.slice A1 l1.length c1) l1 :: ri (.slice A2 l2.length c2) l2 :: ri (.slice A3 l3.length c3) l3 :: L)
set_option maxHeartbeats 8000000 in
set_option maxRecDepth 100000 in
theorem l5DrawAny_own (H0 : Own w0 w L) (hj : L[j]? = some (cur g A c l)) (hC : Kd.C (Kd.int .u8) w0 A l.length l) (hc : l.length ≤ c) : Calls Try.prog 32 #[.pointer (some ⟨g, 0, none⟩)] w (AnyPost w0 L) := by
  have HJ := aM hj
  have HC := aM hC
  have Hc := aM hc
  have H := aM H0
  clear hj hC hc H0
  have hu := Try.underlying27
  go_enter Try.func32, Try.ntmps32
  go_upto_if 8 with (first | ((with_reducible refine nD 2 ?_); refine bxO 2 H.out #[.slice none 0 0, .slice none 0 0, .slice none 0 0, .slice none 0 0] 27 ?_; clear H; intro g2 _ H) | ((with_reducible refine nD 5 ?_); refine gC 5 Try.func24 (l5Draw_own (j := j + 1) H.out (by simpa using HJ.out) HC.out Hc.out) ?_; rintro e w_ ⟨A0, A1, A2, A3, c0, c1, c2, c3, l0, l1, l2, l3, rfl, m0, m1, m2, m3, hO⟩; refine ⟨_, rfl, ?_⟩; clear H; have H := aM hO; clear hO; have HM := aM (And.intro m0 (And.intro m1 (And.intro m2 m3))); clear m0 m1 m2 m3) | ((with_reducible refine nD 3 ?_); refine bxO 3 H.out #[.slice none 0 0, .slice none 0 0, .slice none 0 0, .slice none 0 0] 27 ?_; clear H; intro g3 _ H) | ((with_reducible refine nS 3 ?_); refine stO 0 H.out ?_; clear H; intro _ H) | ((with_reducible refine nD 7 ?_); refine gC 7 Try.func25 (l1Below_own (j := j + 6) H.out (by simpa using HJ.out) HC.out Hc.out 12) ?_; rintro e w_ ⟨x, rfl, x0, x1, hO⟩; refine ⟨_, rfl, ?_⟩; clear H; have H := aM hO; clear hO; have Hx := aM (And.intro x0 (x1 (by omega))); clear x0 x1))
  have hk : x = 0 ∨ x = 1 ∨ (x ≠ 0 ∧ x ≠ 1) := by omega
  rcases hk with h | h | h
  · have e0 : (x == 0) = true := by subst h; rfl
    clear h
    rw [e0]
    go_wp2
    refine rgD [8] [0] 9 H.out ?_
    clear H
    intro _ H
    have HL := aM (H.out.hasI [0])
    refine pO 0 10 ?_
    refine fO 1 11 0 2 HL.out ?_
    refine pO 2 12 ?_
    clear HL
    refine oneO 3 (some 13) (fun K hK => ?_)
    refine litIS 13 [65536, -1, 7] H.out (fun A5 c5 w1 H1 => hK.out _ _ (H1.out.hasI [1]) (fun _ => nm ?_)) (by simp)
    clear H hK K
    have H := H1
    clear H1
    refine clS 4 14 Try.func33 (l1Int_own (j := j + 7) H.out (by simpa using HJ.out) HC.out Hc.out 0 rfl (by simp)) ?_
    rintro e w_ ⟨y, rfl, _, hO⟩
    refine ⟨_, rfl, hO.hasI [1], nm ?_⟩
    clear H
    have H := aM hO
    clear hO
    refine oneO 5 (some 15) (fun K hK => ?_)
    refine litIS 15 [y] H.out (fun A6 c6 w1 H1 => hK.out _ _ (H1.out.hasI [2]) (fun _ => nm ?_)) (by simp)
    clear H hK K
    have H := H1
    clear H1
    refine oneO 6 (some 16) (fun K hK => ?_)
    refine apIS 5 16 H.out rfl (H.out.ci 0) (fun A7 c7 w1 H1 => hK.out _ _ (H1.out.hasI [2]) (fun _ => nm ?_)) (by have := HM.out; simp; omega) rfl
    clear H hK K
    have H := H1
    clear H1
    refine pO 7 17 ?_
    refine scL 8 2 2 H.out ?_
    clear H
    intro _ H
    refine done_ (by kernel_rfl) ?_
    go_wp2_with (first | ((with_reducible refine nD 25 ?_); refine ldO 25 2 H.out hu ?_) | ((with_reducible refine nS 2 ?_); refine stO 7 H.out ?_; clear H; intro _ H))
    refine bodyPost_ret (results_cell_row rfl _ _ g2 27 _ (0, 0) _ rfl (H.out.b 7) hu rfl (by kernel_rfl)) rfl ?_
    exact ⟨A0, A1, A7, A3, c0, c1, c7, c3, l0, l1, (l2 ++ [y]), l3, by simp, by have := HM.out; (try simp only [List.length_append, List.length_singleton, List.length_replicate]); (try have := Hy.out); omega, by have := HM.out; omega, by have := HM.out; (try simp only [List.length_append, List.length_singleton]); omega, by have := HM.out; omega, (H.out.tail 3).keep4 1⟩
  · have e0 : (x == 0) = false := by subst h; rfl
    have e1 : (x == 1) = true := by subst h; rfl
    clear h
    rw [e0]
    go_wp2_with (first | ((with_reducible refine nD 21 ?_); refine gC 21 Try.func25 (l1Below_own (j := j + 6) H.out (by simpa using HJ.out) HC.out Hc.out 2) ?_; rintro e w_ ⟨y, rfl, y0, y1, hO⟩; refine ⟨_, rfl, ?_⟩; clear H; have H := aM hO; clear hO; have Hy := aM (And.intro y0 (y1 (by omega))); clear y0 y1; have hw : IntKind.i64.wrap (64 + y) = 64 + y := (by have := Hy.out; rw [i64wrap, w64 (by omega) (by omega)])) | ((with_reducible refine nD 23 ?_); refine mkBL 23 (64 + y) _ rfl (by have := Hy.out; omega) (by have := Hy.out; omega) H.out ?_; clear H; intro A5 c5 _ H) | ((with_reducible refine nS 24 ?_); refine scO 1 0 H.out ?_; clear H; intro _ H) | ((with_reducible refine nD 25 ?_); refine ldO 25 1 H.out hu ?_) | ((with_reducible refine nS 2 ?_); refine stO 6 H.out ?_; clear H; intro _ H))
    refine bodyPost_ret (results_cell_row rfl _ _ g2 27 _ (0, 0) _ rfl (H.out.b 6) hu rfl (by kernel_rfl)) rfl ?_
    exact ⟨A5, A1, A2, A3, c5, c1, c2, c3, (List.replicate (64 + y).toNat false), l1, l2, l3, by simp, by have := HM.out; (try simp only [List.length_append, List.length_singleton, List.length_replicate]); (try have := Hy.out); omega, by have := HM.out; omega, by have := HM.out; (try simp only [List.length_append, List.length_singleton]); omega, by have := HM.out; omega, ((H.out.swap 1).tail 1).keep4 1⟩
  · have e0 : (x == 0) = false := by simp [h.1]
    have e1 : (x == 1) = false := by simp [h.2]
    clear h
    rw [e0]
    go_wp2_with (first | ((with_reducible refine nD 25 ?_); refine ldO 25 0 H.out hu ?_) | ((with_reducible refine nS 2 ?_); refine stO 5 H.out ?_; clear H; intro _ H))
    refine bodyPost_ret (results_cell_row rfl _ _ g2 27 _ (0, 0) _ rfl (H.out.b 5) hu rfl (by kernel_rfl)) rfl ?_
    exact ⟨A0, A1, A2, A3, c0, c1, c2, c3, l0, l1, l2, l3, by simp, by have := HM.out; (try simp only [List.length_append, List.length_singleton, List.length_replicate]); (try have := Hy.out); omega, by have := HM.out; omega, by have := HM.out; (try simp only [List.length_append, List.length_singleton]); omega, by have := HM.out; omega, (H.out.tail 1).keep4 1⟩
end
end Go.Proofs.Ytiiodfagedcofaa.G
