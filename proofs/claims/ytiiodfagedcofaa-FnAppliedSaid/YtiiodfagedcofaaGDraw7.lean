/- Draws: drawn devices, a drawn device with a drawn question. No condition. -/
import Derived.Test.YtiiodfagedcofaaGDraw3
import Derived.Test.YtiiodfagedcofaaGAllWords
import Derived.Test.YtiiodfagedcofaaGRowT
import Derived.Test.YtiiodfagedcofaaGStru
import Derived.Test.YtiiodfagedcofaaGNewS
namespace Go.Proofs.Ytiiodfagedcofaa.G
open Go.Proofs.Ytiiodfagedcofaa.K Go Go.RowKit Go.Proofs.YtiiodfagedcofaaW.PrintWords Go.Proofs.YtiiodfagedcofaaW.PrintLast Go.Proofs.YtiiodfagedcofaaW.PrintMore Go.Proofs.Ytiiodfagedcofaa.PlainC
set_option linter.unusedVariables false
set_option linter.unusedSimpArgs false
theorem set_w {xs : List Int} {p : Nat} {y : Int} (h : xs.all wordB = true) (h0 : 0 ≤ y) (h1 : y < 65536) : (xs.set p y).all wordB = true := by
  rw [List.all_eq_true] at h ⊢
  intro z hz
  rcases List.mem_or_eq_of_mem_set hz with h3 | h3
  · exact h z h3
  · subst h3
    exact wordB_yes h0 (by omega)
theorem zi_words (n : Int) : (zi n).all wordB = true := by
  rw [List.all_eq_true]
  intro y hy
  rw [List.eq_of_mem_replicate hy]
  rfl
section
variable {w0 w : World} {L : List It} {j g c : Nat} {A : Option Addr} {l : List Int}
/-- A device, its rows in front of what is one's own. -/
def DevPost (w0 : World) (L : List It) (e : Ending) (w' : World) : Prop := ∃ (A0 A1 A2 A3 : Option Addr) (c0 c1 c2 c3 : Nat) (l0 l1 : List Bool) (l2 l3 : List Int), e = .returned (.agg #[.slice A0 l0.length c0, .slice A1 l1.length c1, .slice A2 l2.length c2, .slice A3 l3.length c3]) ∧ l0.length ≤ 64 ∧ l1.length ≤ 64 ∧ l2.length ≤ 64 ∧ (l3.length ≤ 64 ∧ l2.all wordB = true ∧ l3.all wordB = true) ∧ Own w0 w' (rb (.slice A0 l0.length c0) l0 :: rb (.slice A1 l1.length c1) l1 :: ri (.slice A2 l2.length c2) l2 :: ri (.slice A3 l3.length c3) l3 :: L)
/-- A row with something in it has its block. -/
theorem rowB {w : World} {b : Nat} {ok : Nat → Prop} {A : Option Addr} {n c : Nat} {xs : List Bool} (h : Kd.R Kd.bool 4 w b ok (.slice A n c) xs) (h0 : 0 < xs.length) : ∃ q, A = some ⟨q, 0, none⟩ := by
  obtain ⟨q, cap, he, _⟩ := Kd.R_form h h0
  injection he with h1
  exact ⟨q, h1⟩
theorem rowI {w : World} {b : Nat} {ok : Nat → Prop} {A : Option Addr} {n c : Nat} {xs : List Int} (h : Kd.R (Kd.int .i64) 3 w b ok (.slice A n c) xs) (h0 : 0 < xs.length) : ∃ q, A = some ⟨q, 0, none⟩ := by
  obtain ⟨q, cap, he, _⟩ := Kd.R_form h h0
  injection he with h1
  exact ⟨q, h1⟩

set_option maxHeartbeats 8000000 in
set_option maxRecDepth 100000 in
theorem l5Draw_own (H0 : Own w0 w L) (hj : L[j]? = some (cur g A c l)) (hC : Kd.C (Kd.int .u8) w0 A l.length l) (hc : l.length ≤ c) : Calls Try.prog 24 #[.pointer (some ⟨g, 0, none⟩)] w (DevPost w0 L) := by
  have HJ := aM hj
  have HC := aM hC
  have Hc := aM hc
  have H := aM H0
  clear hj hC hc H0
  have hu := Try.underlying27
  go_enter Try.func24, Try.ntmps24
  go_wp2_with (first | ((with_reducible refine nD 2 ?_); refine bxO 2 H.out #[.slice none 0 0, .slice none 0 0, .slice none 0 0, .slice none 0 0] 27 ?_; clear H; intro g2 _ H) | ((with_reducible refine nD 6 ?_); refine litIL 6 [20, 20, 12, 40, 5, 64] H.out ?_; clear H; intro Al1 cl1 _ H) | ((with_reducible refine nD 7 ?_); refine gC 7 Try.func33 (l1Int_own (j := j + 2) H.out (by simpa using HJ.out) HC.out Hc.out 0 rfl (by simp)) ?_; rintro e w_ ⟨n, rfl, hn, hO⟩; refine ⟨_, rfl, ?_⟩; clear H; have H := aM hO; clear hO; have Hn := aM hn; clear hn) | ((with_reducible refine nD 8 ?_); refine gC 8 Try.func52 (spec_DeviceNew.own n _) ?_; rintro e w_ ⟨A0, A1, A2, A3, c0, c1, c2, c3, rfl, hO⟩; refine ⟨_, rfl, ?_⟩; replace H := aM (H.out.app hO); clear hO) | ((with_reducible refine nD 3 ?_); refine bxO 3 H.out #[.slice none 0 0, .slice none 0 0, .slice none 0 0, .slice none 0 0] 27 ?_; clear H; intro g3 _ H) | ((with_reducible refine nS 3 ?_); refine stO 0 H.out ?_; clear H; intro _ H))
  obtain ⟨m, hm, hm9⟩ : ∃ m, szOf n = m ∧ m ≤ 64 := ⟨_, rfl, szOf_le n⟩
  have Hm := aM hm9
  have z0 : (zb n).length = m := by rw [← hm]; simp [zb]
  have z1 : (zi n).length = m := by rw [← hm]; simp [zi]
  have Z := aM (And.intro z0 z1)
  rw [z0, z1] at H ⊢
  clear hm hm9 z0 z1
  go_loopg [4] (m + 1) (fun kq v4 w' => ∃ (i : Nat) (l0 l1 : List Bool) (l2 l3 : List Int), v4 = .int .i64 (i : Int) ∧ Aside0 (i ≤ m ∧ kq + i = m + 1 ∧ l0.length = m ∧ l1.length = m ∧ l2.length = m ∧ l3.length = m) ∧ Aside0 (l2.all wordB = true ∧ l3.all wordB = true) ∧ Aside0 (Own w0 w' (bx g3 #[.slice A0 m c0, .slice A1 m c1, .slice A2 m c2, .slice A3 m c3] 27 :: rb (.slice A0 m c0) l0 :: rb (.slice A1 m c1) l1 :: ri (.slice A2 m c2) l2 :: ri (.slice A3 m c3) l3 :: ri (.slice Al1 ([20, 20, 12, 40, 5, 64] : List Int).length cl1) [20, 20, 12, 40, 5, 64] :: bx g2 #[.slice none 0 0, .slice none 0 0, .slice none 0 0, .slice none 0 0] 27 :: L)))
  case atStart => exact ⟨0, zb n, zb n, zi n, zi n, rfl, ⟨by have := Z.out; omega⟩, ⟨zi_words n, zi_words n⟩, H⟩
  case round =>
    clear H
    obtain ⟨i, l0, l1, l2, l3, rfl, HI, HW, H⟩ := hrel
    obtain ⟨z0, y0, z1, y1, z2, y2, z3, y3⟩ := bk4 (H.out.b 0)
    by_cases hlt : i < m
    · have d1 : decide ((i : Int) < (m : Int)) = true := decide_eq_true (by omega)
      have i0 : 0 ≤ (i : Int) := by omega
      have i1 : (i : Int) < (m : Int) := by omega
      have hw : IntKind.i64.wrap ((i : Int) + 1) = ((i + 1 : Nat) : Int) := (by have := Hm.out; rw [i64wrap, w64 (by omega) (by omega)]; omega)
      go_wp2
      obtain ⟨q1, e1⟩ := rowB (H.out.get 1) (by have := HI.out; omega)
      subst e1
      refine rgI [0] 7 H.out ?_
      clear H
      intro _ H
      have HL := aM (H.out.hasI [0])
      refine pO 0 16 ?_
      refine fO 1 17 0 0 HL.out ?_
      refine pO 2 18 ?_
      refine pO 3 19 ?_
      clear HL
      refine clS 4 20 Try.func34 (l1Once_own (j := j + 7) H.out (by simpa using HJ.out) HC.out Hc.out 2) ?_
      rintro e w_ ⟨x1, rfl, hO⟩
      refine ⟨_, rfl, hO.hasI [0], nm ?_⟩
      clear H
      have H := aM hO
      clear hO
      refine pO 5 21 ?_
      refine stEB 6 1 i x1 [0] H.out rfl (by have := HI.out; omega) (by have := HI.out; omega) ?_ rfl
      clear H
      intro _ H
      refine done_ (by kernel_rfl) ?_
      go_wp2
      obtain ⟨q2, e2⟩ := rowB (H.out.get 2) (by have := HI.out; omega)
      subst e2
      refine rgI [0] 7 H.out ?_
      clear H
      intro _ H
      have HL := aM (H.out.hasI [0])
      refine pO 0 22 ?_
      refine fO 1 23 0 1 HL.out ?_
      refine pO 2 24 ?_
      refine pO 3 25 ?_
      clear HL
      refine clS 4 26 Try.func34 (l1Once_own (j := j + 7) H.out (by simpa using HJ.out) HC.out Hc.out 2) ?_
      rintro e w_ ⟨x2, rfl, hO⟩
      refine ⟨_, rfl, hO.hasI [0], nm ?_⟩
      clear H
      have H := aM hO
      clear hO
      refine pO 5 27 ?_
      refine stEB 6 2 i x2 [0] H.out rfl (by have := HI.out; omega) (by have := HI.out; omega) ?_ rfl
      clear H
      intro _ H
      refine done_ (by kernel_rfl) ?_
      go_wp2
      obtain ⟨q3, e3⟩ := rowI (H.out.get 3) (by have := HI.out; omega)
      subst e3
      refine rgI [0] 7 H.out ?_
      clear H
      intro _ H
      have HL := aM (H.out.hasI [0])
      refine pO 0 28 ?_
      refine fO 1 29 0 2 HL.out ?_
      refine pO 2 30 ?_
      refine pO 3 31 ?_
      clear HL
      refine clS 4 32 Try.func25 (l1Below_own (j := j + 7) H.out (by simpa using HJ.out) HC.out Hc.out 65536) ?_
      rintro e w_ ⟨x3, rfl, xa, xb, hO⟩
      have Hx3 := aM (And.intro xa (xb (by decide)))
      clear xa xb
      refine ⟨_, rfl, hO.hasI [0], nm ?_⟩
      clear H
      have H := aM hO
      clear hO
      refine pO 5 33 ?_
      refine stEI 6 3 i x3 [0] H.out rfl (by have := HI.out; omega) (by have := HI.out; omega) ?_ rfl
      clear H
      intro _ H
      refine done_ (by kernel_rfl) ?_
      go_wp2
      obtain ⟨q4, e4⟩ := rowI (H.out.get 4) (by have := HI.out; omega)
      subst e4
      refine rgI [0] 7 H.out ?_
      clear H
      intro _ H
      have HL := aM (H.out.hasI [0])
      refine pO 0 34 ?_
      refine fO 1 35 0 3 HL.out ?_
      refine pO 2 36 ?_
      refine pO 3 37 ?_
      clear HL
      refine clS 4 38 Try.func25 (l1Below_own (j := j + 7) H.out (by simpa using HJ.out) HC.out Hc.out 65536) ?_
      rintro e w_ ⟨x4, rfl, xa, xb, hO⟩
      have Hx4 := aM (And.intro xa (xb (by decide)))
      clear xa xb
      refine ⟨_, rfl, hO.hasI [0], nm ?_⟩
      clear H
      have H := aM hO
      clear hO
      refine pO 5 39 ?_
      refine stEI 6 4 i x4 [0] H.out rfl (by have := HI.out; omega) (by have := HI.out; omega) ?_ rfl
      clear H
      intro _ H
      refine done_ (by kernel_rfl) ?_
      go_wp2
      go_roundg (gk - 1)
      case measure => have := HI.out; omega
      case rel => exact ⟨i + 1, l0.set i x1, l1.set i x2, l2.set i x3, l3.set i x4, rfl, ⟨by have := HI.out; simp only [List.length_set]; omega⟩, ⟨set_w HW.out.1 Hx3.out.1 Hx3.out.2, set_w HW.out.2 Hx4.out.1 Hx4.out.2⟩, H⟩
    · have d1 : decide ((i : Int) < (m : Int)) = false := decide_eq_false (by omega)
      go_wp2_with (first | ((with_reducible refine nD 40 ?_); refine ldO 40 0 H.out hu ?_) | ((with_reducible refine nS 2 ?_); refine stO 6 H.out ?_; clear H; intro _ H))
      refine bodyPost_ret (results_cell_row rfl _ _ g2 27 _ (0, 0) _ rfl (H.out.b 6) hu rfl (by kernel_rfl)) rfl ?_
      have hI := HI.out
      have h9 := Hm.out
      exact ⟨A0, A1, A2, A3, c0, c1, c2, c3, l0, l1, l2, l3, by rw [hI.2.2.1, hI.2.2.2.1, hI.2.2.2.2.1, hI.2.2.2.2.2], by omega, by omega, by omega, ⟨by omega, HW.out⟩, by rw [hI.2.2.1, hI.2.2.2.1, hI.2.2.2.2.1, hI.2.2.2.2.2]; exact (H.out.tail 1).keep4 2⟩
end
theorem l1Size_own {A : Option Addr} {c n : Nat} (hn : n ≤ 9223372036854775807) (w : World) : Calls Try.prog 26 #[.slice A n c, .int .i64 8] w fun e w' => ∃ x : Int, e = .returned (.int .i64 x) ∧ 0 < x ∧ x ≤ 8 ∧ Below w.heap.size w w' := by
  have ht : Int.tdiv (n : Int) 12 = (n : Int) / 12 := Int.tdiv_eq_ediv_of_nonneg (by omega)
  obtain ⟨z, hz⟩ : ∃ z, 3 + (n : Int) / 12 = z := ⟨_, rfl⟩
  have hw1 : IntKind.i64.wrap ((n : Int) / 12) = (n : Int) / 12 := by rw [i64wrap, w64 (by omega) (by omega)]
  have hw : IntKind.i64.wrap (3 + (n : Int) / 12) = z := by rw [i64wrap, w64 (by omega) (by omega)]; exact hz
  go_enter Try.func26, Try.ntmps26
  by_cases h : 8 < z
  · have d1 : decide (8 < z) = true := decide_eq_true h
    go_wp2
    go_ret
    exact ⟨8, rfl, by omega, by omega, Below.refl _ _⟩
  · have d1 : decide (8 < z) = false := decide_eq_false h
    go_wp2
    go_ret
    exact ⟨z, rfl, by omega, by omega, Below.refl _ _⟩

/-- A right device and questions, a call's own. -/
def ApplyDraw (w : World) (e : Ending) (w' : World) : Prop := ∃ (A0 A1 A2 A3 A4 : Option Addr) (c0 c1 c2 c3 c4 : Nat) (l0 l1 : List Bool) (l2 l3 : List Int) (qs : List S41) (F : Nat → Prop), e = .returned (.tuple #[.agg #[.slice A0 l0.length c0, .slice A1 l1.length c1, .slice A2 l2.length c2, .slice A3 l3.length c3], .slice A4 qs.length c4]) ∧ (l0.length ≤ 64 ∧ l1.length ≤ 64 ∧ l2.length ≤ 64 ∧ (l3.length ≤ 64 ∧ l2.all wordB = true ∧ l3.all wordB = true)) ∧ (qs.length ≤ 8 ∧ ∀ q ∈ qs, q.f3.length ≤ 100 ∧ q.f4.length ≤ 100) ∧
  Own w w' [rb (.slice A0 l0.length c0) l0, rb (.slice A1 l1.length c1) l1, ri (.slice A2 l2.length c2) l2, ri (.slice A3 l3.length c3) l3, ix k41 41 (.slice A4 qs.length c4) qs F]

set_option maxHeartbeats 8000000 in
set_option maxRecDepth 100000 in
theorem DrawApply_own {A : Option Addr} {c : Nat} {l : List Int} (w : World) (hC : Kd.C (Kd.int .u8) w A l.length l) (hc : l.length ≤ c) : Calls Try.prog 7 #[.slice A l.length c] w (ApplyDraw w) := by
  have HC := aM hC
  have Hc := aM hc
  have H := aM (Own.nil w)
  clear hC hc
  have hu := Try.underlying27
  go_enter Try.func7, Try.ntmps7
  go_wp2_with (first | ((with_reducible refine nD 2 ?_); refine bxO 2 H.out #[.slice none 0 0, .slice none 0 0, .slice none 0 0, .slice none 0 0] 27 ?_; clear H; intro g2 _ H; (try refine nmL ?_)) | ((with_reducible refine nD 9 ?_); refine gC 9 Try.func23 (l1New_own _ (H.out.arg HC.out) Hc.out) ?_; rintro e w_ ⟨g, rfl, hO⟩; refine ⟨_, rfl, ?_⟩; replace H := aM (H.out.app hO); clear hO; (try refine nmL ?_)) | ((with_reducible refine nD 11 ?_); refine gC 11 Try.func24 (l5Draw_own (j := 0) H.out rfl HC.out Hc.out) ?_; rintro e w_ ⟨A0, A1, A2, A3, c0, c1, c2, c3, l0, l1, l2, l3, rfl, m0, m1, m2, m3, hO⟩; refine ⟨_, rfl, ?_⟩; clear H; have H := aM hO; clear hO; have HM := aM (And.intro m0 (And.intro m1 (And.intro m2 m3))); clear m0 m1 m2 m3; (try refine nmL ?_)) | ((with_reducible refine nD 5 ?_); refine bxO 5 H.out #[.slice none 0 0, .slice none 0 0, .slice none 0 0, .slice none 0 0] 27 ?_; clear H; intro g5 _ H; (try refine nmL ?_)) | ((with_reducible refine nS 5 ?_); refine stO 0 H.out ?_; clear H; intro _ H; (try refine nmL ?_)) | ((with_reducible refine nD 12 ?_); refine litT k41 41 12 H.out ?_; clear H; intro A4 c4 _ F H; (try refine nmL ?_)) | ((with_reducible refine nD 15 ?_); refine gC 15 Try.func26 (l1Size_own (n := l.length) (Kd.C_max HC.out) _) ?_; rintro e w_ ⟨x, rfl, x0, x8, hO⟩; refine ⟨_, rfl, ?_⟩; replace H := aM (H.out.step hO); clear hO; have HX := aM (And.intro x0 x8); clear x0 x8; (try refine nmL ?_)) | ((with_reducible refine nD 16 ?_); refine gC 16 Try.func25 (l1Below_own (j := 6) H.out rfl HC.out Hc.out x) ?_; rintro e w_ ⟨y, rfl, y0, y1, hO⟩; refine ⟨_, rfl, ?_⟩; clear H; have H := aM hO; clear hO; have HY := aM (And.intro y0 (y1 HX.out.1)); clear y0 y1; (try refine nmL ?_)))
  obtain ⟨y, rfl⟩ : ∃ y' : Nat, y = (y' : Int) := ⟨y.toNat, by have := HY.out; omega⟩
  go_loopg [6, 7] (y + 1) (fun kq v6 v7 w' => ∃ (A' : Option Addr) (c' : Nat) (xs : List S41) (F' : Nat → Prop) (z : Nat), v6 = .slice A' xs.length c' ∧ v7 = .int .i64 (z : Int) ∧ Aside0 (xs.length + z ≤ 8 ∧ z + 1 ≤ kq) ∧ Aside0 (∀ q ∈ xs, q.f3.length ≤ 100 ∧ q.f4.length ≤ 100) ∧ Aside0 (Own w w' (ix k41 41 (.slice A' xs.length c') xs F' :: bx g5 #[.slice A0 l0.length c0, .slice A1 l1.length c1, .slice A2 l2.length c2, .slice A3 l3.length c3] 27 :: rb (.slice A0 l0.length c0) l0 :: rb (.slice A1 l1.length c1) l1 :: ri (.slice A2 l2.length c2) l2 :: ri (.slice A3 l3.length c3) l3 :: cur g A c l :: bx g2 #[.slice none 0 0, .slice none 0 0, .slice none 0 0, .slice none 0 0] 27 :: [])))
  case atStart => exact ⟨A4, c4, [], F, y, rfl, rfl, ⟨by have := HY.out; have := HX.out; simp only [List.length_nil]; omega⟩, ⟨fun q hq => by cases hq⟩, H⟩
  case round =>
    clear H
    obtain ⟨A', c', xs, F', z, rfl, rfl, HI, HA, H⟩ := hrel
    by_cases hz0 : 0 < z
    · have d1 : decide (0 < (z : Int)) = true := decide_eq_true (by omega)
      have d2 : decide (0 < z) = true := decide_eq_true hz0
      have hw : IntKind.i64.wrap ((z : Int) - 1) = ((z - 1 : Nat) : Int) := (by have := HI.out; rw [i64wrap, w64 (by omega) (by omega)]; omega)
      go_upto_region 7 with fail
      go_wp2_with (first | ((with_reducible refine nD 23 ?_); refine gC 23 Try.func27 (l3Draw_own (j := 6) H.out rfl HC.out Hc.out 0) ?_; rintro e w_ ⟨k, a, n, wat, A5, A6, c5, c6, ws, bs, rfl, m4, m5, hO⟩; refine ⟨_, rfl, ?_⟩; clear H; have H := aM hO; clear hO; have HQ := aM (And.intro m4 m5); clear m4 m5; obtain ⟨zs, hz, hZ⟩ : ∃ zs : List S41, xs ++ [(⟨k, a, n, ws, bs, wat⟩ : S41)] = zs ∧ (zs.length = xs.length + 1 ∧ ∀ q ∈ zs, q.f3.length ≤ 100 ∧ q.f4.length ≤ 100) := ⟨_, rfl, List.length_append, fun q hq => (List.mem_append.1 hq).elim (HA.out q) (fun h => (List.mem_singleton.1 h) ▸ ⟨HQ.out.1.1, HQ.out.2⟩)⟩; have HZ := aM hZ; clear hZ; (try refine nmL ?_)) | ((with_reducible refine nD 25 ?_); refine apT 0 25 H.out (⟨k, a, n, ws, bs, wat⟩ : S41) [.int .i64 k, .int .i64 a, .int .i64 n, .slice A5 ws.length c5, .slice A6 bs.length c6, .int .i64 wat] rfl (k41_mkM _ 0 _ (⟨k, a, n, ws, bs, wat⟩ : S41) (Kd.R_mono (H.out.get 0 rfl) (fun k hk => .inl hk)) (Kd.R_mono (H.out.get 1 rfl) (fun k hk => .inr hk))) Try.underlying28 info41 rfl (by decide) (by decide) (by have := HI.out.1; omega) ?_ hz; clear H; intro A7 c7 _ F7 H; (try refine nmL ?_)))
      go_roundg (gk - 1)
      case measure => have := HI.out; omega
      case rel => exact ⟨A7, c7, _, F7, z - 1, rfl, rfl, ⟨by have := HI.out; have := HZ.out.1; omega⟩, ⟨HZ.out.2⟩, H⟩
    · have d1 : decide (0 < (z : Int)) = false := decide_eq_false (by omega)
      have d2 : decide (0 < z) = false := decide_eq_false hz0
      go_wp2_with (first | ((with_reducible refine nD 26 ?_); refine ldO 26 1 H.out hu ?_; (try refine nmL ?_)) | ((with_reducible refine nS 2 ?_); refine stO 7 H.out ?_; clear H; intro _ H; (try refine nmL ?_)))
      refine bodyPost_ret (results_ct rfl _ _ g2 27 _ (0, 0) _ rfl (H.out.b 7) hu rfl (by kernel_rfl)) rfl ?_
      exact ⟨_, _, _, _, _, _, _, _, _, _, _, _, _, _, _, F', rfl, HM.out, ⟨by have := HI.out; omega, HA.out⟩, ((H.out.ins 5).tail 1).sub (by repeat (first | exact List.nil_sublist _ | apply List.Sublist.cons_cons | apply List.Sublist.cons))⟩
end Go.Proofs.Ytiiodfagedcofaa.G
