/- Draws: a cursor over bytes, and what single calls draw of it: numbers of a range. No condition. -/
import Derived.Test.YtiiodfagedcofaaGOwn
import Derived.Test.YtiiodfagedcofaaC
namespace Go.Proofs.Ytiiodfagedcofaa.G
open Go.Proofs.Ytiiodfagedcofaa.K Go Go.RowKit Go.Proofs.YtiiodfagedcofaaW.PrintWords Go.Proofs.YtiiodfagedcofaaW.PrintLast Go.Proofs.YtiiodfagedcofaaW.PrintMore Go.Proofs.Ytiiodfagedcofaa.PlainC
set_option linter.unusedVariables false
set_option linter.unusedSimpArgs false

/-- A cursor: a block of one's own, at some place of its bytes. -/
def cur (g : Nat) (A : Option Addr) (c : Nat) (l : List Int) : It :=
  ⟨fun w => ∃ i h : Int, 0 ≤ i ∧ i ≤ (l.length : Int) ∧ w.heap[g]? = some (.cells #[.slice A l.length c, .int .i64 i, .int .i64 h] 74 (0, 0)), fun k => k = g, fun _ _ h hf => by obtain ⟨i, h, a, b, e⟩ := h; exact ⟨i, h, a, b, (hf g rfl).trans e⟩⟩
theorem and255 (z : Int) : 0 ≤ Go.bits .and .i64 z 255 ∧ Go.bits .and .i64 z 255 ≤ 255 := by
  have h := and_mask z 8 (by decide)
  rw [show (2 : Int) ^ 8 - 1 = 255 by decide] at h
  rw [h]
  omega
theorem fm1 {L : List It} {j : Nat} {x : It} (h : L[j]? = some x) : [j].filterMap (L[·]?) = [x] := by simp [h]
section
variable {w0 w : World} {L : List It} {j g c : Nat} {A : Option Addr} {l : List Int}

set_option maxHeartbeats 4000000 in
set_option maxRecDepth 100000 in
theorem l1Byte_own (H : Own w0 w L) (hj : L[j]? = some (cur g A c l)) (hC : Kd.C (Kd.int .u8) w0 A l.length l) (hc : l.length ≤ c) :
    Calls Try.prog 53 #[.pointer (some ⟨g, 0, none⟩)] w fun e w' => ∃ x : Int, e = .returned (.int .i64 x) ∧ 0 ≤ x ∧ x ≤ 255 ∧ Own w0 w' L := by
  obtain ⟨i, h, hi0, hi1, hb⟩ := H.get j hj
  have HJ := aM hj
  have HC := aM hC
  have Hc := aM hc
  have HI := aM (And.intro hi0 hi1)
  replace H := aM (H.conv j (bx g #[.slice A l.length c, .int .i64 i, .int .i64 h] 74) hj rfl hb)
  have J := aM (gS hj (bx g #[.slice A l.length c, .int .i64 i, .int .i64 h] 74))
  have hu := Try.underlying74
  clear hi0 hi1 hb hj hC hc
  obtain ⟨z0, y0, z1, y1, z2, y2⟩ := bk3 (H.out.b j J.out)
  go_enter Try.func53, Try.ntmps53
  go_upto_region 2 with (refine scO j 2 H.out (hj := J.out) ?_; clear J z0 y0 z1 y1 z2 y2; intro w1 H1; obtain ⟨h2, H2⟩ : ∃ h2 : Int, Own w0 w1 (L.set j (bx g #[.slice A l.length c, .int .i64 i, .int .i64 h2] 74)) := ⟨_, by have h3 := H1.out; rw [List.set_set] at h3; exact h3⟩; clear H H1; have H := aM H2; clear H2)
  have J := aM (gS HJ.out (bx g #[.slice A l.length c, .int .i64 i, .int .i64 h2] 74))

  refine rgI [j] 13 H.out (hs := (fm1 J.out)) ?_
  clear H
  intro _ H
  have HL := aM (H.out.hasI [j] (fm1 J.out))
  refine pO 0 13 ?_
  refine pO 1 14 ?_
  refine pO 2 15 ?_
  refine fO 3 16 0 2 HL.out ?_
  refine pO 4 17 ?_
  refine pO 5 18 ?_
  refine pO 6 19 ?_
  refine pO 7 20 ?_
  refine fO 8 21 0 2 HL.out ?_
  refine pO 9 22 ?_
  refine pO 10 23 ?_
  refine pO 11 24 ?_
  refine pO 12 3 ?_
  clear HL
  refine done_ (by kernel_rfl) ?_
  generalize hx : Go.bits BinOp.and IntKind.i64 _ 255 = x3
  have HX := aM (show 0 ≤ x3 ∧ x3 ≤ 255 from hx ▸ and255 _)
  clear hx
  go_wp2
  refine rgI [j] 10 H.out (hs := (fm1 J.out)) ?_
  clear H
  intro _ H
  have HL := aM (H.out.hasI [j] (fm1 J.out))
  refine pO 0 25 ?_
  refine pO 1 26 ?_
  refine pO 2 27 ?_
  refine fO 3 28 0 1 HL.out ?_
  refine pO 4 29 ?_
  refine pO 5 30 ?_
  refine pO 6 31 ?_
  refine fO 7 32 0 0 HL.out ?_
  refine pO 8 33 ?_
  refine pO 9 34 ?_
  clear HL
  refine done_ (by kernel_rfl) ?_
  by_cases hlt : i < (l.length : Int)
  · have h34 : decide (i < (l.length : Int)) = true := decide_eq_true hlt
    have hi0 := HI.out.1
    obtain ⟨ad, e, hcell⟩ := Kd.at_int HC.out i hi0 hlt
    subst e
    clear hcell
    rw [h34]
    go_wp2
    refine rgI [j] 15 H.out (hs := (fm1 J.out)) ?_
    clear H
    intro _ H
    have HL := aM (H.out.hasI [j] (fm1 J.out))
    refine pO 0 35 ?_
    refine pO 1 36 ?_
    refine pO 2 37 ?_
    refine pO 3 38 ?_
    refine fO 4 39 0 0 HL.out ?_
    refine pO 5 40 ?_
    refine pO 6 41 ?_
    refine pO 7 42 ?_
    refine fO 8 43 0 1 HL.out ?_
    refine pO 9 44 ?_
    refine tO 10 45 (fun w' => w'.cell? (ad.add i.toNat) = some (.int .u8 (rd l i))) (fun w' s => by obtain ⟨ad', e, hc⟩ := Kd.at_int (s.arg HC.out) i hi0 hlt; cases e; exact hc) HL.out ?_
    refine pO 11 46 ?_
    refine pO 12 47 ?_
    refine pO 13 48 ?_
    refine pO 14 3 ?_
    clear HL
    refine done_ (by kernel_rfl) ?_
    generalize hx : Go.bits BinOp.and IntKind.i64 _ 255 = x4
    have HY := aM (show 0 ≤ x4 ∧ x4 ≤ 255 from hx ▸ and255 _)
    clear hx HX
    obtain ⟨z0, y0, z1, y1, z2, y2⟩ := bk3 (H.out.b j J.out)
    have hw : IntKind.i64.wrap (i + 1) = i + 1 := by rw [i64wrap, w64 (by omega) (by have := Kd.C_max HC.out; omega)]
    go_wp2_with (refine scO j 1 H.out (hj := J.out) ?_; clear J z0 y0 z1 y1 z2 y2; intro w1 H1; have H := aM (show Own w0 w1 (L.set j (bx g #[.slice (some ad) l.length c, .int .i64 (i + 1), .int .i64 h2] 74)) from by have h3 := H1.out; rw [List.set_set] at h3; exact h3); clear H1)
    go_ret
    exact ⟨x4, rfl, HY.out.1, HY.out.2, H.out.back HJ.out rfl ⟨i + 1, h2, by omega, by omega, H.out.b j (gS HJ.out _)⟩⟩
  · have h34 : decide (i < (l.length : Int)) = false := decide_eq_false hlt
    rw [h34]
    go_wp2
    go_ret
    exact ⟨x3, rfl, HX.out.1, HX.out.2, H.out.back HJ.out rfl ⟨i, h2, HI.out.1, HI.out.2, H.out.b j J.out⟩⟩
def BelowPost (n : Int) (w0 : World) (L : List It) (e : Ending) (w' : World) : Prop := ∃ x : Int, e = .returned (.int .i64 x) ∧ 0 ≤ x ∧ (0 < n → x < n) ∧ Own w0 w' L

set_option maxHeartbeats 4000000 in
set_option maxRecDepth 100000 in
theorem l1Below_own (H : Own w0 w L) (hj : L[j]? = some (cur g A c l)) (hC : Kd.C (Kd.int .u8) w0 A l.length l) (hc : l.length ≤ c) (n : Int) :
    Calls Try.prog 25 #[.pointer (some ⟨g, 0, none⟩), .int .i64 n] w (BelowPost n w0 L) := by
  have HJ := aM hj
  have HC := aM hC
  have Hc := aM hc
  replace H := aM H
  clear hj hC hc
  by_cases h1 : n ≤ 0
  · have d1 : decide (n ≤ 0) = true := decide_eq_true h1
    go_enter Try.func25, Try.ntmps25
    go_wp2
    go_ret
    exact ⟨0, rfl, by omega, fun h => by omega, H.out⟩
  · have d1 : decide (n ≤ 0) = false := decide_eq_false h1
    have n0 : ¬ n = 0 := by omega
    by_cases h2 : n ≤ 256
    · have d2 : decide (n ≤ 256) = true := decide_eq_true h2
      go_enter Try.func25, Try.ntmps25
      go_wp2_with ((with_reducible refine nD 13 ?_); refine gC 13 Try.func53 (l1Byte_own H.out HJ.out HC.out Hc.out) ?_; rintro e w_ ⟨x, rfl, x0, x1, hO⟩; refine ⟨_, rfl, ?_⟩; have Hx := aM (And.intro x0 x1); clear x0 x1 H; have H := aM hO; clear hO)
      go_ret
      exact ⟨_, rfl, Int.tmod_nonneg _ Hx.out.1, fun _ => Int.tmod_lt_of_pos _ (by omega), H.out⟩
    · have d2 : decide (n ≤ 256) = false := decide_eq_false h2
      go_enter Try.func25, Try.ntmps25
      go_wp2_with (first | ((with_reducible refine nD 17 ?_); refine gC 17 Try.func53 (l1Byte_own H.out HJ.out HC.out Hc.out) ?_; rintro e w_ ⟨x, rfl, x0, x1, hO⟩; refine ⟨_, rfl, ?_⟩; have Hx := aM (And.intro x0 x1); clear x0 x1 H; have H := aM hO; clear hO) | ((with_reducible refine nD 19 ?_); refine gC 19 Try.func53 (l1Byte_own H.out HJ.out HC.out Hc.out) ?_; rintro e w_ ⟨y, rfl, x0, x1, hO⟩; refine ⟨_, rfl, ?_⟩; have Hy := aM (And.intro x0 x1); clear x0 x1 H; have H := aM hO; clear hO) | ((with_reducible refine nD 21 ?_); refine gC 21 Try.func53 (l1Byte_own H.out HJ.out HC.out Hc.out) ?_; rintro e w_ ⟨z, rfl, x0, x1, hO⟩; refine ⟨_, rfl, ?_⟩; have Hz := aM (And.intro x0 x1); clear x0 x1 H; have H := aM hO; clear hO; have hw := And.intro Hx.out (And.intro Hy.out Hz.out); have w1 : IntKind.i64.wrap (x * 65536) = x * 65536 := (by rw [i64wrap, w64 (by omega) (by omega)]); have w2 : IntKind.i64.wrap (y * 256) = y * 256 := (by rw [i64wrap, w64 (by omega) (by omega)]); have w3 : IntKind.i64.wrap (x * 65536 + y * 256) = x * 65536 + y * 256 := (by rw [i64wrap, w64 (by omega) (by omega)]); have w4 : IntKind.i64.wrap (x * 65536 + y * 256 + z) = x * 65536 + y * 256 + z := (by rw [i64wrap, w64 (by omega) (by omega)]); clear hw))
      go_ret
      exact ⟨_, rfl, Int.tmod_nonneg _ (by have := Hx.out; have := Hy.out; have := Hz.out; omega), fun _ => Int.tmod_lt_of_pos _ (by omega), H.out⟩

set_option maxHeartbeats 4000000 in
set_option maxRecDepth 100000 in
theorem l1Once_own (H : Own w0 w L) (hj : L[j]? = some (cur g A c l)) (hC : Kd.C (Kd.int .u8) w0 A l.length l) (hc : l.length ≤ c) (n : Int) :
    Calls Try.prog 34 #[.pointer (some ⟨g, 0, none⟩), .int .i64 n] w fun e w' => ∃ x : Bool, e = .returned (.bool x) ∧ Own w0 w' L := by
  have HJ := aM hj
  have HC := aM hC
  have Hc := aM hc
  replace H := aM H
  clear hj hC hc
  go_enter Try.func34, Try.ntmps34
  go_wp2_with ((with_reducible refine nD 7 ?_); refine gC 7 Try.func25 (l1Below_own H.out HJ.out HC.out Hc.out n) ?_; rintro e w_ ⟨x, rfl, x0, x1, hO⟩; refine ⟨_, rfl, ?_⟩; have Hx := aM (And.intro x0 x1); clear x0 x1 H; have H := aM hO; clear hO)
  go_ret
  exact ⟨_, rfl, H.out⟩
set_option maxHeartbeats 4000000 in
set_option maxRecDepth 100000 in
theorem l1Int_own (H : Own w0 w L) (hj : L[j]? = some (cur g A c l)) (hC : Kd.C (Kd.int .u8) w0 A l.length l) (hc : l.length ≤ c) (r : Nat) {A1 : Option Addr} {c1 : Nat} {xs : List Int} (hr : L[r]? = some (ri (.slice A1 xs.length c1) xs)) (h0 : 0 < xs.length) :
    Calls Try.prog 33 #[.pointer (some ⟨g, 0, none⟩), .slice A1 xs.length c1] w fun e w' => ∃ x : Int, e = .returned (.int .i64 x) ∧ x ∈ xs ∧ Own w0 w' L := by
  have HJ := aM hj
  have HC := aM hC
  have Hc := aM hc
  replace H := aM H
  clear hj hC hc
  have HR := aM hr
  have HL := aM h0
  clear hr h0
  go_enter Try.func33, Try.ntmps33
  go_wp2_with ((with_reducible refine nD 9 ?_); refine gC 9 Try.func25 (l1Below_own H.out HJ.out HC.out Hc.out (xs.length : Int)) ?_; rintro e w_ ⟨x, rfl, x0, x1, hO⟩; refine ⟨_, rfl, ?_⟩; have Hx := aM (And.intro x0 x1); clear x0 x1 H; have H := aM hO; clear hO; have hx0 := Hx.out.1; have hx1 := Hx.out.2 (by have := HL.out; omega); obtain ⟨ad, he, hcell⟩ := Kd.at_int (H.out.ci r HR.out) x hx0 hx1; subst he)
  go_ret
  refine ⟨_, rfl, ?_, H.out⟩
  have hx := Hx.out.2 (by have := HL.out; omega)
  have hx0 := Hx.out.1
  obtain ⟨m, rfl⟩ := Int.eq_ofNat_of_zero_le hx0
  have hm : m < xs.length := by omega
  rw [rd_get hm]
  exact List.getElem_mem hm

end
end Go.Proofs.Ytiiodfagedcofaa.G
