/- Draws: a new cursor, drawn bits, drawn lists of numbers. No condition. -/
import Derived.Test.YtiiodfagedcofaaGDraw1
namespace Go.Proofs.Ytiiodfagedcofaa.G
open Go.Proofs.Ytiiodfagedcofaa.K Go Go.RowKit Go.Proofs.YtiiodfagedcofaaW.PrintWords Go.Proofs.YtiiodfagedcofaaW.PrintLast Go.Proofs.YtiiodfagedcofaaW.PrintMore Go.Proofs.Ytiiodfagedcofaa.PlainC
set_option linter.unusedVariables false
set_option linter.unusedSimpArgs false
def NewCurPost (A : Option Addr) (c : Nat) (l : List Int) (w : World) (e : Ending) (w' : World) : Prop := ∃ g, e = .returned (.pointer (some ⟨g, 0, none⟩)) ∧ Own w w' [cur g A c l]
set_option maxHeartbeats 8000000 in
set_option maxRecDepth 100000 in
theorem l1New_own {A : Option Addr} {c : Nat} {l : List Int} (w : World) (hC : Kd.C (Kd.int .u8) w A l.length l) (hc : l.length ≤ c) :
    Calls Try.prog 23 #[.slice A l.length c] w (NewCurPost A c l w) := by
  have HC := aM hC
  have Hc := aM hc
  have hm := Kd.C_max hC
  have HM := aM hm
  have H := aM (Own.nil w)
  clear hC hc hm
  go_enter Try.func23, Try.ntmps23
  go_wp2
  go_loopg [3, 4] (l.length + 1) (fun kq v3 v4 w' => ∃ h i : Int, v3 = .int .i64 h ∧ v4 = .int .i64 i ∧ Aside0 (0 ≤ i ∧ i ≤ (l.length : Int) ∧ (kq : Int) + i = (l.length : Int) + 1) ∧ w' = w)
  case atStart => exact ⟨_, 0, rfl, rfl, ⟨by omega⟩, rfl⟩
  case round =>
    obtain ⟨h, i, rfl, rfl, HI, rfl⟩ := hrel
    by_cases h1 : i < (l.length : Int)
    · have d1 : decide (i < (l.length : Int)) = true := decide_eq_true h1
      by_cases h2 : i < 4000
      · have d2 : decide (i < 4000) = true := decide_eq_true h2
        have hi0 := HI.out.1
        have hw : IntKind.i64.wrap (i + 1) = i + 1 := (by rw [i64wrap, w64 (by omega) (by omega)])
        obtain ⟨ad, e, hcell⟩ := Kd.at_int HC.out i hi0 h1
        subst e
        go_wp2
        go_roundg (gk - 1)
        case measure => have := HI.out; omega
        case rel => exact ⟨_, i + 1, rfl, rfl, ⟨by have := HI.out; omega⟩, rfl⟩
      · have d2 : decide (i < 4000) = false := decide_eq_false h2
        go_wp2_with ((with_reducible refine nD 31 ?_); refine bxO 31 H.out #[.slice A l.length c, .int .i64 0, .int .i64 h] 74 ?_; clear H; intro g _ H)
        go_ret
        exact ⟨g, rfl, H.out.conv 0 (cur g A c l) rfl rfl ⟨0, h, by omega, by omega, H.out.b 0⟩⟩
    · have d1 : decide (i < (l.length : Int)) = false := decide_eq_false h1
      go_wp2_with ((with_reducible refine nD 31 ?_); refine bxO 31 H.out #[.slice A l.length c, .int .i64 0, .int .i64 h] 74 ?_; clear H; intro g _ H)
      go_ret
      exact ⟨g, rfl, H.out.conv 0 (cur g A c l) rfl rfl ⟨0, h, by omega, by omega, H.out.b 0⟩⟩
section
variable {w0 w : World} {L : List It} {j g c : Nat} {A : Option Addr} {l : List Int}
def BitsPost (n : Int) (w0 : World) (L : List It) (e : Ending) (w' : World) : Prop := ∃ (A' : Option Addr) (c' : Nat) (ys : List Bool), e = .returned (.slice A' ys.length c') ∧ (ys.length : Int) = n ∧ Own w0 w' (rb (.slice A' ys.length c') ys :: L)
def NumsPost (n : Int) (w0 : World) (L : List It) (e : Ending) (w' : World) : Prop := ∃ (A' : Option Addr) (c' : Nat) (ys : List Int), e = .returned (.slice A' ys.length c') ∧ (ys.length : Int) = n ∧ Own w0 w' (ri (.slice A' ys.length c') ys :: L)

set_option maxHeartbeats 8000000 in
set_option maxRecDepth 100000 in
theorem l2Bits_own (H0 : Own w0 w L) (hj : L[j]? = some (cur g A c l)) (hC : Kd.C (Kd.int .u8) w0 A l.length l) (hc : l.length ≤ c) (n : Int) (n0 : 0 ≤ n) (n9 : n ≤ 1000) :
    Calls Try.prog 54 #[.pointer (some ⟨g, 0, none⟩), .int .i64 n] w (BitsPost n w0 L) := by
  have HJ := aM hj
  have HC := aM hC
  have Hc := aM hc
  have H := aM H0
  have HN := aM (And.intro n0 n9)
  clear hj hC hc n0 n9 H0
  go_enter Try.func54, Try.ntmps54
  go_wp2_with ((with_reducible refine nD 7 ?_); refine litBL 7 [] H.out ?_; clear H; intro A1 c1 _ H)
  go_loopg [5, 6] (n.toNat + 1) (fun kq v5 v6 w' => ∃ (A' : Option Addr) (c' : Nat) (ys : List Bool), v5 = .slice A' ys.length c' ∧ v6 = .int .i64 (ys.length : Int) ∧ Aside0 ((ys.length : Int) ≤ n ∧ (kq : Int) + ys.length = n + 1) ∧ Aside0 (Own w0 w' (rb (.slice A' ys.length c') ys :: L)))
  case atStart => exact ⟨A1, c1, [], rfl, rfl, ⟨by have := HN.out; simp; omega⟩, H⟩
  case round =>
    clear H
    obtain ⟨A', c', ys, rfl, rfl, HI, H⟩ := hrel
    by_cases h1 : (ys.length : Int) < n
    · have d1 : decide ((ys.length : Int) < n) = true := decide_eq_true h1
      have hw : IntKind.i64.wrap ((ys.length : Int) + 1) = ((ys.length + 1 : Nat) : Int) := (by have := HN.out; rw [i64wrap, w64 (by omega) (by omega)]; omega)
      go_wp2_with (first | ((with_reducible refine nD 15 ?_); refine gC 15 Try.func34 (l1Once_own (j := j + 1) H.out (by simpa using HJ.out) HC.out Hc.out 2) ?_; rintro e w_ ⟨x, rfl, hO⟩; refine ⟨_, rfl, ?_⟩; clear H; have H := aM hO; clear hO) | ((with_reducible refine nD 16 ?_); refine litBL 16 [x] H.out ?_; clear H; intro A2 c2 _ H) | ((with_reducible refine nD 17 ?_); refine apBL 1 17 H.out rfl (H.out.cb 0) ?_ (by have := HI.out; have := HN.out; simp; omega) rfl; clear H; intro A3 c3 _ H))
      go_roundg (gk - 1)
      case measure => have := HI.out; omega
      case rel => exact ⟨A3, c3, ys ++ [x], by simp, by simp, ⟨by have := HI.out; rw [List.length_append, List.length_singleton]; omega⟩, aM (H.out.tail 1)⟩
    · have d1 : decide ((ys.length : Int) < n) = false := decide_eq_false h1
      go_wp2
      go_ret
      exact ⟨_, _, ys, rfl, by have := HI.out; omega, H.out⟩

set_option maxHeartbeats 8000000 in
set_option maxRecDepth 100000 in
theorem l3List_own (H0 : Own w0 w L) (hj : L[j]? = some (cur g A c l)) (hC : Kd.C (Kd.int .u8) w0 A l.length l) (hc : l.length ≤ c) (n : Int) (n0 : 0 ≤ n) (n9 : n ≤ 1000) :
    Calls Try.prog 55 #[.pointer (some ⟨g, 0, none⟩), .int .i64 n] w (NumsPost n w0 L) := by
  have HJ := aM hj
  have HC := aM hC
  have Hc := aM hc
  have H := aM H0
  have HN := aM (And.intro n0 n9)
  clear hj hC hc n0 n9 H0
  go_enter Try.func55, Try.ntmps55
  go_wp2_with ((with_reducible refine nD 7 ?_); refine litIL 7 [] H.out ?_; clear H; intro A1 c1 _ H)
  go_loopg [5, 6] (n.toNat + 1) (fun kq v5 v6 w' => ∃ (A' : Option Addr) (c' : Nat) (ys : List Int), v5 = .slice A' ys.length c' ∧ v6 = .int .i64 (ys.length : Int) ∧ Aside0 ((ys.length : Int) ≤ n ∧ (kq : Int) + ys.length = n + 1) ∧ Aside0 (Own w0 w' (ri (.slice A' ys.length c') ys :: L)))
  case atStart => exact ⟨A1, c1, [], rfl, rfl, ⟨by have := HN.out; simp; omega⟩, H⟩
  case round =>
    clear H
    obtain ⟨A', c', ys, rfl, rfl, HI, H⟩ := hrel
    by_cases h1 : (ys.length : Int) < n
    · have d1 : decide ((ys.length : Int) < n) = true := decide_eq_true h1
      have hw : IntKind.i64.wrap ((ys.length : Int) + 1) = ((ys.length + 1 : Nat) : Int) := (by have := HN.out; rw [i64wrap, w64 (by omega) (by omega)]; omega)
      go_wp2_with (first | ((with_reducible refine nD 16 ?_); refine gC 16 Try.func25 (l1Below_own (j := j + 1) H.out (by simpa using HJ.out) HC.out Hc.out 65536) ?_; rintro e w_ ⟨y, rfl, y0, y1, hO⟩; refine ⟨_, rfl, ?_⟩; clear H y0 y1; have H := aM hO; clear hO) | ((with_reducible refine nD 17 ?_); refine litIL 17 [0, 1, 65535, 256, y] H.out ?_; clear H; intro A2 c2 _ H) | ((with_reducible refine nD 18 ?_); refine gC 18 Try.func33 (l1Int_own (j := j + 2) H.out (by simpa using HJ.out) HC.out Hc.out 0 rfl (by simp)) ?_; rintro e w_ ⟨x, rfl, hx, hO⟩; refine ⟨_, rfl, ?_⟩; clear H hx; have H := aM hO; clear hO) | ((with_reducible refine nD 19 ?_); refine litIL 19 [x] H.out ?_; clear H; intro A4 c4 _ H) | ((with_reducible refine nD 20 ?_); refine apIL 2 20 H.out rfl (H.out.ci 0) ?_ (by have := HI.out; have := HN.out; simp; omega) rfl; clear H; intro A3 c3 _ H))
      go_roundg (gk - 1)
      case measure => have := HI.out; omega
      case rel => exact ⟨A3, c3, ys ++ [x], by simp, by simp, ⟨by have := HI.out; rw [List.length_append, List.length_singleton]; omega⟩, aM (H.out.tail 2)⟩
    · have d1 : decide ((ys.length : Int) < n) = false := decide_eq_false h1
      go_wp2
      go_ret
      exact ⟨_, _, ys, rfl, by have := HI.out; omega, H.out⟩

end
end Go.Proofs.Ytiiodfagedcofaa.G
