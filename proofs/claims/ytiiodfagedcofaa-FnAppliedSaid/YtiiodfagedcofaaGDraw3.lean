/- Draws: drawn questions, and bent ones. No condition. -/
import Derived.Test.YtiiodfagedcofaaGDraw2
namespace Go.Proofs.Ytiiodfagedcofaa.G
open Go.Proofs.Ytiiodfagedcofaa.K Go Go.RowKit Go.Proofs.YtiiodfagedcofaaW.PrintWords Go.Proofs.YtiiodfagedcofaaW.PrintLast Go.Proofs.YtiiodfagedcofaaW.PrintMore Go.Proofs.Ytiiodfagedcofaa.PlainC
set_option linter.unusedVariables false
set_option linter.unusedSimpArgs false
section
variable {w0 w : World} {L : List It} {j g c : Nat} {A : Option Addr} {l : List Int}
/-- A question, its rows in front of what is one's own. -/
def ReqPost (w0 : World) (L : List It) (e : Ending) (w' : World) : Prop := ∃ (k a n wat : Int) (A4 A5 : Option Addr) (c4 c5 : Nat) (ws : List Int) (bs : List Bool), e = .returned (.agg #[.int .i64 k, .int .i64 a, .int .i64 n, .slice A4 ws.length c4, .slice A5 bs.length c5, .int .i64 wat]) ∧ (ws.length ≤ 100 ∧ 0 ≤ n ∧ n ≤ 100) ∧ bs.length ≤ 100 ∧ Own w0 w' (ri (.slice A4 ws.length c4) ws :: rb (.slice A5 bs.length c5) bs :: L)

set_option maxHeartbeats 8000000 in
set_option maxRecDepth 100000 in
theorem l3Draw_own (H0 : Own w0 w L) (hj : L[j]? = some (cur g A c l)) (hC : Kd.C (Kd.int .u8) w0 A l.length l) (hc : l.length ≤ c) (near : Int) :
    Calls Try.prog 27 #[.pointer (some ⟨g, 0, none⟩), .int .i64 near] w (ReqPost w0 L) := by
  have HJ := aM hj
  have HC := aM hC
  have Hc := aM hc
  have H := aM H0
  clear hj hC hc H0
  have hu := Try.underlying41
  go_enter Try.func27, Try.ntmps27
  go_upto_if 22 with (first | ((with_reducible refine nD 4 ?_); refine bxO 4 H.out #[.int .i64 0, .int .i64 0, .int .i64 0, .slice none 0 0, .slice none 0 0, .int .i64 0] 41 ?_; clear H; intro g4 _ H) | ((with_reducible refine nD 8 ?_); refine litIL 8 [1, 2, 3, 4, 5, 6, 15, 16, 22, 23, 3, 16] H.out ?_; clear H; intro Al1 cl1 _ H) | ((with_reducible refine nD 9 ?_); refine gC 9 Try.func33 (l1Int_own (j := j + 2) H.out (by simpa using HJ.out) HC.out Hc.out 0 rfl (by simp)) ?_; rintro e w_ ⟨k, rfl, hk, hO⟩; refine ⟨_, rfl, ?_⟩; clear H; have H := aM hO; clear hO; have Hk := aM hk; clear hk) | ((with_reducible refine nD 12 ?_); refine gC 12 Try.func25 (l1Below_own (j := j + 2) H.out (by simpa using HJ.out) HC.out Hc.out 12) ?_; rintro e w_ ⟨x, rfl, x0, x1, hO⟩; refine ⟨_, rfl, ?_⟩; clear H; have H := aM hO; clear hO; have Hx := aM (And.intro x0 (x1 (by omega))); clear x0 x1) | ((with_reducible refine nD 5 ?_); refine bxO 5 H.out #[.int .i64 0, .int .i64 0, .int .i64 0, .slice none 0 0, .slice none 0 0, .int .i64 0] 41 ?_; clear H; intro g5 _ H) | ((with_reducible refine nS 5 ?_); refine stO 0 H.out ?_; clear H; intro _ H) | ((with_reducible refine nD 16 ?_); refine gC 16 Try.func25 (l1Below_own (j := j + 3) H.out (by simpa using HJ.out) HC.out Hc.out 6) ?_; rintro e w_ ⟨y, rfl, y0, y1, hO⟩; refine ⟨_, rfl, ?_⟩; clear H; have H := aM hO; clear hO; have Hy := aM (And.intro y0 (y1 (by omega))); clear y0 y1; have hw : IntKind.i64.wrap (1 + y) = 1 + y := (by have := Hy.out; rw [i64wrap, w64 (by omega) (by omega)]); obtain ⟨z5, y5, _, _, _, _, _, _, _, _, _, _⟩ := bk6 (H.out.b 0)))
  have hk : k = 5 ∨ k = 6 ∨ k = 22 ∨ k = 15 ∨ k = 16 ∨ k = 23 ∨ (k ≠ 5 ∧ k ≠ 6 ∧ k ≠ 22 ∧ k ≠ 15 ∧ k ≠ 16 ∧ k ≠ 23) := by omega
  rcases hk with h | h | h | h | h | h | h
  · have e5 : (k == 5) = true := by subst h; rfl
    clear h
    rw [e5]
    go_wp2_with (first | ((with_reducible refine nD 25 ?_); refine gC 25 Try.func54 (l2Bits_own (j := j + 3) H.out (by simpa using HJ.out) HC.out Hc.out 1 (by omega) (by omega)) ?_; rintro e w_ ⟨Ab, cb, bs, rfl, hbs, hO⟩; refine ⟨_, rfl, ?_⟩; clear H; have H := aM hO; clear hO; have Hbs := aM hbs; clear hbs) | ((with_reducible refine nS 26 ?_); refine scO 1 4 H.out ?_; clear H; intro _ H) | ((with_reducible refine nD 67 ?_); refine ldO 67 1 H.out hu ?_) | ((with_reducible refine nS 4 ?_); refine stO 3 H.out ?_; clear H; intro _ H))
    refine bodyPost_ret (results_cell_row rfl _ _ g4 41 _ (0, 0) _ rfl (H.out.b 3) hu rfl (by kernel_rfl)) rfl ?_
    exact ⟨_, _, _, _, _, _, _, _, [], bs, rfl, by (try simp only [List.length_nil]); (try have h1 := Hws.out); have h2 := Hy.out; (try have h3 := Hu.out); omega, by have := Hbs.out; have := Hy.out; (try have := Hz.out); omega, (H.out.keep1 3).nilI⟩
  · have e5 : (k == 5) = false := by subst h; rfl
    have e6 : (k == 6) = true := by subst h; rfl
    clear h
    rw [e5]
    go_wp2_with (first | ((with_reducible refine nD 30 ?_); refine gC 30 Try.func55 (l3List_own (j := j + 3) H.out (by simpa using HJ.out) HC.out Hc.out 1 (by omega) (by omega)) ?_; rintro e w_ ⟨Ab, cb, ws, rfl, hws, hO⟩; refine ⟨_, rfl, ?_⟩; clear H; have H := aM hO; clear hO; have Hws := aM hws; clear hws) | ((with_reducible refine nS 31 ?_); refine scO 1 3 H.out ?_; clear H; intro _ H) | ((with_reducible refine nD 67 ?_); refine ldO 67 1 H.out hu ?_) | ((with_reducible refine nS 4 ?_); refine stO 3 H.out ?_; clear H; intro _ H))
    refine bodyPost_ret (results_cell_row rfl _ _ g4 41 _ (0, 0) _ rfl (H.out.b 3) hu rfl (by kernel_rfl)) rfl ?_
    exact ⟨_, _, _, _, _, _, _, _, ws, [], rfl, by (try simp only [List.length_nil]); (try have h1 := Hws.out); have h2 := Hy.out; (try have h3 := Hu.out); omega, by simp, (H.out.keep1 3).nilB.swap1⟩
  · have e5 : (k == 5) = false := by subst h; rfl
    have e6 : (k == 6) = false := by subst h; rfl
    have e22 : (k == 22) = true := by subst h; rfl
    clear h
    rw [e5]
    go_wp2_with (first | ((with_reducible refine nD 35 ?_); refine gC 35 Try.func55 (l3List_own (j := j + 3) H.out (by simpa using HJ.out) HC.out Hc.out 2 (by omega) (by omega)) ?_; rintro e w_ ⟨Ab, cb, ws, rfl, hws, hO⟩; refine ⟨_, rfl, ?_⟩; clear H; have H := aM hO; clear hO; have Hws := aM hws; clear hws) | ((with_reducible refine nS 36 ?_); refine scO 1 3 H.out ?_; clear H; intro _ H) | ((with_reducible refine nD 67 ?_); refine ldO 67 1 H.out hu ?_) | ((with_reducible refine nS 4 ?_); refine stO 3 H.out ?_; clear H; intro _ H))
    refine bodyPost_ret (results_cell_row rfl _ _ g4 41 _ (0, 0) _ rfl (H.out.b 3) hu rfl (by kernel_rfl)) rfl ?_
    exact ⟨_, _, _, _, _, _, _, _, ws, [], rfl, by (try simp only [List.length_nil]); (try have h1 := Hws.out); have h2 := Hy.out; (try have h3 := Hu.out); omega, by simp, (H.out.keep1 3).nilB.swap1⟩
  · have e5 : (k == 5) = false := by subst h; rfl
    have e6 : (k == 6) = false := by subst h; rfl
    have e22 : (k == 22) = false := by subst h; rfl
    have e15 : (k == 15) = true := by subst h; rfl
    clear h
    rw [e5]
    go_wp2_with (first | ((with_reducible refine nD 42 ?_); refine gC 42 Try.func25 (l1Below_own (j := j + 3) H.out (by simpa using HJ.out) HC.out Hc.out 8) ?_; rintro e w_ ⟨z, rfl, z0, z1, hO⟩; refine ⟨_, rfl, ?_⟩; clear H; have H := aM hO; clear hO; have Hz := aM (And.intro z0 (z1 (by omega))); clear z0 z1; have hw2 : IntKind.i64.wrap (1 + y + z) = 1 + y + z := (by have := Hy.out; have := Hz.out; rw [i64wrap, w64 (by omega) (by omega)])) | ((with_reducible refine nD 44 ?_); refine gC 44 Try.func54 (l2Bits_own (j := j + 3) H.out (by simpa using HJ.out) HC.out Hc.out (1 + y + z) (by have := Hy.out; have := Hz.out; omega) (by have := Hy.out; have := Hz.out; omega)) ?_; rintro e w_ ⟨Ab, cb, bs, rfl, hbs, hO⟩; refine ⟨_, rfl, ?_⟩; clear H; have H := aM hO; clear hO; have Hbs := aM hbs; clear hbs) | ((with_reducible refine nS 45 ?_); refine scO 1 4 H.out ?_; clear H; intro _ H) | ((with_reducible refine nD 67 ?_); refine ldO 67 1 H.out hu ?_) | ((with_reducible refine nS 4 ?_); refine stO 3 H.out ?_; clear H; intro _ H))
    refine bodyPost_ret (results_cell_row rfl _ _ g4 41 _ (0, 0) _ rfl (H.out.b 3) hu rfl (by kernel_rfl)) rfl ?_
    exact ⟨_, _, _, _, _, _, _, _, [], bs, rfl, by (try simp only [List.length_nil]); (try have h1 := Hws.out); have h2 := Hy.out; (try have h3 := Hu.out); omega, by have := Hbs.out; have := Hy.out; (try have := Hz.out); omega, (H.out.keep1 3).nilI⟩
  · have e5 : (k == 5) = false := by subst h; rfl
    have e6 : (k == 6) = false := by subst h; rfl
    have e22 : (k == 22) = false := by subst h; rfl
    have e15 : (k == 15) = false := by subst h; rfl
    have e16 : (k == 16) = true := by subst h; rfl
    clear h
    rw [e5]
    go_wp2_with (first | ((with_reducible refine nD 50 ?_); refine gC 50 Try.func55 (l3List_own (j := j + 3) H.out (by simpa using HJ.out) HC.out Hc.out (1 + y) (by have := Hy.out; omega) (by have := Hy.out; omega)) ?_; rintro e w_ ⟨Ab, cb, ws, rfl, hws, hO⟩; refine ⟨_, rfl, ?_⟩; clear H; have H := aM hO; clear hO; have Hws := aM hws; clear hws) | ((with_reducible refine nS 51 ?_); refine scO 1 3 H.out ?_; clear H; intro _ H) | ((with_reducible refine nD 67 ?_); refine ldO 67 1 H.out hu ?_) | ((with_reducible refine nS 4 ?_); refine stO 3 H.out ?_; clear H; intro _ H))
    refine bodyPost_ret (results_cell_row rfl _ _ g4 41 _ (0, 0) _ rfl (H.out.b 3) hu rfl (by kernel_rfl)) rfl ?_
    exact ⟨_, _, _, _, _, _, _, _, ws, [], rfl, by (try simp only [List.length_nil]); (try have h1 := Hws.out); have h2 := Hy.out; (try have h3 := Hu.out); omega, by simp, (H.out.keep1 3).nilB.swap1⟩
  · have e5 : (k == 5) = false := by subst h; rfl
    have e6 : (k == 6) = false := by subst h; rfl
    have e22 : (k == 22) = false := by subst h; rfl
    have e15 : (k == 15) = false := by subst h; rfl
    have e16 : (k == 16) = false := by subst h; rfl
    have e23 : (k == 23) = true := by subst h; rfl
    clear h
    rw [e5]
    go_wp2_with (first | ((with_reducible refine nS 55 ?_); refine scO 0 2 H.out ?_; clear H; intro _ H) | ((with_reducible refine nD 58 ?_); refine gC 58 Try.func25 (l1Below_own (j := j + 3) H.out (by simpa using HJ.out) HC.out Hc.out 12) ?_; rintro e w_ ⟨z, rfl, z0, z1, hO⟩; refine ⟨_, rfl, ?_⟩; clear H; have H := aM hO; clear hO; have Hz := aM (And.intro z0 (z1 (by omega))); clear z0 z1) | ((with_reducible refine nS 60 ?_); refine scO 0 5 H.out ?_; clear H; intro _ H) | ((with_reducible refine nD 63 ?_); refine gC 63 Try.func25 (l1Below_own (j := j + 3) H.out (by simpa using HJ.out) HC.out Hc.out 4) ?_; rintro e w_ ⟨u, rfl, u0, u1, hO⟩; refine ⟨_, rfl, ?_⟩; clear H; have H := aM hO; clear hO; have Hu := aM (And.intro u0 (u1 (by omega))); clear u0 u1; have hw2 : IntKind.i64.wrap (1 + u) = 1 + u := (by have := Hu.out; rw [i64wrap, w64 (by omega) (by omega)])) | ((with_reducible refine nD 65 ?_); refine gC 65 Try.func55 (l3List_own (j := j + 3) H.out (by simpa using HJ.out) HC.out Hc.out (1 + u) (by have := Hu.out; omega) (by have := Hu.out; omega)) ?_; rintro e w_ ⟨Ab, cb, ws, rfl, hws, hO⟩; refine ⟨_, rfl, ?_⟩; clear H; have H := aM hO; clear hO; have Hws := aM hws; clear hws) | ((with_reducible refine nS 66 ?_); refine scO 1 3 H.out ?_; clear H; intro _ H) | ((with_reducible refine nD 67 ?_); refine ldO 67 1 H.out hu ?_) | ((with_reducible refine nS 4 ?_); refine stO 3 H.out ?_; clear H; intro _ H))
    refine bodyPost_ret (results_cell_row rfl _ _ g4 41 _ (0, 0) _ rfl (H.out.b 3) hu rfl (by kernel_rfl)) rfl ?_
    exact ⟨_, _, _, _, _, _, _, _, ws, [], rfl, by (try simp only [List.length_nil]); (try have h1 := Hws.out); have h2 := Hy.out; (try have h3 := Hu.out); omega, by simp, (H.out.keep1 3).nilB.swap1⟩
  · have e5 : (k == 5) = false := by simp [h]
    have e6 : (k == 6) = false := by simp [h]
    have e22 : (k == 22) = false := by simp [h]
    have e15 : (k == 15) = false := by simp [h]
    have e16 : (k == 16) = false := by simp [h]
    have e23 : (k == 23) = false := by simp [h]
    clear h
    rw [e5]
    go_wp2_with (first | ((with_reducible refine nS 21 ?_); refine scO 0 2 H.out ?_; clear H; intro _ H) | ((with_reducible refine nD 67 ?_); refine ldO 67 0 H.out hu ?_) | ((with_reducible refine nS 4 ?_); refine stO 2 H.out ?_; clear H; intro _ H))
    refine bodyPost_ret (results_cell_row rfl _ _ g4 41 _ (0, 0) _ rfl (H.out.b 2) hu rfl (by kernel_rfl)) rfl ?_
    exact ⟨_, _, _, _, _, _, _, _, [], [], rfl, by (try simp only [List.length_nil]); (try have h1 := Hws.out); have h2 := Hy.out; (try have h3 := Hu.out); omega, by simp, (H.out.tail 3).nilB.nilI⟩
/-- A bent question: its rows in their places, or others in these. -/
def BendPost (w0 : World) (L : List It) (r4 r5 : Nat) (e : Ending) (w' : World) : Prop := ∃ (k a n wat : Int) (A4 A5 : Option Addr) (c4 c5 : Nat) (ws : List Int) (bs : List Bool), e = .returned (.agg #[.int .i64 k, .int .i64 a, .int .i64 n, .slice A4 ws.length c4, .slice A5 bs.length c5, .int .i64 wat]) ∧ ws.length ≤ 101 ∧ bs.length ≤ 101 ∧ Own w0 w' ((L.set r4 (ri (.slice A4 ws.length c4) ws)).set r5 (rb (.slice A5 bs.length c5) bs))
theorem set_same {L : List It} {r : Nat} {x : It} (h : L[r]? = some x) : L.set r x = L := by
  obtain ⟨hl, rfl⟩ := List.getElem?_eq_some_iff.1 h
  exact List.set_getElem_self hl
theorem set_two {L : List It} {r4 r5 : Nat} {x y : It} (h4 : L[r4]? = some x) (h5 : L[r5]? = some y) : (L.set r4 x).set r5 y = L := by rw [set_same h4, set_same h5]

set_option maxHeartbeats 8000000 in
set_option maxRecDepth 100000 in
theorem l3Bend_own (H0 : Own w0 w L) (hj : L[j]? = some (cur g A c l)) (hC : Kd.C (Kd.int .u8) w0 A l.length l) (hc : l.length ≤ c) (r4 r5 : Nat) {k a n wat : Int} {A4 A5 : Option Addr} {c4 c5 : Nat} {ws : List Int} {bs : List Bool} (h4 : L[r4]? = some (ri (.slice A4 ws.length c4) ws)) (h5 : L[r5]? = some (rb (.slice A5 bs.length c5) bs)) (hw : ws.length ≤ 100) (hb : bs.length ≤ 100) (hne : r4 ≠ r5) :
    Calls Try.prog 35 #[.pointer (some ⟨g, 0, none⟩), .agg #[.int .i64 k, .int .i64 a, .int .i64 n, .slice A4 ws.length c4, .slice A5 bs.length c5, .int .i64 wat]] w (BendPost w0 L r4 r5) := by
  have HJ := aM hj
  have HC := aM hC
  have Hc := aM hc
  have H := aM H0
  clear hj hC hc H0
  have hu := Try.underlying41
  have H4 := aM h4
  have H5 := aM h5
  have HL := aM (And.intro hw (And.intro hb hne))
  clear h4 h5 hw hb hne
  go_enter Try.func35, Try.ntmps35
  go_upto_if 7 with (first | ((with_reducible refine nD 3 ?_); refine bxO 3 H.out #[.int .i64 k, .int .i64 a, .int .i64 n, .slice A4 ws.length c4, .slice A5 bs.length c5, .int .i64 wat] 41 ?_; clear H; intro g3 _ H) | ((with_reducible refine nD 4 ?_); refine bxO 4 H.out #[.int .i64 0, .int .i64 0, .int .i64 0, .slice none 0 0, .slice none 0 0, .int .i64 0] 41 ?_; clear H; intro g4 _ H) | ((with_reducible refine nD 6 ?_); refine gC 6 Try.func25 (l1Below_own (j := j + 2) H.out (by simpa using HJ.out) HC.out Hc.out 7) ?_; rintro e w_ ⟨x, rfl, x0, x1, hO⟩; refine ⟨_, rfl, ?_⟩; clear H; have H := aM hO; clear hO; have Hx := aM (And.intro x0 (x1 (by omega))); clear x0 x1; obtain ⟨_, _, _, _, _, _, z3, y3, z4, y4, _, _⟩ := bk6 (H.out.b 1)))
  have hk : x = 0 ∨ x = 1 ∨ x = 2 ∨ x = 3 ∨ x = 4 ∨ x = 5 ∨ x = 6 := by have := Hx.out; omega
  rcases hk with h | h | h | h | h | h | h
  · have e0 : (x == 0) = true := by subst h; rfl
    clear h
    rw [e0]
    go_wp2_with (first | ((with_reducible refine nD 10 ?_); refine gC 10 Try.func25 (l1Below_own (j := j + 2) H.out (by simpa using HJ.out) HC.out Hc.out 25) ?_; rintro e w_ ⟨y, rfl, y0, y1, hO⟩; refine ⟨_, rfl, ?_⟩; clear H; have H := aM hO; clear hO; have Hy := aM (And.intro y0 (y1 (by omega))); clear y0 y1) | ((with_reducible refine nS 11 ?_); refine scO 1 0 H.out ?_; clear H; intro _ H) | ((with_reducible refine nD 51 ?_); refine ldO 51 1 H.out hu ?_) | ((with_reducible refine nS 4 ?_); refine stO 0 H.out ?_; clear H; intro _ H))
    refine bodyPost_ret (results_cell_row rfl _ _ g4 41 _ (0, 0) _ rfl (H.out.b 0) hu rfl (by kernel_rfl)) rfl ?_
    exact ⟨_, _, _, _, _, _, _, _, ws, bs, rfl, by have := HL.out; (try rw [List.length_append, List.length_singleton]); omega, by have := HL.out; (try rw [List.length_append, List.length_singleton]); omega, (by rw [set_two H4.out H5.out]; exact H.out.tail 2)⟩
  · have e0 : (x == 0) = false := by subst h; rfl
    have e1 : (x == 1) = true := by subst h; rfl
    clear h
    rw [e0]
    go_wp2_with (first | ((with_reducible refine nD 15 ?_); refine litIL 15 [-1, 65535, 65536, 65530] H.out ?_; clear H; intro Al1 cl1 _ H) | ((with_reducible refine nD 16 ?_); refine gC 16 Try.func33 (l1Int_own (j := j + 3) H.out (by simpa using HJ.out) HC.out Hc.out 0 rfl (by simp)) ?_; rintro e w_ ⟨y, rfl, hy, hO⟩; refine ⟨_, rfl, ?_⟩; clear H; have H := aM hO; clear hO; have Hy := aM hy; clear hy) | ((with_reducible refine nS 17 ?_); refine scO 2 1 H.out ?_; clear H; intro _ H) | ((with_reducible refine nD 51 ?_); refine ldO 51 2 H.out hu ?_) | ((with_reducible refine nS 4 ?_); refine stO 1 H.out ?_; clear H; intro _ H))
    refine bodyPost_ret (results_cell_row rfl _ _ g4 41 _ (0, 0) _ rfl (H.out.b 1) hu rfl (by kernel_rfl)) rfl ?_
    exact ⟨_, _, _, _, _, _, _, _, ws, bs, rfl, by have := HL.out; (try rw [List.length_append, List.length_singleton]); omega, by have := HL.out; (try rw [List.length_append, List.length_singleton]); omega, (by rw [set_two H4.out H5.out]; exact H.out.tail 3)⟩
  · have e0 : (x == 0) = false := by subst h; rfl
    have e1 : (x == 1) = false := by subst h; rfl
    have e2 : (x == 2) = true := by subst h; rfl
    clear h
    rw [e0]
    go_wp2_with (first | ((with_reducible refine nD 21 ?_); refine litIL 21 [0, 1, 125, 126, 2000, 2001, -1] H.out ?_; clear H; intro Al1 cl1 _ H) | ((with_reducible refine nD 22 ?_); refine gC 22 Try.func33 (l1Int_own (j := j + 3) H.out (by simpa using HJ.out) HC.out Hc.out 0 rfl (by simp)) ?_; rintro e w_ ⟨y, rfl, hy, hO⟩; refine ⟨_, rfl, ?_⟩; clear H; have H := aM hO; clear hO; have Hy := aM hy; clear hy) | ((with_reducible refine nS 23 ?_); refine scO 2 2 H.out ?_; clear H; intro _ H) | ((with_reducible refine nD 51 ?_); refine ldO 51 2 H.out hu ?_) | ((with_reducible refine nS 4 ?_); refine stO 1 H.out ?_; clear H; intro _ H))
    refine bodyPost_ret (results_cell_row rfl _ _ g4 41 _ (0, 0) _ rfl (H.out.b 1) hu rfl (by kernel_rfl)) rfl ?_
    exact ⟨_, _, _, _, _, _, _, _, ws, bs, rfl, by have := HL.out; (try rw [List.length_append, List.length_singleton]); omega, by have := HL.out; (try rw [List.length_append, List.length_singleton]); omega, (by rw [set_two H4.out H5.out]; exact H.out.tail 3)⟩
  · have e0 : (x == 0) = false := by subst h; rfl
    have e1 : (x == 1) = false := by subst h; rfl
    have e2 : (x == 2) = false := by subst h; rfl
    have e3 : (x == 3) = true := by subst h; rfl
    clear h
    rw [e0]
    go_wp2_with (first | ((with_reducible refine nD 26 ?_); refine litIL 26 [] H.out ?_; clear H; intro Aq cq _ H; have zg3 := bk6 (H.out.b 2); obtain ⟨zg30, yg30, zg31, yg31, zg32, yg32, zg33, yg33, zg34, yg34, zg35, yg35⟩ := zg3) | ((with_reducible refine nD 29 ?_); refine apIL 0 29 H.out rfl (H.out.ci (r4 + 3) (by simpa using H4.out)) ?_ (by have := HL.out; simp; omega) (List.nil_append ws); clear H; intro Aq cq _ H) | ((with_reducible refine nD 31 ?_); refine litIL 31 [0, 65536, -1] H.out ?_; clear H; intro Al1 cl1 _ H) | ((with_reducible refine nD 32 ?_); refine gC 32 Try.func33 (l1Int_own (j := j + 4) H.out (by simpa using HJ.out) HC.out Hc.out 0 rfl (by simp)) ?_; rintro e w_ ⟨y, rfl, hy, hO⟩; refine ⟨_, rfl, ?_⟩; clear H; have H := aM hO; clear hO; have Hy := aM hy; clear hy) | ((with_reducible refine nD 33 ?_); refine litIL 33 [y] H.out ?_; clear H; intro Al2 cl2 _ H) | ((with_reducible refine nD 34 ?_); refine apIL 2 34 H.out rfl (H.out.ci 0) ?_ (by have := HL.out; simp; omega) rfl; clear H; intro Au cu _ H) | ((with_reducible refine nS 35 ?_); refine scO 4 3 H.out ?_; clear H; intro _ H) | ((with_reducible refine nD 51 ?_); refine ldO 51 4 H.out hu ?_) | ((with_reducible refine nS 4 ?_); refine stO 3 H.out ?_; clear H; intro _ H))
    refine bodyPost_ret (results_cell_row rfl _ _ g4 41 _ (0, 0) _ rfl (H.out.b 3) hu rfl (by kernel_rfl)) rfl ?_
    exact ⟨k, a, n, wat, Au, A5, cu, c5, (ws ++ [y]), bs, by simp, by have := HL.out; (try rw [List.length_append, List.length_singleton]); omega, by have := HL.out; (try rw [List.length_append, List.length_singleton]); omega, (show Own _ _ ((L.set r4 _).set r5 _) from by rw [set_same (x := rb (.slice A5 bs.length c5) bs) (by rw [List.getElem?_set_ne HL.out.2.2]; exact H5.out)]; exact ((H.out.tail 2).keep1 2).swap r4)⟩
  · have e0 : (x == 0) = false := by subst h; rfl
    have e1 : (x == 1) = false := by subst h; rfl
    have e2 : (x == 2) = false := by subst h; rfl
    have e3 : (x == 3) = false := by subst h; rfl
    have e4 : (x == 4) = true := by subst h; rfl
    clear h
    rw [e0]
    go_wp2_with (first | ((with_reducible refine nD 38 ?_); refine litBL 38 [] H.out ?_; clear H; intro Aq cq _ H; have zg3 := bk6 (H.out.b 2); obtain ⟨zg30, yg30, zg31, yg31, zg32, yg32, zg33, yg33, zg34, yg34, zg35, yg35⟩ := zg3) | ((with_reducible refine nD 41 ?_); refine apBL 0 41 H.out rfl (H.out.cb (r5 + 3) (by simpa using H5.out)) ?_ (by have := HL.out; simp; omega) (List.nil_append bs); clear H; intro Aq cq _ H) | ((with_reducible refine nD 42 ?_); refine litBL 42 [true] H.out ?_; clear H; intro Al2 cl2 _ H) | ((with_reducible refine nD 43 ?_); refine apBL 1 43 H.out rfl (H.out.cb 0) ?_ (by have := HL.out; simp; omega) rfl; clear H; intro Au cu _ H) | ((with_reducible refine nS 44 ?_); refine scO 3 4 H.out ?_; clear H; intro _ H) | ((with_reducible refine nD 51 ?_); refine ldO 51 3 H.out hu ?_) | ((with_reducible refine nS 4 ?_); refine stO 2 H.out ?_; clear H; intro _ H))
    refine bodyPost_ret (results_cell_row rfl _ _ g4 41 _ (0, 0) _ rfl (H.out.b 2) hu rfl (by kernel_rfl)) rfl ?_
    exact ⟨k, a, n, wat, A4, Au, c4, cu, ws, (bs ++ [true]), by simp, by have := HL.out; (try rw [List.length_append, List.length_singleton]); omega, by have := HL.out; (try rw [List.length_append, List.length_singleton]); omega, (by rw [set_same H4.out]; exact ((H.out.tail 1).keep1 2).swap r5)⟩
  · have e0 : (x == 0) = false := by subst h; rfl
    have e1 : (x == 1) = false := by subst h; rfl
    have e2 : (x == 2) = false := by subst h; rfl
    have e3 : (x == 3) = false := by subst h; rfl
    have e4 : (x == 4) = false := by subst h; rfl
    have e5 : (x == 5) = true := by subst h; rfl
    clear h
    rw [e0]
    go_wp2_with (first | ((with_reducible refine nD 48 ?_); refine litIL 48 [1, 65535, 65536] H.out ?_; clear H; intro Al1 cl1 _ H) | ((with_reducible refine nD 49 ?_); refine gC 49 Try.func33 (l1Int_own (j := j + 3) H.out (by simpa using HJ.out) HC.out Hc.out 0 rfl (by simp)) ?_; rintro e w_ ⟨y, rfl, hy, hO⟩; refine ⟨_, rfl, ?_⟩; clear H; have H := aM hO; clear hO; have Hy := aM hy; clear hy) | ((with_reducible refine nS 50 ?_); refine scO 2 5 H.out ?_; clear H; intro _ H) | ((with_reducible refine nD 51 ?_); refine ldO 51 2 H.out hu ?_) | ((with_reducible refine nS 4 ?_); refine stO 1 H.out ?_; clear H; intro _ H))
    refine bodyPost_ret (results_cell_row rfl _ _ g4 41 _ (0, 0) _ rfl (H.out.b 1) hu rfl (by kernel_rfl)) rfl ?_
    exact ⟨_, _, _, _, _, _, _, _, ws, bs, rfl, by have := HL.out; (try rw [List.length_append, List.length_singleton]); omega, by have := HL.out; (try rw [List.length_append, List.length_singleton]); omega, (by rw [set_two H4.out H5.out]; exact H.out.tail 3)⟩
  · have e0 : (x == 0) = false := by subst h; rfl
    have e1 : (x == 1) = false := by subst h; rfl
    have e2 : (x == 2) = false := by subst h; rfl
    have e3 : (x == 3) = false := by subst h; rfl
    have e4 : (x == 4) = false := by subst h; rfl
    have e5 : (x == 5) = false := by subst h; rfl
    clear h
    rw [e0]
    go_wp2_with (first | ((with_reducible refine nD 51 ?_); refine ldO 51 1 H.out hu ?_) | ((with_reducible refine nS 4 ?_); refine stO 0 H.out ?_; clear H; intro _ H))
    refine bodyPost_ret (results_cell_row rfl _ _ g4 41 _ (0, 0) _ rfl (H.out.b 0) hu rfl (by kernel_rfl)) rfl ?_
    exact ⟨_, _, _, _, _, _, _, _, ws, bs, rfl, by have := HL.out; (try rw [List.length_append, List.length_singleton]); omega, by have := HL.out; (try rw [List.length_append, List.length_singleton]); omega, (by rw [set_two H4.out H5.out]; exact H.out.tail 2)⟩
end
end Go.Proofs.Ytiiodfagedcofaa.G
