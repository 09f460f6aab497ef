/- Draws: drawn answers, bent ones, and a question with an answer. No condition. -/
import Derived.Test.YtbdifcgkokajlaaGDraw3
import Derived.Test.YtbdifcgkokajlaaGLat
namespace Go.Proofs.Ytbdifcgkokajlaa.G
open Go.Proofs.Ytbdifcgkokajlaa.K Go Go.RowKit Go.Proofs.YtbdifcgkokajlaaW.PrintWords Go.Proofs.YtbdifcgkokajlaaW.PrintLast Go.Proofs.YtbdifcgkokajlaaW.PrintMore Go.Proofs.Ytbdifcgkokajlaa.PlainC
set_option linter.unusedVariables false
set_option linter.unusedSimpArgs false
theorem Own.keep2 {w0 w : World} {L : List It} {x1 x2 : It} (H : Own w0 w (x1 :: x2 :: L)) (m : Nat) {L' : List It} (h : L.drop m = L' := by rfl) : Own w0 w (x1 :: x2 :: L') := H.sub (h ▸ ((List.drop_sublist m L).cons_cons x2).cons_cons x1)
section
variable {w0 w : World} {L : List It} {j g c : Nat} {A : Option Addr} {l : List Int}
/-- An answer, its rows in front of what is one's own. -/
def TellPost (w0 : World) (L : List It) (e : Ending) (w' : World) : Prop := ∃ (k f a n : Int) (A4 A5 : Option Addr) (c4 c5 : Nat) (ws : List Int) (bs : List Bool), e = .returned (.agg #[.int .i64 k, .int .i64 f, .int .i64 a, .int .i64 n, .slice A4 ws.length c4, .slice A5 bs.length c5]) ∧ ws.length ≤ 120 ∧ bs.length ≤ 120 ∧ Own w0 w' (ri (.slice A4 ws.length c4) ws :: rb (.slice A5 bs.length c5) bs :: L)
/-- A bent answer: its rows in their places, or others in these. -/
def TBendPost (w0 : World) (L : List It) (r4 r5 : Nat) (e : Ending) (w' : World) : Prop := ∃ (k f a n : Int) (A4 A5 : Option Addr) (c4 c5 : Nat) (ws : List Int) (bs : List Bool), e = .returned (.agg #[.int .i64 k, .int .i64 f, .int .i64 a, .int .i64 n, .slice A4 ws.length c4, .slice A5 bs.length c5]) ∧ ws.length ≤ 121 ∧ bs.length ≤ 121 ∧ Own w0 w' ((L.set r4 (ri (.slice A4 ws.length c4) ws)).set r5 (rb (.slice A5 bs.length c5) bs))

set_option maxHeartbeats 8000000 in
set_option maxRecDepth 100000 in
theorem l4Draw_own (H0 : Own w0 w L) (hj : L[j]? = some (cur g A c l)) (hC : Kd.C (Kd.int .u8) w0 A l.length l) (hc : l.length ≤ c) (r4 r5 : Nat) {k a n wat : Int} {A4 A5 : Option Addr} {c4 c5 : Nat} {ws : List Int} {bs : List Bool} (h4 : L[r4]? = some (ri (.slice A4 ws.length c4) ws)) (h5 : L[r5]? = some (rb (.slice A5 bs.length c5) bs)) (hw : ws.length ≤ 101) (hb : bs.length ≤ 101) (n0 : 0 ≤ n) (n9 : n ≤ 100) :
    Calls Try.prog 61 #[.pointer (some ⟨g, 0, none⟩), .agg #[.int .i64 k, .int .i64 a, .int .i64 n, .slice A4 ws.length c4, .slice A5 bs.length c5, .int .i64 wat]] w (TellPost w0 L) := by
  have HJ := aM hj
  have HC := aM hC
  have Hc := aM hc
  have H := aM H0
  clear hj hC hc H0
  have hR := Try.underlying28
  have H4 := aM h4
  have H5 := aM h5
  have HB := aM (And.intro hw (And.intro hb (And.intro n0 n9)))
  clear h4 h5 hw hb n0 n9
  go_enter Try.func61, Try.ntmps61
  go_upto_if 7 with (first | ((with_reducible refine nD 3 ?_); refine bxO 3 H.out #[.int .i64 k, .int .i64 a, .int .i64 n, .slice A4 ws.length c4, .slice A5 bs.length c5, .int .i64 wat] 36 ?_; clear H; intro g3 _ H; (try refine nmL ?_)) | ((with_reducible refine nD 4 ?_); refine bxO 4 H.out #[.int .i64 0, .int .i64 0, .int .i64 0, .int .i64 0, .slice none 0 0, .slice none 0 0] 28 ?_; clear H; intro g4 _ H; (try refine nmL ?_)) | ((with_reducible refine nD 7 ?_); refine gC 7 Try.func76 (l1Once_own (j := j + 2) H.out (by simpa using HJ.out) HC.out Hc.out 6) ?_; rintro e w_ ⟨b, rfl, hO⟩; refine ⟨_, rfl, ?_⟩; clear H; have H := aM hO; clear hO; (try refine nmL ?_)))
  cases b with
  | true =>
    go_wp2
    refine rgI [1] 7 H.out ?_
    clear H
    intro w_ H
    have HL := aM (H.out.hasI [1])
    refine pO 0 8 ?_
    refine fO 1 9 0 0 HL.out ?_
    refine pO 2 10 ?_
    clear HL
    refine clS 3 11 Try.func62 (l1Below_own (j := j + 2) H.out (by simpa using HJ.out) HC.out Hc.out 11) ?_
    rintro e w_2 ⟨y, rfl, _, _, hO⟩
    refine ⟨_, rfl, hO.hasI [1], nm ?_⟩
    clear H
    have H := aM hO
    clear hO
    refine pO 4 12 ?_
    refine pO 5 13 ?_
    refine stS 6 0 [1] H.out ?_
    clear H
    intro _ H
    refine done_ (by kernel_rfl) ?_
    try go_wp2
    refine bodyPost_ret (results_cell_row rfl _ _ g4 28 _ (0, 0) _ rfl (H.out.b 0) hR rfl (by kernel_rfl)) rfl ?_
    exact ⟨_, _, _, _, none, none, 0, 0, [], [], rfl, by simp, by simp, (H.out.tail 2).nilB.nilI⟩
  | false =>
    obtain ⟨zg31_0, zg31y_0, zg31_1, zg31y_1, zg31_2, zg31y_2, zg31_3, zg31y_3, zg31_4, zg31y_4, zg31_5, zg31y_5⟩ := bk6 (H.out.b 1)
    go_upto_region 7 with (first | ((with_reducible refine nD 5 ?_); refine bxO 5 H.out #[.int .i64 0, .int .i64 0, .int .i64 0, .int .i64 0, .slice none 0 0, .slice none 0 0] 28 ?_; clear H; intro g5 _ H; obtain ⟨zg32_0, zg32y_0, zg32_1, zg32y_1, zg32_2, zg32y_2, zg32_3, zg32y_3, zg32_4, zg32y_4, zg32_5, zg32y_5⟩ := bk6 (H.out.b 2); (try refine nmL ?_)) | ((with_reducible refine nS 5 ?_); refine stO 0 H.out ?_; clear H; intro _ H; obtain ⟨zg33_0, zg33y_0, zg33_1, zg33y_1, zg33_2, zg33y_2, zg33_3, zg33y_3, zg33_4, zg33y_4, zg33_5, zg33y_5⟩ := bk6 (H.out.b 2); (try refine nmL ?_)))
    have hk : k = 1 ∨ k = 2 ∨ k = 3 ∨ k = 4 ∨ k = 23 ∨ k = 5 ∨ k = 6 ∨ k = 22 ∨ k = 15 ∨ (k ≠ 1 ∧ k ≠ 2 ∧ k ≠ 3 ∧ k ≠ 4 ∧ k ≠ 23 ∧ k ≠ 5 ∧ k ≠ 6 ∧ k ≠ 22 ∧ k ≠ 15) := by omega
    rcases hk with rfl | rfl | rfl | rfl | rfl | rfl | rfl | rfl | rfl | h
    · skip
      go_wp2_with (first | ((with_reducible refine nD 32 ?_); refine gC 32 Try.func74 (l2Bits_own (j := j + 3) H.out (by simpa using HJ.out) HC.out Hc.out n HB.out.2.2.1 (by have := HB.out; omega)) ?_; rintro e w_ ⟨Ab, cb, ys, rfl, hys, hO⟩; refine ⟨_, rfl, ?_⟩; clear H; have H := aM hO; clear hO; have Hys := aM hys; clear hys; (try refine nmL ?_)) | ((with_reducible refine nS 33 ?_); refine scO 1 5 H.out ?_; clear H; intro _ H; obtain ⟨zg54_0, zg54y_0, zg54_1, zg54y_1, zg54_2, zg54y_2, zg54_3, zg54y_3, zg54_4, zg54y_4, zg54_5, zg54y_5⟩ := bk6 (H.out.b 1); (try refine nmL ?_)))
      obtain ⟨T, hT⟩ : ∃ T : Nat, ys.length ≤ T ∧ T % 8 = 0 ∧ T ≤ 110 := ⟨(ys.length + 7) / 8 * 8, by have := Hys.out; have := HB.out; omega⟩
      have HT := aM hT
      clear hT
      go_loopg [] (T + 1) (fun kq w' => ∃ (A' : Option Addr) (c' : Nat) (xs : List Bool), Aside0 (xs.length ≤ T ∧ T + 1 ≤ kq + xs.length) ∧ Aside0 (Own w0 w' (rb (.slice A' xs.length c') xs :: bx g5 #[.int .i64 1, .int .i64 0, .int .i64 0, .int .i64 0, .slice none 0 0, .slice A' xs.length c'] 28 :: bx g4 #[.int .i64 0, .int .i64 0, .int .i64 0, .int .i64 0, .slice none 0 0, .slice none 0 0] 28 :: bx g3 #[.int .i64 1, .int .i64 a, .int .i64 n, .slice A4 ws.length c4, .slice A5 bs.length c5, .int .i64 wat] 36 :: L)))
      case atStart => exact ⟨Ab, cb, ys, ⟨by have := HT.out; omega⟩, H⟩
      case round =>
        clear H
        obtain ⟨A', c', xs, HI, H⟩ := hrel
        obtain ⟨zq_0, zqy_0, zq_1, zqy_1, zq_2, zqy_2, zq_3, zqy_3, zq_4, zqy_4, zq_5, zqy_5⟩ := bk6 (H.out.b 1)
        by_cases h8 : xs.length % 8 = 0
        · have e8 : (Int.tmod (xs.length : Int) 8 != 0) = false := by rw [tmod_pos (by omega)]; simp; omega
          go_wp2_with (first | ((with_reducible refine nD 83 ?_); refine ldO 83 1 H.out hR ?_; (try refine nmL ?_)) | ((with_reducible refine nS 4 ?_); refine stO 2 H.out ?_; clear H; intro _ H; (try refine nmL ?_)))
          refine bodyPost_ret (results_cell_row rfl _ _ g4 28 _ (0, 0) _ rfl (H.out.b 2) hR rfl (by kernel_rfl)) rfl ?_
          exact ⟨_, _, _, _, none, A', 0, c', [], xs, rfl, by simp, by have := HI.out; have := HT.out; omega, (H.out.keep1 3).nilI⟩
        · have e8 : (Int.tmod (xs.length : Int) 8 != 0) = true := by rw [tmod_pos (by omega)]; simp; omega
          obtain ⟨zs, hz, hzl⟩ : ∃ zs : List Bool, xs ++ [false] = zs ∧ zs.length = xs.length + 1 := ⟨_, rfl, by simp⟩
          have HZ := aM hzl
          clear hzl
          go_wp2_with (first | ((with_reducible refine nD 41 ?_); refine litBL 41 [false] H.out ?_; clear H; intro Al cl _ H; obtain ⟨zg55_0, zg55y_0, zg55_1, zg55y_1, zg55_2, zg55y_2, zg55_3, zg55y_3, zg55_4, zg55y_4, zg55_5, zg55y_5⟩ := bk6 (H.out.b 2); (try refine nmL ?_)) | ((with_reducible refine nD 42 ?_); refine apBL 1 42 H.out rfl (H.out.cb 0) ?_ (by have := HI.out; have := HT.out; simp; omega) hz; clear H; intro Au cu _ H; (try refine nmL ?_)) | ((with_reducible refine nS 43 ?_); refine scO 2 5 H.out ?_; clear H; intro _ H; (try refine nmL ?_)))
          go_roundg (gk - 1)
          case measure => have := HI.out; have := HT.out; omega
          case rel => exact ⟨Au, cu, zs, ⟨by have := HI.out; have := HT.out; have := HZ.out; omega⟩, aM (H.out.tail 1)⟩
    · skip
      go_wp2_with (first | ((with_reducible refine nD 32 ?_); refine gC 32 Try.func74 (l2Bits_own (j := j + 3) H.out (by simpa using HJ.out) HC.out Hc.out n HB.out.2.2.1 (by have := HB.out; omega)) ?_; rintro e w_ ⟨Ab, cb, ys, rfl, hys, hO⟩; refine ⟨_, rfl, ?_⟩; clear H; have H := aM hO; clear hO; have Hys := aM hys; clear hys; (try refine nmL ?_)) | ((with_reducible refine nS 33 ?_); refine scO 1 5 H.out ?_; clear H; intro _ H; obtain ⟨zg56_0, zg56y_0, zg56_1, zg56y_1, zg56_2, zg56y_2, zg56_3, zg56y_3, zg56_4, zg56y_4, zg56_5, zg56y_5⟩ := bk6 (H.out.b 1); (try refine nmL ?_)))
      obtain ⟨T, hT⟩ : ∃ T : Nat, ys.length ≤ T ∧ T % 8 = 0 ∧ T ≤ 110 := ⟨(ys.length + 7) / 8 * 8, by have := Hys.out; have := HB.out; omega⟩
      have HT := aM hT
      clear hT
      go_loopg [] (T + 1) (fun kq w' => ∃ (A' : Option Addr) (c' : Nat) (xs : List Bool), Aside0 (xs.length ≤ T ∧ T + 1 ≤ kq + xs.length) ∧ Aside0 (Own w0 w' (rb (.slice A' xs.length c') xs :: bx g5 #[.int .i64 2, .int .i64 0, .int .i64 0, .int .i64 0, .slice none 0 0, .slice A' xs.length c'] 28 :: bx g4 #[.int .i64 0, .int .i64 0, .int .i64 0, .int .i64 0, .slice none 0 0, .slice none 0 0] 28 :: bx g3 #[.int .i64 2, .int .i64 a, .int .i64 n, .slice A4 ws.length c4, .slice A5 bs.length c5, .int .i64 wat] 36 :: L)))
      case atStart => exact ⟨Ab, cb, ys, ⟨by have := HT.out; omega⟩, H⟩
      case round =>
        clear H
        obtain ⟨A', c', xs, HI, H⟩ := hrel
        obtain ⟨zq_0, zqy_0, zq_1, zqy_1, zq_2, zqy_2, zq_3, zqy_3, zq_4, zqy_4, zq_5, zqy_5⟩ := bk6 (H.out.b 1)
        by_cases h8 : xs.length % 8 = 0
        · have e8 : (Int.tmod (xs.length : Int) 8 != 0) = false := by rw [tmod_pos (by omega)]; simp; omega
          go_wp2_with (first | ((with_reducible refine nD 83 ?_); refine ldO 83 1 H.out hR ?_; (try refine nmL ?_)) | ((with_reducible refine nS 4 ?_); refine stO 2 H.out ?_; clear H; intro _ H; (try refine nmL ?_)))
          refine bodyPost_ret (results_cell_row rfl _ _ g4 28 _ (0, 0) _ rfl (H.out.b 2) hR rfl (by kernel_rfl)) rfl ?_
          exact ⟨_, _, _, _, none, A', 0, c', [], xs, rfl, by simp, by have := HI.out; have := HT.out; omega, (H.out.keep1 3).nilI⟩
        · have e8 : (Int.tmod (xs.length : Int) 8 != 0) = true := by rw [tmod_pos (by omega)]; simp; omega
          obtain ⟨zs, hz, hzl⟩ : ∃ zs : List Bool, xs ++ [false] = zs ∧ zs.length = xs.length + 1 := ⟨_, rfl, by simp⟩
          have HZ := aM hzl
          clear hzl
          go_wp2_with (first | ((with_reducible refine nD 41 ?_); refine litBL 41 [false] H.out ?_; clear H; intro Al cl _ H; obtain ⟨zg57_0, zg57y_0, zg57_1, zg57y_1, zg57_2, zg57y_2, zg57_3, zg57y_3, zg57_4, zg57y_4, zg57_5, zg57y_5⟩ := bk6 (H.out.b 2); (try refine nmL ?_)) | ((with_reducible refine nD 42 ?_); refine apBL 1 42 H.out rfl (H.out.cb 0) ?_ (by have := HI.out; have := HT.out; simp; omega) hz; clear H; intro Au cu _ H; (try refine nmL ?_)) | ((with_reducible refine nS 43 ?_); refine scO 2 5 H.out ?_; clear H; intro _ H; (try refine nmL ?_)))
          go_roundg (gk - 1)
          case measure => have := HI.out; have := HT.out; omega
          case rel => exact ⟨Au, cu, zs, ⟨by have := HI.out; have := HT.out; have := HZ.out; omega⟩, aM (H.out.tail 1)⟩
    · skip
      go_wp2_with (first | ((with_reducible refine nD 51 ?_); refine gC 51 Try.func75 (l3List_own (j := j + 3) H.out (by simpa using HJ.out) HC.out Hc.out n HB.out.2.2.1 (by have := HB.out; omega)) ?_; rintro e w_ ⟨Ab, cb, ys, rfl, hys, hO⟩; refine ⟨_, rfl, ?_⟩; clear H; have H := aM hO; clear hO; have Hys := aM hys; clear hys; (try refine nmL ?_)) | ((with_reducible refine nS 52 ?_); refine scO 1 4 H.out ?_; clear H; intro _ H; (try refine nmL ?_)) | ((with_reducible refine nD 83 ?_); refine ldO 83 1 H.out hR ?_; (try refine nmL ?_)) | ((with_reducible refine nS 4 ?_); refine stO 2 H.out ?_; clear H; intro _ H; (try refine nmL ?_)))
      refine bodyPost_ret (results_cell_row rfl _ _ g4 28 _ (0, 0) _ rfl (H.out.b 2) hR rfl (by kernel_rfl)) rfl ?_
      exact ⟨_, _, _, _, Ab, none, cb, 0, ys, [], rfl, by have := Hys.out; have := HB.out; omega, by simp, (H.out.keep1 3).nilB.swap1⟩
    · skip
      go_wp2_with (first | ((with_reducible refine nD 51 ?_); refine gC 51 Try.func75 (l3List_own (j := j + 3) H.out (by simpa using HJ.out) HC.out Hc.out n HB.out.2.2.1 (by have := HB.out; omega)) ?_; rintro e w_ ⟨Ab, cb, ys, rfl, hys, hO⟩; refine ⟨_, rfl, ?_⟩; clear H; have H := aM hO; clear hO; have Hys := aM hys; clear hys; (try refine nmL ?_)) | ((with_reducible refine nS 52 ?_); refine scO 1 4 H.out ?_; clear H; intro _ H; (try refine nmL ?_)) | ((with_reducible refine nD 83 ?_); refine ldO 83 1 H.out hR ?_; (try refine nmL ?_)) | ((with_reducible refine nS 4 ?_); refine stO 2 H.out ?_; clear H; intro _ H; (try refine nmL ?_)))
      refine bodyPost_ret (results_cell_row rfl _ _ g4 28 _ (0, 0) _ rfl (H.out.b 2) hR rfl (by kernel_rfl)) rfl ?_
      exact ⟨_, _, _, _, Ab, none, cb, 0, ys, [], rfl, by have := Hys.out; have := HB.out; omega, by simp, (H.out.keep1 3).nilB.swap1⟩
    · skip
      go_wp2_with (first | ((with_reducible refine nD 51 ?_); refine gC 51 Try.func75 (l3List_own (j := j + 3) H.out (by simpa using HJ.out) HC.out Hc.out n HB.out.2.2.1 (by have := HB.out; omega)) ?_; rintro e w_ ⟨Ab, cb, ys, rfl, hys, hO⟩; refine ⟨_, rfl, ?_⟩; clear H; have H := aM hO; clear hO; have Hys := aM hys; clear hys; (try refine nmL ?_)) | ((with_reducible refine nS 52 ?_); refine scO 1 4 H.out ?_; clear H; intro _ H; (try refine nmL ?_)) | ((with_reducible refine nD 83 ?_); refine ldO 83 1 H.out hR ?_; (try refine nmL ?_)) | ((with_reducible refine nS 4 ?_); refine stO 2 H.out ?_; clear H; intro _ H; (try refine nmL ?_)))
      refine bodyPost_ret (results_cell_row rfl _ _ g4 28 _ (0, 0) _ rfl (H.out.b 2) hR rfl (by kernel_rfl)) rfl ?_
      exact ⟨_, _, _, _, Ab, none, cb, 0, ys, [], rfl, by have := Hys.out; have := HB.out; omega, by simp, (H.out.keep1 3).nilB.swap1⟩
    · skip
      go_wp2_with (first | ((with_reducible refine nS 57 ?_); refine scO 0 2 H.out ?_; clear H; intro _ H; obtain ⟨zg38_0, zg38y_0, zg38_1, zg38y_1, zg38_2, zg38y_2, zg38_3, zg38y_3, zg38_4, zg38y_4, zg38_5, zg38y_5⟩ := bk6 (H.out.b 2); (try refine nmL ?_)) | ((with_reducible refine nD 58 ?_); refine litBL 58 [] H.out ?_; clear H; intro Aq cq _ H; have zg3 := bk6 (H.out.b 3); obtain ⟨zg30, yg30, zg31, yg31, zg32, yg32, zg33, yg33, zg34, yg34, zg35, yg35⟩ := zg3; (try refine nmL ?_)) | ((with_reducible refine nD 61 ?_); refine apBL 0 61 H.out rfl (H.out.cb (r5 + 4) (by simpa using H5.out)) ?_ (by have := HB.out; simp; omega) (List.nil_append bs); clear H; intro Ay cy _ H; (try refine nmL ?_)) | ((with_reducible refine nS 62 ?_); refine scO 1 5 H.out ?_; clear H; intro _ H; (try refine nmL ?_)) | ((with_reducible refine nD 83 ?_); refine ldO 83 1 H.out hR ?_; (try refine nmL ?_)) | ((with_reducible refine nS 4 ?_); refine stO 2 H.out ?_; clear H; intro _ H; (try refine nmL ?_)))
      refine bodyPost_ret (results_cell_row rfl _ _ g4 28 _ (0, 0) _ rfl (H.out.b 2) hR rfl (by kernel_rfl)) rfl ?_
      exact ⟨_, _, _, _, none, Ay, 0, cy, [], bs, rfl, by simp, by have := HB.out; omega, (H.out.keep1 3).nilI⟩
    · skip
      go_wp2_with (first | ((with_reducible refine nS 68 ?_); refine scO 0 2 H.out ?_; clear H; intro _ H; obtain ⟨zg39_0, zg39y_0, zg39_1, zg39y_1, zg39_2, zg39y_2, zg39_3, zg39y_3, zg39_4, zg39y_4, zg39_5, zg39y_5⟩ := bk6 (H.out.b 2); (try refine nmL ?_)) | ((with_reducible refine nD 69 ?_); refine litIL 69 [] H.out ?_; clear H; intro Aq cq _ H; have zg3 := bk6 (H.out.b 3); obtain ⟨zg30, yg30, zg31, yg31, zg32, yg32, zg33, yg33, zg34, yg34, zg35, yg35⟩ := zg3; (try refine nmL ?_)) | ((with_reducible refine nD 72 ?_); refine apIL 0 72 H.out rfl (H.out.ci (r4 + 4) (by simpa using H4.out)) ?_ (by have := HB.out; simp; omega) (List.nil_append ws); clear H; intro Ay cy _ H; (try refine nmL ?_)) | ((with_reducible refine nS 73 ?_); refine scO 1 4 H.out ?_; clear H; intro _ H; (try refine nmL ?_)) | ((with_reducible refine nD 83 ?_); refine ldO 83 1 H.out hR ?_; (try refine nmL ?_)) | ((with_reducible refine nS 4 ?_); refine stO 2 H.out ?_; clear H; intro _ H; (try refine nmL ?_)))
      refine bodyPost_ret (results_cell_row rfl _ _ g4 28 _ (0, 0) _ rfl (H.out.b 2) hR rfl (by kernel_rfl)) rfl ?_
      exact ⟨_, _, _, _, Ay, none, cy, 0, ws, [], rfl, by have := HB.out; omega, by simp, (H.out.keep1 3).nilB.swap1⟩
    · skip
      go_wp2_with (first | ((with_reducible refine nS 68 ?_); refine scO 0 2 H.out ?_; clear H; intro _ H; obtain ⟨zg310_0, zg310y_0, zg310_1, zg310y_1, zg310_2, zg310y_2, zg310_3, zg310y_3, zg310_4, zg310y_4, zg310_5, zg310y_5⟩ := bk6 (H.out.b 2); (try refine nmL ?_)) | ((with_reducible refine nD 69 ?_); refine litIL 69 [] H.out ?_; clear H; intro Aq cq _ H; have zg3 := bk6 (H.out.b 3); obtain ⟨zg30, yg30, zg31, yg31, zg32, yg32, zg33, yg33, zg34, yg34, zg35, yg35⟩ := zg3; (try refine nmL ?_)) | ((with_reducible refine nD 72 ?_); refine apIL 0 72 H.out rfl (H.out.ci (r4 + 4) (by simpa using H4.out)) ?_ (by have := HB.out; simp; omega) (List.nil_append ws); clear H; intro Ay cy _ H; (try refine nmL ?_)) | ((with_reducible refine nS 73 ?_); refine scO 1 4 H.out ?_; clear H; intro _ H; (try refine nmL ?_)) | ((with_reducible refine nD 83 ?_); refine ldO 83 1 H.out hR ?_; (try refine nmL ?_)) | ((with_reducible refine nS 4 ?_); refine stO 2 H.out ?_; clear H; intro _ H; (try refine nmL ?_)))
      refine bodyPost_ret (results_cell_row rfl _ _ g4 28 _ (0, 0) _ rfl (H.out.b 2) hR rfl (by kernel_rfl)) rfl ?_
      exact ⟨_, _, _, _, Ay, none, cy, 0, ws, [], rfl, by have := HB.out; omega, by simp, (H.out.keep1 3).nilB.swap1⟩
    · skip
      go_wp2_with (first | ((with_reducible refine nS 78 ?_); refine scO 0 2 H.out ?_; clear H; intro _ H; obtain ⟨zg311_0, zg311y_0, zg311_1, zg311y_1, zg311_2, zg311y_2, zg311_3, zg311y_3, zg311_4, zg311y_4, zg311_5, zg311y_5⟩ := bk6 (H.out.b 2); (try refine nmL ?_)) | ((with_reducible refine nS 82 ?_); refine scO 0 3 H.out ?_; clear H; intro _ H; (try refine nmL ?_)) | ((with_reducible refine nD 83 ?_); refine ldO 83 0 H.out hR ?_; (try refine nmL ?_)) | ((with_reducible refine nS 4 ?_); refine stO 1 H.out ?_; clear H; intro _ H; (try refine nmL ?_)))
      refine bodyPost_ret (results_cell_row rfl _ _ g4 28 _ (0, 0) _ rfl (H.out.b 1) hR rfl (by kernel_rfl)) rfl ?_
      exact ⟨_, _, _, _, none, none, 0, 0, [], [], rfl, by simp, by simp, (H.out.tail 3).nilB.nilI⟩
    · have e1 : (k == 1) = false := by simp [h]
      have e2 : (k == 2) = false := by simp [h]
      have e3 : (k == 3) = false := by simp [h]
      have e4 : (k == 4) = false := by simp [h]
      have e23 : (k == 23) = false := by simp [h]
      have e5 : (k == 5) = false := by simp [h]
      have e6 : (k == 6) = false := by simp [h]
      have e22 : (k == 22) = false := by simp [h]
      have e15 : (k == 15) = false := by simp [h]
      clear h
      go_wp2_with (first | ((with_reducible refine nS 21 ?_); refine scO 0 2 H.out ?_; clear H; intro _ H; obtain ⟨zg312_0, zg312y_0, zg312_1, zg312y_1, zg312_2, zg312y_2, zg312_3, zg312y_3, zg312_4, zg312y_4, zg312_5, zg312y_5⟩ := bk6 (H.out.b 2); (try refine nmL ?_)) | ((with_reducible refine nS 25 ?_); refine scO 0 3 H.out ?_; clear H; intro _ H; (try refine nmL ?_)) | ((with_reducible refine nD 83 ?_); refine ldO 83 0 H.out hR ?_; (try refine nmL ?_)) | ((with_reducible refine nS 4 ?_); refine stO 1 H.out ?_; clear H; intro _ H; (try refine nmL ?_)))
      refine bodyPost_ret (results_cell_row rfl _ _ g4 28 _ (0, 0) _ rfl (H.out.b 1) hR rfl (by kernel_rfl)) rfl ?_
      exact ⟨_, _, _, _, none, none, 0, 0, [], [], rfl, by simp, by simp, (H.out.tail 3).nilB.nilI⟩
set_option maxHeartbeats 8000000 in
set_option maxRecDepth 100000 in
theorem l4Bend_own (H0 : Own w0 w L) (hj : L[j]? = some (cur g A c l)) (hC : Kd.C (Kd.int .u8) w0 A l.length l) (hc : l.length ≤ c) (r4 r5 : Nat) {k f a n : Int} {A4 A5 : Option Addr} {c4 c5 : Nat} {ws : List Int} {bs : List Bool} (h4 : L[r4]? = some (ri (.slice A4 ws.length c4) ws)) (h5 : L[r5]? = some (rb (.slice A5 bs.length c5) bs)) (hw : ws.length ≤ 120) (hb : bs.length ≤ 120) (hne : r4 ≠ r5) :
    Calls Try.prog 63 #[.pointer (some ⟨g, 0, none⟩), .agg #[.int .i64 k, .int .i64 f, .int .i64 a, .int .i64 n, .slice A4 ws.length c4, .slice A5 bs.length c5]] w (TBendPost w0 L r4 r5) := by
  have HJ := aM hj
  have HC := aM hC
  have Hc := aM hc
  have H := aM H0
  clear hj hC hc H0
  have hR := Try.underlying28
  have H4 := aM h4
  have H5 := aM h5
  have HL := aM (And.intro hw (And.intro hb hne))
  clear h4 h5 hw hb hne
  go_enter Try.func63, Try.ntmps63
  go_upto_region 2 with (first | ((with_reducible refine nD 3 ?_); refine bxO 3 H.out #[.int .i64 k, .int .i64 f, .int .i64 a, .int .i64 n, .slice A4 ws.length c4, .slice A5 bs.length c5] 28 ?_; clear H; intro g3 _ H; (try refine nmL ?_)) | ((with_reducible refine nD 4 ?_); refine bxO 4 H.out #[.int .i64 0, .int .i64 0, .int .i64 0, .int .i64 0, .slice none 0 0, .slice none 0 0] 28 ?_; clear H; intro g4 _ H; (try refine nmL ?_)) | ((with_reducible refine nD 6 ?_); refine gC 6 Try.func62 (l1Below_own (j := j + 2) H.out (by simpa using HJ.out) HC.out Hc.out 7) ?_; rintro e w_ ⟨x, rfl, x0, x1, hO⟩; refine ⟨_, rfl, ?_⟩; clear H; have H := aM hO; clear hO; have Hx := aM (And.intro x0 (x1 (by omega))); clear x0 x1; obtain ⟨zg313_0, zg313y_0, zg313_1, zg313y_1, zg313_2, zg313y_2, zg313_3, zg313y_3, zg313_4, zg313y_4, zg313_5, zg313y_5⟩ := bk6 (H.out.b 1); (try refine nmL ?_)))
  have hk : x = 0 ∨ x = 1 ∨ x = 2 ∨ x = 3 ∨ x = 4 ∨ x = 5 ∨ x = 6 := by have := Hx.out; omega
  rcases hk with rfl | rfl | rfl | rfl | rfl | rfl | rfl
  · skip
    go_wp2_with (first | ((with_reducible refine nD 10 ?_); refine gC 10 Try.func62 (l1Below_own (j := j + 2) H.out (by simpa using HJ.out) HC.out Hc.out 25) ?_; rintro e w_ ⟨y, rfl, y0, y1, hO⟩; refine ⟨_, rfl, ?_⟩; clear H; have H := aM hO; clear hO; have Hy := aM (And.intro y0 (y1 (by omega))); clear y0 y1; (try refine nmL ?_)) | ((with_reducible refine nS 11 ?_); refine scO 1 0 H.out ?_; clear H; intro _ H; (try refine nmL ?_)) | ((with_reducible refine nD 54 ?_); refine ldO 54 1 H.out hR ?_; (try refine nmL ?_)) | ((with_reducible refine nS 4 ?_); refine stO 0 H.out ?_; clear H; intro _ H; (try refine nmL ?_)))
    refine bodyPost_ret (results_cell_row rfl _ _ g4 28 _ (0, 0) _ rfl (H.out.b 0) hR rfl (by kernel_rfl)) rfl ?_
    exact ⟨_, _, _, _, A4, A5, c4, c5, ws, bs, rfl, by have := HL.out; (try rw [List.length_append, List.length_singleton]); omega, by have := HL.out; (try rw [List.length_append, List.length_singleton]); omega, (by rw [set_two H4.out H5.out]; exact H.out.tail 2)⟩
  · skip
    go_wp2_with (first | ((with_reducible refine nD 15 ?_); refine litIL 15 [0, 1, 255, 256, -1] H.out ?_; clear H; intro Al1 cl1 _ H; (try refine nmL ?_)) | ((with_reducible refine nD 16 ?_); refine gC 16 Try.func73 (l1Int_own (j := j + 3) H.out (by simpa using HJ.out) HC.out Hc.out 0 rfl (by simp)) ?_; rintro e w_ ⟨y, rfl, hy, hO⟩; refine ⟨_, rfl, ?_⟩; clear H; have H := aM hO; clear hO; have Hy := aM hy; clear hy; (try refine nmL ?_)) | ((with_reducible refine nS 17 ?_); refine scO 2 1 H.out ?_; clear H; intro _ H; (try refine nmL ?_)) | ((with_reducible refine nD 54 ?_); refine ldO 54 2 H.out hR ?_; (try refine nmL ?_)) | ((with_reducible refine nS 4 ?_); refine stO 1 H.out ?_; clear H; intro _ H; (try refine nmL ?_)))
    refine bodyPost_ret (results_cell_row rfl _ _ g4 28 _ (0, 0) _ rfl (H.out.b 1) hR rfl (by kernel_rfl)) rfl ?_
    exact ⟨_, _, _, _, A4, A5, c4, c5, ws, bs, rfl, by have := HL.out; (try rw [List.length_append, List.length_singleton]); omega, by have := HL.out; (try rw [List.length_append, List.length_singleton]); omega, (by rw [set_two H4.out H5.out]; exact H.out.tail 3)⟩
  · skip
    go_wp2
    refine rgD [7] [1] 8 H.out ?_
    clear H
    intro w_ H
    have HL_ := aM (H.out.hasI [1])
    refine pO 0 20 ?_
    refine fO 1 21 0 2 HL_.out ?_
    refine pO 2 22 ?_
    clear HL_
    refine oneO 3 (some 23) (fun K hK => ?_)
    refine litIS 23 [1, -1, 65536] H.out (fun A6 c6 w1 H1 => hK.out _ _ (H1.out.hasI [2]) (fun _ => nm ?_)) (by simp)
    clear H hK K
    have H := H1
    clear H1
    refine clS 4 24 Try.func73 (l1Int_own (j := j + 3) H.out (by simpa using HJ.out) HC.out Hc.out 0 rfl (by simp)) ?_
    rintro e w_2 ⟨y, rfl, _, hO⟩
    refine ⟨_, rfl, hO.hasI [2], nm ?_⟩
    clear H
    have H := aM hO
    clear hO
    refine pO 5 25 ?_
    refine pO 6 26 ?_
    refine scL 7 2 2 H.out ?_
    clear H
    intro _ H
    refine done_ (by kernel_rfl) ?_
    go_wp2_with (first | ((with_reducible refine nD 54 ?_); refine ldO 54 2 H.out hR ?_; (try refine nmL ?_)) | ((with_reducible refine nS 4 ?_); refine stO 1 H.out ?_; clear H; intro _ H; (try refine nmL ?_)))
    refine bodyPost_ret (results_cell_row rfl _ _ g4 28 _ (0, 0) _ rfl (H.out.b 1) hR rfl (by kernel_rfl)) rfl ?_
    exact ⟨_, _, _, _, A4, A5, c4, c5, ws, bs, rfl, by have := HL.out; (try rw [List.length_append, List.length_singleton]); omega, by have := HL.out; (try rw [List.length_append, List.length_singleton]); omega, (by rw [set_two H4.out H5.out]; exact H.out.tail 3)⟩
  · skip
    go_wp2_with (first | ((with_reducible refine nS 32 ?_); refine scO 1 3 H.out ?_; clear H; intro _ H; (try refine nmL ?_)) | ((with_reducible refine nD 54 ?_); refine ldO 54 1 H.out hR ?_; (try refine nmL ?_)) | ((with_reducible refine nS 4 ?_); refine stO 0 H.out ?_; clear H; intro _ H; (try refine nmL ?_)))
    refine bodyPost_ret (results_cell_row rfl _ _ g4 28 _ (0, 0) _ rfl (H.out.b 0) hR rfl (by kernel_rfl)) rfl ?_
    exact ⟨_, _, _, _, A4, A5, c4, c5, ws, bs, rfl, by have := HL.out; (try rw [List.length_append, List.length_singleton]); omega, by have := HL.out; (try rw [List.length_append, List.length_singleton]); omega, (by rw [set_two H4.out H5.out]; exact H.out.tail 2)⟩
  · skip
    go_wp2_with (first | ((with_reducible refine nD 35 ?_); refine litIL 35 [] H.out ?_; clear H; intro Aq cq _ H; have zg3 := bk6 (H.out.b 2); obtain ⟨zg30, yg30, zg31, yg31, zg32, yg32, zg33, yg33, zg34, yg34, zg35, yg35⟩ := zg3; (try refine nmL ?_)) | ((with_reducible refine nD 38 ?_); refine apIL 0 38 H.out rfl (H.out.ci (r4 + 3) (by simpa using H4.out)) ?_ (by have := HL.out; simp; omega) (List.nil_append ws); clear H; intro Aq cq _ H; (try refine nmL ?_)) | ((with_reducible refine nD 40 ?_); refine litIL 40 [0, 65536] H.out ?_; clear H; intro Al1 cl1 _ H; (try refine nmL ?_)) | ((with_reducible refine nD 41 ?_); refine gC 41 Try.func73 (l1Int_own (j := j + 4) H.out (by simpa using HJ.out) HC.out Hc.out 0 rfl (by simp)) ?_; rintro e w_ ⟨y, rfl, hy, hO⟩; refine ⟨_, rfl, ?_⟩; clear H; have H := aM hO; clear hO; have Hy := aM hy; clear hy; (try refine nmL ?_)) | ((with_reducible refine nD 42 ?_); refine litIL 42 [y] H.out ?_; clear H; intro Al2 cl2 _ H; (try refine nmL ?_)) | ((with_reducible refine nD 43 ?_); refine apIL 2 43 H.out rfl (H.out.ci 0) ?_ (by have := HL.out; simp; omega) rfl; clear H; intro Au cu _ H; (try refine nmL ?_)) | ((with_reducible refine nS 44 ?_); refine scO 4 4 H.out ?_; clear H; intro _ H; (try refine nmL ?_)) | ((with_reducible refine nD 54 ?_); refine ldO 54 4 H.out hR ?_; (try refine nmL ?_)) | ((with_reducible refine nS 4 ?_); refine stO 3 H.out ?_; clear H; intro _ H; (try refine nmL ?_)))
    refine bodyPost_ret (results_cell_row rfl _ _ g4 28 _ (0, 0) _ rfl (H.out.b 3) hR rfl (by kernel_rfl)) rfl ?_
    exact ⟨k, f, a, n, Au, A5, cu, c5, (ws ++ [y]), bs, by simp, by have := HL.out; (try rw [List.length_append, List.length_singleton]); omega, by have := HL.out; (try rw [List.length_append, List.length_singleton]); omega, (show Own _ _ ((L.set r4 _).set r5 _) from by rw [set_same (x := rb (.slice A5 bs.length c5) bs) (by rw [List.getElem?_set_ne HL.out.2.2]; exact H5.out)]; exact ((H.out.tail 2).keep1 2).swap r4)⟩
  · skip
    go_wp2_with (first | ((with_reducible refine nD 47 ?_); refine litBL 47 [] H.out ?_; clear H; intro Aq cq _ H; have zg3 := bk6 (H.out.b 2); obtain ⟨zg30, yg30, zg31, yg31, zg32, yg32, zg33, yg33, zg34, yg34, zg35, yg35⟩ := zg3; (try refine nmL ?_)) | ((with_reducible refine nD 50 ?_); refine apBL 0 50 H.out rfl (H.out.cb (r5 + 3) (by simpa using H5.out)) ?_ (by have := HL.out; simp; omega) (List.nil_append bs); clear H; intro Aq cq _ H; (try refine nmL ?_)) | ((with_reducible refine nD 51 ?_); refine litBL 51 [true] H.out ?_; clear H; intro Al2 cl2 _ H; (try refine nmL ?_)) | ((with_reducible refine nD 52 ?_); refine apBL 1 52 H.out rfl (H.out.cb 0) ?_ (by have := HL.out; simp; omega) rfl; clear H; intro Au cu _ H; (try refine nmL ?_)) | ((with_reducible refine nS 53 ?_); refine scO 3 5 H.out ?_; clear H; intro _ H; (try refine nmL ?_)) | ((with_reducible refine nD 54 ?_); refine ldO 54 3 H.out hR ?_; (try refine nmL ?_)) | ((with_reducible refine nS 4 ?_); refine stO 2 H.out ?_; clear H; intro _ H; (try refine nmL ?_)))
    refine bodyPost_ret (results_cell_row rfl _ _ g4 28 _ (0, 0) _ rfl (H.out.b 2) hR rfl (by kernel_rfl)) rfl ?_
    exact ⟨k, f, a, n, A4, Au, c4, cu, ws, (bs ++ [true]), by simp, by have := HL.out; (try rw [List.length_append, List.length_singleton]); omega, by have := HL.out; (try rw [List.length_append, List.length_singleton]); omega, (by rw [set_same H4.out]; exact ((H.out.tail 1).keep1 2).swap r5)⟩
  · skip
    go_wp2_with (first | ((with_reducible refine nD 54 ?_); refine ldO 54 1 H.out hR ?_; (try refine nmL ?_)) | ((with_reducible refine nS 4 ?_); refine stO 0 H.out ?_; clear H; intro _ H; (try refine nmL ?_)))
    refine bodyPost_ret (results_cell_row rfl _ _ g4 28 _ (0, 0) _ rfl (H.out.b 0) hR rfl (by kernel_rfl)) rfl ?_
    exact ⟨_, _, _, _, A4, A5, c4, c5, ws, bs, rfl, by have := HL.out; (try rw [List.length_append, List.length_singleton]); omega, by have := HL.out; (try rw [List.length_append, List.length_singleton]); omega, (by rw [set_two H4.out H5.out]; exact H.out.tail 2)⟩
/-- An answer, bent or not. -/
def TAnyPost (w0 : World) (L : List It) (e : Ending) (w' : World) : Prop := ∃ (k f a n : Int) (A4 A5 : Option Addr) (c4 c5 : Nat) (ws : List Int) (bs : List Bool), e = .returned (.agg #[.int .i64 k, .int .i64 f, .int .i64 a, .int .i64 n, .slice A4 ws.length c4, .slice A5 bs.length c5]) ∧ ws.length ≤ 121 ∧ bs.length ≤ 121 ∧ Own w0 w' (ri (.slice A4 ws.length c4) ws :: rb (.slice A5 bs.length c5) bs :: L)
set_option maxHeartbeats 8000000 in
set_option maxRecDepth 100000 in
theorem l4DrawAny_own (H0 : Own w0 w L) (hj : L[j]? = some (cur g A c l)) (hC : Kd.C (Kd.int .u8) w0 A l.length l) (hc : l.length ≤ c) : Calls Try.prog 65 #[.pointer (some ⟨g, 0, none⟩)] w (TAnyPost w0 L) := by
  have HJ := aM hj
  have HC := aM hC
  have Hc := aM hc
  have H := aM H0
  clear hj hC hc H0
  have hR := Try.underlying28
  go_enter Try.func65, Try.ntmps65
  go_upto_if 9 with (first | ((with_reducible refine nD 2 ?_); refine bxO 2 H.out #[.int .i64 0, .int .i64 0, .int .i64 0, .int .i64 0, .slice none 0 0, .slice none 0 0] 28 ?_; clear H; intro g2 _ H; (try refine nmL ?_)) | ((with_reducible refine nD 6 ?_); refine gC 6 Try.func60 (l3Draw_own (j := j + 1) H.out (by simpa using HJ.out) HC.out Hc.out 0) ?_; rintro e w_ ⟨k, a, n, wat, A4, A5, c4, c5, ws, bs, rfl, m4, m5, hO⟩; refine ⟨_, rfl, ?_⟩; clear H; have H := aM hO; clear hO; have HQ := aM (And.intro m4 m5); clear m4 m5; (try refine nmL ?_)) | ((with_reducible refine nD 7 ?_); refine gC 7 Try.func61 (l4Draw_own (j := j + 3) H.out (by simpa using HJ.out) HC.out Hc.out 0 1 rfl rfl (by have := HQ.out; omega) (by have := HQ.out; omega) HQ.out.1.2.1 HQ.out.1.2.2) ?_; rintro e w_ ⟨k2, f2, a2, n2, B4, B5, d4, d5, vs, ts, rfl, m4, m5, hO⟩; refine ⟨_, rfl, ?_⟩; clear H; have H := aM hO; clear hO; have HT := aM (And.intro m4 m5); clear m4 m5; (try refine nmL ?_)) | ((with_reducible refine nD 3 ?_); refine bxO 3 H.out #[.int .i64 0, .int .i64 0, .int .i64 0, .int .i64 0, .slice none 0 0, .slice none 0 0] 28 ?_; clear H; intro g3 _ H; (try refine nmL ?_)) | ((with_reducible refine nS 3 ?_); refine stO 0 H.out ?_; clear H; intro _ H; (try refine nmL ?_)) | ((with_reducible refine nD 9 ?_); refine gC 9 Try.func76 (l1Once_own (j := j + 6) H.out (by simpa using HJ.out) HC.out Hc.out 4) ?_; rintro e w_ ⟨b, rfl, hO⟩; refine ⟨_, rfl, ?_⟩; clear H; have H := aM hO; clear hO; (try refine nmL ?_)))
  cases b with
  | false =>
    go_wp2_with (first | ((with_reducible refine nD 13 ?_); refine ldO 13 0 H.out hR ?_; (try refine nmL ?_)) | ((with_reducible refine nS 2 ?_); refine stO 5 H.out ?_; clear H; intro _ H; (try refine nmL ?_)))
    refine bodyPost_ret (results_cell_row rfl _ _ g2 28 _ (0, 0) _ rfl (H.out.b 5) hR rfl (by kernel_rfl)) rfl ?_
    exact ⟨_, _, _, _, _, _, _, _, _, _, rfl, by have := HT.out; omega, by have := HT.out; omega, (show Own _ _ (_ :: _ :: L) from (H.out.tail 1).keep2 3)⟩
  | true =>
    go_wp2_with (first | ((with_reducible refine nD 11 ?_); refine ldO 11 0 H.out hR ?_; (try refine nmL ?_)) | ((with_reducible refine nD 12 ?_); refine gC 12 Try.func63 (l4Bend_own (j := j + 6) H.out (by simpa using HJ.out) HC.out Hc.out 1 2 rfl rfl HT.out.1 HT.out.2 (by decide)) ?_; rintro e w_ ⟨k3, f3, a3, n3, E4, E5, x4, x5, vs3, ts3, rfl, m4, m5, hO⟩; refine ⟨_, rfl, ?_⟩; clear H; have H := aM hO; clear hO; have HU := aM (And.intro m4 m5); clear m4 m5; (try refine nmL ?_)) | ((with_reducible refine nS 3 ?_); refine stO 0 H.out ?_; clear H; intro _ H; (try refine nmL ?_)) | ((with_reducible refine nD 13 ?_); refine ldO 13 0 H.out hR ?_; (try refine nmL ?_)) | ((with_reducible refine nS 2 ?_); refine stO 5 H.out ?_; clear H; intro _ H; (try refine nmL ?_)))
    refine bodyPost_ret (results_cell_row rfl _ _ g2 28 _ (0, 0) _ rfl (H.out.b 5) hR rfl (by kernel_rfl)) rfl ?_
    exact ⟨_, _, _, _, _, _, _, _, _, _, rfl, HU.out.1, HU.out.2, (show Own _ _ (_ :: _ :: L) from (H.out.tail 1).keep2 3)⟩
end
/-- A question and an answer, their rows a call's own. -/
def SuitPost (w : World) (e : Ending) (w' : World) : Prop := ∃ (k a n wat : Int) (A4 A5 : Option Addr) (c4 c5 : Nat) (ws : List Int) (bs : List Bool) (k2 f2 a2 n2 : Int) (B4 B5 : Option Addr) (d4 d5 : Nat) (vs : List Int) (ts : List Bool), e = .returned (.tuple #[.agg #[.int .i64 k, .int .i64 a, .int .i64 n, .slice A4 ws.length c4, .slice A5 bs.length c5, .int .i64 wat], .agg #[.int .i64 k2, .int .i64 f2, .int .i64 a2, .int .i64 n2, .slice B4 vs.length d4, .slice B5 ts.length d5]]) ∧ ws.length ≤ 101 ∧ bs.length ≤ 101 ∧ vs.length ≤ 121 ∧ ts.length ≤ 121 ∧
  Own w w' [ri (.slice B4 vs.length d4) vs, rb (.slice B5 ts.length d5) ts, ri (.slice A4 ws.length c4) ws, rb (.slice A5 bs.length c5) bs]
set_option maxHeartbeats 8000000 in
set_option maxRecDepth 100000 in
theorem DrawSuits_own {A : Option Addr} {c : Nat} {l : List Int} (w : World) (hC : Kd.C (Kd.int .u8) w A l.length l) (hc : l.length ≤ c) : Calls Try.prog 26 #[.slice A l.length c] w (SuitPost w) := by
  have HC := aM hC
  have Hc := aM hc
  have H := aM (Own.nil w)
  clear hC hc
  have hR := Try.underlying28
  have hq := Try.underlying36
  go_enter Try.func26, Try.ntmps26
  go_upto_region 5 with (first | ((with_reducible refine nD 2 ?_); refine bxO 2 H.out #[.int .i64 0, .int .i64 0, .int .i64 0, .slice none 0 0, .slice none 0 0, .int .i64 0] 36 ?_; clear H; intro g2 _ H; (try refine nmL ?_)) | ((with_reducible refine nD 3 ?_); refine bxO 3 H.out #[.int .i64 0, .int .i64 0, .int .i64 0, .int .i64 0, .slice none 0 0, .slice none 0 0] 28 ?_; clear H; intro g3 _ H; (try refine nmL ?_)) | ((with_reducible refine nD 8 ?_); refine gC 8 Try.func59 (l1New_own _ (H.out.arg HC.out) Hc.out) ?_; rintro e w_ ⟨g, rfl, hO⟩; refine ⟨_, rfl, ?_⟩; replace H := aM (H.out.app hO); clear hO; (try refine nmL ?_)) | ((with_reducible refine nD 10 ?_); refine gC 10 Try.func60 (l3Draw_own (j := 0) H.out rfl HC.out Hc.out 0) ?_; rintro e w_ ⟨k, a, n, wat, A4, A5, c4, c5, ws, bs, rfl, m4, m5, hO⟩; refine ⟨_, rfl, ?_⟩; clear H; have H := aM hO; clear hO; have HQ := aM (And.intro m4 m5); clear m4 m5; (try refine nmL ?_)) | ((with_reducible refine nD 5 ?_); refine bxO 5 H.out #[.int .i64 0, .int .i64 0, .int .i64 0, .slice none 0 0, .slice none 0 0, .int .i64 0] 36 ?_; clear H; intro g5 _ H; (try refine nmL ?_)) | ((with_reducible refine nS 5 ?_); refine stO 0 H.out ?_; clear H; intro _ H; (try refine nmL ?_)) | ((with_reducible refine nD 12 ?_); refine ldO 12 0 H.out hq ?_; (try refine nmL ?_)) | ((with_reducible refine nD 13 ?_); refine gC 13 Try.func61 (l4Draw_own (j := 3) H.out rfl HC.out Hc.out 1 2 rfl rfl (by have := HQ.out; omega) (by have := HQ.out; omega) HQ.out.1.2.1 HQ.out.1.2.2) ?_; rintro e w_ ⟨k2, f2, a2, n2, B4, B5, d4, d5, vs, ts, rfl, m4, m5, hO⟩; refine ⟨_, rfl, ?_⟩; clear H; have H := aM hO; clear hO; have HT := aM (And.intro m4 m5); clear m4 m5; (try refine nmL ?_)) | ((with_reducible refine nD 6 ?_); refine bxO 6 H.out #[.int .i64 0, .int .i64 0, .int .i64 0, .int .i64 0, .slice none 0 0, .slice none 0 0] 28 ?_; clear H; intro g6 _ H; (try refine nmL ?_)) | ((with_reducible refine nS 6 ?_); refine stO 0 H.out ?_; clear H; intro _ H; (try refine nmL ?_)) | ((with_reducible refine nD 15 ?_); refine gC 15 Try.func62 (l1Below_own (j := 6) H.out rfl HC.out Hc.out 6) ?_; rintro e w_ ⟨x, rfl, x0, x1, hO⟩; refine ⟨_, rfl, ?_⟩; clear H; have H := aM hO; clear hO; have Hx := aM (And.intro x0 (x1 (by omega))); clear x0 x1; (try refine nmL ?_)))
  have hk : x = 0 ∨ x = 1 ∨ x = 2 ∨ (x ≠ 0 ∧ x ≠ 1 ∧ x ≠ 2) := by omega
  rcases hk with rfl | rfl | rfl | h
  · skip
    go_upto_region 11 with (first | ((with_reducible refine nD 19 ?_); refine ldO 19 0 H.out hR ?_; (try refine nmL ?_)) | ((with_reducible refine nD 20 ?_); refine gC 20 Try.func63 (l4Bend_own (j := 6) H.out rfl HC.out Hc.out 1 2 rfl rfl HT.out.1 HT.out.2 (by decide)) ?_; rintro e w_ ⟨k3, f3, a3, n3, E4, E5, x4, x5, vs3, ts3, rfl, m4, m5, hO⟩; refine ⟨_, rfl, ?_⟩; clear H; have H := aM hO; clear hO; have HU := aM (And.intro m4 m5); clear m4 m5; (try refine nmL ?_)) | ((with_reducible refine nS 6 ?_); refine stO 0 H.out ?_; clear H; intro _ H; (try refine nmL ?_)))
    refine rgI [3, 0] 4 H.out ?_
    clear H
    intro _ H
    have HL := aM (H.out.hasI [3, 0])
    refine lO 0 30 0 hq HL.out ?_
    refine lO 1 31 1 hR HL.out ?_
    clear HL
    refine stS 2 8 [3, 0] H.out ?_
    clear H
    intro _ H
    refine stS 3 7 [3, 0] H.out ?_
    clear H
    intro _ H
    refine done_ (by kernel_rfl) ?_
    try go_wp2
    refine bodyPost_ret (results_cc rfl _ _ g2 g3 36 28 _ _ (0, 0) (0, 0) _ _ rfl (H.out.b 8) hq rfl (by kernel_rfl) rfl (H.out.b 7) hR rfl (by kernel_rfl)) rfl ?_
    exact ⟨_, _, _, _, _, _, _, _, _, _, _, _, _, _, _, _, _, _, _, _, rfl, by have := HQ.out; omega, by have := HQ.out; omega, by have := HU.out; omega, by have := HU.out; omega, H.out.sub (by repeat (first | exact List.nil_sublist _ | apply List.Sublist.cons_cons | apply List.Sublist.cons))⟩
  · skip
    go_upto_region 11 with (first | ((with_reducible refine nD 24 ?_); refine ldO 24 3 H.out hq ?_; (try refine nmL ?_)) | ((with_reducible refine nD 25 ?_); refine gC 25 Try.func64 (l3Bend_own (j := 6) H.out rfl HC.out Hc.out 4 5 rfl rfl HQ.out.1.1 HQ.out.2 (by decide)) ?_; rintro e w_ ⟨k3, a3, n3, wat3, E4, E5, x4, x5, vs3, ts3, rfl, m4, m5, hO⟩; refine ⟨_, rfl, ?_⟩; clear H; have H := aM hO; clear hO; have HU := aM (And.intro m4 m5); clear m4 m5; (try refine nmL ?_)) | ((with_reducible refine nS 5 ?_); refine stO 3 H.out ?_; clear H; intro _ H; (try refine nmL ?_)))
    refine rgI [3, 0] 4 H.out ?_
    clear H
    intro _ H
    have HL := aM (H.out.hasI [3, 0])
    refine lO 0 30 0 hq HL.out ?_
    refine lO 1 31 1 hR HL.out ?_
    clear HL
    refine stS 2 8 [3, 0] H.out ?_
    clear H
    intro _ H
    refine stS 3 7 [3, 0] H.out ?_
    clear H
    intro _ H
    refine done_ (by kernel_rfl) ?_
    try go_wp2
    refine bodyPost_ret (results_cc rfl _ _ g2 g3 36 28 _ _ (0, 0) (0, 0) _ _ rfl (H.out.b 8) hq rfl (by kernel_rfl) rfl (H.out.b 7) hR rfl (by kernel_rfl)) rfl ?_
    exact ⟨_, _, _, _, _, _, _, _, _, _, _, _, _, _, _, _, _, _, _, _, rfl, by have := HU.out; omega, by have := HU.out; omega, by have := HT.out; omega, by have := HT.out; omega, H.out.sub (by repeat (first | exact List.nil_sublist _ | apply List.Sublist.cons_cons | apply List.Sublist.cons))⟩
  · skip
    go_upto_region 11 with (first | ((with_reducible refine nD 29 ?_); refine gC 29 Try.func65 (l4DrawAny_own (j := 6) H.out rfl HC.out Hc.out) ?_; rintro e w_ ⟨k3, f3, a3, n3, E4, E5, x4, x5, vs3, ts3, rfl, m4, m5, hO⟩; refine ⟨_, rfl, ?_⟩; clear H; have H := aM hO; clear hO; have HU := aM (And.intro m4 m5); clear m4 m5; (try refine nmL ?_)) | ((with_reducible refine nS 6 ?_); refine stO 2 H.out ?_; clear H; intro _ H; (try refine nmL ?_)))
    refine rgI [5, 2] 4 H.out ?_
    clear H
    intro _ H
    have HL := aM (H.out.hasI [5, 2])
    refine lO 0 30 0 hq HL.out ?_
    refine lO 1 31 1 hR HL.out ?_
    clear HL
    refine stS 2 10 [5, 2] H.out ?_
    clear H
    intro _ H
    refine stS 3 9 [5, 2] H.out ?_
    clear H
    intro _ H
    refine done_ (by kernel_rfl) ?_
    try go_wp2
    refine bodyPost_ret (results_cc rfl _ _ g2 g3 36 28 _ _ (0, 0) (0, 0) _ _ rfl (H.out.b 10) hq rfl (by kernel_rfl) rfl (H.out.b 9) hR rfl (by kernel_rfl)) rfl ?_
    exact ⟨_, _, _, _, _, _, _, _, _, _, _, _, _, _, _, _, _, _, _, _, rfl, by have := HQ.out; omega, by have := HQ.out; omega, by have := HU.out; omega, by have := HU.out; omega, H.out.sub (by repeat (first | exact List.nil_sublist _ | apply List.Sublist.cons_cons | apply List.Sublist.cons))⟩
  · have e0 : (x == 0) = false := by simp [h]
    have e1 : (x == 1) = false := by simp [h]
    have e2 : (x == 2) = false := by simp [h]
    clear h
    go_upto_region 11 with fail
    refine rgI [3, 0] 4 H.out ?_
    clear H
    intro _ H
    have HL := aM (H.out.hasI [3, 0])
    refine lO 0 30 0 hq HL.out ?_
    refine lO 1 31 1 hR HL.out ?_
    clear HL
    refine stS 2 8 [3, 0] H.out ?_
    clear H
    intro _ H
    refine stS 3 7 [3, 0] H.out ?_
    clear H
    intro _ H
    refine done_ (by kernel_rfl) ?_
    try go_wp2
    refine bodyPost_ret (results_cc rfl _ _ g2 g3 36 28 _ _ (0, 0) (0, 0) _ _ rfl (H.out.b 8) hq rfl (by kernel_rfl) rfl (H.out.b 7) hR rfl (by kernel_rfl)) rfl ?_
    exact ⟨_, _, _, _, _, _, _, _, _, _, _, _, _, _, _, _, _, _, _, _, rfl, by have := HQ.out; omega, by have := HQ.out; omega, by have := HT.out; omega, by have := HT.out; omega, H.out.sub (by repeat (first | exact List.nil_sublist _ | apply List.Sublist.cons_cons | apply List.Sublist.cons))⟩
end Go.Proofs.Ytbdifcgkokajlaa.G
