/- What the exact laws ask their own helpers of devices, questions, answers. Condition: no row is longer than a machine's memory. -/
import Derived.Test.YtiogbjbkfhhdhaaGHelp
namespace Go.Proofs.Ytiogbjbkfhhdhaa.G
open Go.Proofs.Ytiogbjbkfhhdhaa.K Go Go.RowKit Go.Proofs.YtiogbjbkfhhdhaaW.PrintWords Go.Proofs.YtiogbjbkfhhdhaaW.PrintLast Go.Proofs.YtiogbjbkfhhdhaaW.PrintMore Go.Proofs.Ytiogbjbkfhhdhaa.PlainC
set_option linter.unusedVariables false
set_option linter.unusedSimpArgs false
theorem Own.rev4 {w0 w : World} {x1 x2 x3 x4 : It} (H : Own w0 w [x4, x3, x2, x1]) : Own w0 w [x1, x2, x3, x4] := H.perm (List.reverse_perm [x1, x2, x3, x4])
theorem Own.rev2 {w0 w : World} {x1 x2 : It} (H : Own w0 w [x2, x1]) : Own w0 w [x1, x2] := H.perm (List.reverse_perm [x1, x2])
set_option maxHeartbeats 4000000 in
set_option maxRecDepth 100000 in
theorem szDevice_own {w : World} {A0 A1 A2 A3 : Option Addr} {c0 c1 c2 c3 n0 n1 n2 n3 : Nat} (b0 : n0 ≤ 9223372036854775807) (b1 : n1 ≤ 9223372036854775807) (b2 : n2 ≤ 9223372036854775807) (b3 : n3 ≤ 9223372036854775807) {left : Int} (p0 : 0 ≤ left) (p1 : left ≤ 1048576) : Calls Try.prog 5 #[.agg #[.slice A0 n0 c0, .slice A1 n1 c1, .slice A2 n2 c2, .slice A3 n3 c3], .int .i64 left] w (SzPost (n0 + n1 + n2 + n3) left w) := by
  have HB := aM (And.intro b0 (And.intro b1 (And.intro b2 (b3))))
  have HP := aM (And.intro p0 p1)
  have H := aM (Own.nil w)
  clear b0 b1 b2 b3 p0 p1
  go_enter Try.func5, Try.ntmps5
  go_upto_region 2 with (first | ((with_reducible refine nD 2 ?_); refine bxO 2 H.out #[.slice A0 n0 c0, .slice A1 n1 c1, .slice A2 n2 c2, .slice A3 n3 c3] 25 ?_; clear H; intro g2 _ H; obtain ⟨zg21_0, zg21y_0, zg21_1, zg21y_1, zg21_2, zg21y_2, zg21_3, zg21y_3⟩ := bk4 (H.out.b 0)) | ((with_reducible refine nD 8 ?_); refine gC 8 Try.func28 (szB_own (n := n0) HB.out.1 HP.out.1 HP.out.2) ?_; rintro e w_ ⟨r0, rfl, ra, rb_, hO⟩; refine ⟨_, rfl, ?_⟩; replace H := aM (H.out.step hO); clear hO; have hq := And.intro ra rb_; clear ra rb_; obtain ⟨zg22_0, zg22y_0, zg22_1, zg22y_1, zg22_2, zg22y_2, zg22_3, zg22y_3⟩ := bk4 (H.out.b 0)))
  by_cases hr : r0 < 0
  · have d1 : decide (r0 < 0) = true := decide_eq_true hr
    go_wp2
    go_ret
    exact ⟨-1, rfl, by omega, by have := HP.out; omega, H.out.below⟩
  have d2 : decide (r0 < 0) = false := decide_eq_false hr
  have HR0 := aM (show (r0 = left - n0) ∧ r0 ≤ left ∧ 0 ≤ r0 from ⟨hq.1 (by omega), by have := hq.2; omega, by omega⟩)
  clear hq hr
  go_upto_region 5 with (first | ((with_reducible refine nD 14 ?_); refine gC 14 Try.func28 (szB_own (n := n1) HB.out.2.1 (by have := HR0.out.2.2; omega) (by have := HR0.out.2.1; have := HP.out.2; omega)) ?_; rintro e w_ ⟨r1, rfl, ra, rb_, hO⟩; refine ⟨_, rfl, ?_⟩; replace H := aM (H.out.step hO); clear hO; have hq := And.intro ra rb_; clear ra rb_; obtain ⟨zg23_0, zg23y_0, zg23_1, zg23y_1, zg23_2, zg23y_2, zg23_3, zg23y_3⟩ := bk4 (H.out.b 0)))
  by_cases hr : r1 < 0
  · have d1 : decide (r1 < 0) = true := decide_eq_true hr
    go_wp2
    go_ret
    exact ⟨-1, rfl, by omega, by have := HP.out; omega, H.out.below⟩
  have d3 : decide (r1 < 0) = false := decide_eq_false hr
  have HR1 := aM (show (r1 = r0 - n1) ∧ r1 ≤ left ∧ 0 ≤ r1 from ⟨hq.1 (by omega), by have := hq.2; have := HR0.out.2.1; omega, by omega⟩)
  clear hq hr
  go_upto_region 8 with (first | ((with_reducible refine nD 20 ?_); refine gC 20 Try.func29 (szI_own (n := n2) HB.out.2.2.1 (by have := HR1.out.2.2; omega) (by have := HR1.out.2.1; have := HP.out.2; omega)) ?_; rintro e w_ ⟨r2, rfl, ra, rb_, hO⟩; refine ⟨_, rfl, ?_⟩; replace H := aM (H.out.step hO); clear hO; have hq := And.intro ra rb_; clear ra rb_; obtain ⟨zg24_0, zg24y_0, zg24_1, zg24y_1, zg24_2, zg24y_2, zg24_3, zg24y_3⟩ := bk4 (H.out.b 0)))
  by_cases hr : r2 < 0
  · have d1 : decide (r2 < 0) = true := decide_eq_true hr
    go_wp2
    go_ret
    exact ⟨-1, rfl, by omega, by have := HP.out; omega, H.out.below⟩
  have d4 : decide (r2 < 0) = false := decide_eq_false hr
  have HR2 := aM (show (r2 = r1 - n2) ∧ r2 ≤ left ∧ 0 ≤ r2 from ⟨hq.1 (by omega), by have := hq.2; have := HR1.out.2.1; omega, by omega⟩)
  clear hq hr
  go_upto_region 11 with (first | ((with_reducible refine nD 26 ?_); refine gC 26 Try.func29 (szI_own (n := n3) HB.out.2.2.2 (by have := HR2.out.2.2; omega) (by have := HR2.out.2.1; have := HP.out.2; omega)) ?_; rintro e w_ ⟨r3, rfl, ra, rb_, hO⟩; refine ⟨_, rfl, ?_⟩; replace H := aM (H.out.step hO); clear hO; have hq := And.intro ra rb_; clear ra rb_; obtain ⟨zg25_0, zg25y_0, zg25_1, zg25y_1, zg25_2, zg25y_2, zg25_3, zg25y_3⟩ := bk4 (H.out.b 0)))
  by_cases hr : r3 < 0
  · have d1 : decide (r3 < 0) = true := decide_eq_true hr
    go_wp2
    go_ret
    exact ⟨-1, rfl, by omega, by have := HP.out; omega, H.out.below⟩
  have d5 : decide (r3 < 0) = false := decide_eq_false hr
  have HR3 := aM (show (r3 = r2 - n3) ∧ r3 ≤ left ∧ 0 ≤ r3 from ⟨hq.1 (by omega), by have := hq.2; have := HR2.out.2.1; omega, by omega⟩)
  clear hq hr
  go_wp2
  go_ret
  exact ⟨r3, rfl, fun _ => by have := HR0.out.1; have := HR1.out.1; have := HR2.out.1; have := HR3.out.1; omega, HR3.out.2.1, H.out.below⟩
def ToDevicePost (w : World) (l0 : List Bool) (l1 : List Bool) (l2 : List Int) (l3 : List Int) (e : Ending) (w' : World) : Prop := ∃ B0 B1 B2 B3 : Option Addr, ∃ e0 e1 e2 e3 : Nat, e = .returned (.agg #[.slice B0 l0.length e0, .slice B1 l1.length e1, .slice B2 l2.length e2, .slice B3 l3.length e3]) ∧ Own w w' [rb (.slice B0 l0.length e0) l0, rb (.slice B1 l1.length e1) l1, ri (.slice B2 l2.length e2) l2, ri (.slice B3 l3.length e3) l3]
set_option maxHeartbeats 4000000 in
set_option maxRecDepth 100000 in
theorem toDevice_own {w : World} {A0 A1 A2 A3 : Option Addr} {c0 c1 c2 c3 : Nat} {l0 : List Bool} {l1 : List Bool} {l2 : List Int} {l3 : List Int} (h0 : Kd.C Kd.bool w A0 l0.length l0) (h1 : Kd.C Kd.bool w A1 l1.length l1) (h2 : Kd.C (Kd.int .i64) w A2 l2.length l2) (h3 : Kd.C (Kd.int .i64) w A3 l3.length l3) (m0 : l0.length ≤ 1048576) (m1 : l1.length ≤ 1048576) (m2 : l2.length ≤ 1048576) (m3 : l3.length ≤ 1048576) : Calls Try.prog 8 #[.agg #[.slice A0 l0.length c0, .slice A1 l1.length c1, .slice A2 l2.length c2, .slice A3 l3.length c3]] w (ToDevicePost w  l0 l1 l2 l3) := by
  have hu := Try.underlying30
  have HC := aM (And.intro h0 (And.intro h1 (And.intro h2 (h3))))
  have HM := aM (And.intro m0 (And.intro m1 (And.intro m2 (m3))))
  have H := aM (Own.nil w)
  clear h0 m0 h1 m1 h2 m2 h3 m3
  go_enter Try.func8, Try.ntmps8
  go_wp2_with (first | ((with_reducible refine nD 1 ?_); refine bxO 1 H.out #[.slice A0 l0.length c0, .slice A1 l1.length c1, .slice A2 l2.length c2, .slice A3 l3.length c3] 25 ?_; clear H; intro g1 _ H) | ((with_reducible refine nD 2 ?_); refine bxO 2 H.out #[.slice none 0 0, .slice none 0 0, .slice none 0 0, .slice none 0 0] 30 ?_; clear H; intro g2 _ H) | ((with_reducible refine nD 3 ?_); refine bxO 3 H.out #[.slice none 0 0, .slice none 0 0, .slice none 0 0, .slice none 0 0] 30 ?_; clear H; intro g3 _ H; obtain ⟨zg16_0, zg16y_0, zg16_1, zg16y_1, zg16_2, zg16y_2, zg16_3, zg16y_3⟩ := bk4 (H.out.b 2)) | ((with_reducible refine nD 6 ?_); refine gC 6 Try.func37 (toB_own (H.out.arg HC.out.1) HM.out.1) ?_; rintro e w_ ⟨B0, e0, rfl, hO⟩; refine ⟨_, rfl, ?_⟩; replace H := aM (H.out.app hO); clear hO) | ((with_reducible refine nS 7 ?_); refine scO 1 0 H.out ?_; clear H; intro _ H; obtain ⟨zg17_0, zg17y_0, zg17_1, zg17y_1, zg17_2, zg17y_2, zg17_3, zg17y_3⟩ := bk4 (H.out.b 3)) | ((with_reducible refine nD 10 ?_); refine gC 10 Try.func37 (toB_own (H.out.arg HC.out.2.1) HM.out.2.1) ?_; rintro e w_ ⟨B1, e1, rfl, hO⟩; refine ⟨_, rfl, ?_⟩; replace H := aM (H.out.app hO); clear hO) | ((with_reducible refine nS 11 ?_); refine scO 2 1 H.out ?_; clear H; intro _ H; obtain ⟨zg18_0, zg18y_0, zg18_1, zg18y_1, zg18_2, zg18y_2, zg18_3, zg18y_3⟩ := bk4 (H.out.b 4)) | ((with_reducible refine nD 14 ?_); refine gC 14 Try.func38 (toI_own (H.out.arg HC.out.2.2.1) HM.out.2.2.1) ?_; rintro e w_ ⟨B2, e2, rfl, hO⟩; refine ⟨_, rfl, ?_⟩; replace H := aM (H.out.app hO); clear hO) | ((with_reducible refine nS 15 ?_); refine scO 3 2 H.out ?_; clear H; intro _ H; obtain ⟨zg19_0, zg19y_0, zg19_1, zg19y_1, zg19_2, zg19y_2, zg19_3, zg19y_3⟩ := bk4 (H.out.b 5)) | ((with_reducible refine nD 18 ?_); refine gC 18 Try.func38 (toI_own (H.out.arg HC.out.2.2.2) HM.out.2.2.2) ?_; rintro e w_ ⟨B3, e3, rfl, hO⟩; refine ⟨_, rfl, ?_⟩; replace H := aM (H.out.app hO); clear hO) | ((with_reducible refine nS 19 ?_); refine scO 4 3 H.out ?_; clear H; intro _ H; obtain ⟨zg110_0, zg110y_0, zg110_1, zg110y_1, zg110_2, zg110y_2, zg110_3, zg110y_3⟩ := bk4 (H.out.b 6)) | ((with_reducible refine nD 20 ?_); refine ldO 20 4 H.out hu ?_) | ((with_reducible refine nS 2 ?_); refine stO 5 H.out ?_; clear H; intro _ H))
  refine bodyPost_ret (results_cell_row rfl _ _ g2 30 _ (0, 0) _ rfl (H.out.b 5) hu rfl (by kernel_rfl)) rfl ?_
  exact ⟨_, _, _, _, _, _, _, _, rfl, Own.rev4 (H.out.sub (by repeat (first | exact List.nil_sublist _ | apply List.Sublist.cons_cons | apply List.Sublist.cons)))⟩
set_option maxHeartbeats 4000000 in
set_option maxRecDepth 100000 in
theorem szReq_own {w : World} {A0 A1 : Option Addr} {c0 c1 n0 n1 : Nat} {k a n wat : Int} (b0 : n0 ≤ 9223372036854775807) (b1 : n1 ≤ 9223372036854775807) {left : Int} (p0 : 0 ≤ left) (p1 : left ≤ 1048576) : Calls Try.prog 6 #[.agg #[.int .i64 k, .int .i64 a, .int .i64 n, .slice A0 n0 c0, .slice A1 n1 c1, .int .i64 wat], .int .i64 left] w (SzPost (n0 + n1) left w) := by
  have HB := aM (And.intro b0 (b1))
  have HP := aM (And.intro p0 p1)
  have H := aM (Own.nil w)
  clear b0 b1 p0 p1
  go_enter Try.func6, Try.ntmps6
  go_upto_region 2 with (first | ((with_reducible refine nD 2 ?_); refine bxO 2 H.out #[.int .i64 k, .int .i64 a, .int .i64 n, .slice A0 n0 c0, .slice A1 n1 c1, .int .i64 wat] 27 ?_; clear H; intro g2 _ H; obtain ⟨zg211_0, zg211y_0, zg211_1, zg211y_1, zg211_2, zg211y_2, zg211_3, zg211y_3, zg211_4, zg211y_4, zg211_5, zg211y_5⟩ := bk6 (H.out.b 0)) | ((with_reducible refine nD 8 ?_); refine gC 8 Try.func29 (szI_own (n := n0) HB.out.1 HP.out.1 HP.out.2) ?_; rintro e w_ ⟨r0, rfl, ra, rb_, hO⟩; refine ⟨_, rfl, ?_⟩; replace H := aM (H.out.step hO); clear hO; have hq := And.intro ra rb_; clear ra rb_; obtain ⟨zg212_0, zg212y_0, zg212_1, zg212y_1, zg212_2, zg212y_2, zg212_3, zg212y_3, zg212_4, zg212y_4, zg212_5, zg212y_5⟩ := bk6 (H.out.b 0)))
  by_cases hr : r0 < 0
  · have d1 : decide (r0 < 0) = true := decide_eq_true hr
    go_wp2
    go_ret
    exact ⟨-1, rfl, by omega, by have := HP.out; omega, H.out.below⟩
  have d2 : decide (r0 < 0) = false := decide_eq_false hr
  have HR0 := aM (show (r0 = left - n0) ∧ r0 ≤ left ∧ 0 ≤ r0 from ⟨hq.1 (by omega), by have := hq.2; omega, by omega⟩)
  clear hq hr
  go_upto_region 5 with (first | ((with_reducible refine nD 14 ?_); refine gC 14 Try.func28 (szB_own (n := n1) HB.out.2 (by have := HR0.out.2.2; omega) (by have := HR0.out.2.1; have := HP.out.2; omega)) ?_; rintro e w_ ⟨r1, rfl, ra, rb_, hO⟩; refine ⟨_, rfl, ?_⟩; replace H := aM (H.out.step hO); clear hO; have hq := And.intro ra rb_; clear ra rb_; obtain ⟨zg213_0, zg213y_0, zg213_1, zg213y_1, zg213_2, zg213y_2, zg213_3, zg213y_3, zg213_4, zg213y_4, zg213_5, zg213y_5⟩ := bk6 (H.out.b 0)))
  by_cases hr : r1 < 0
  · have d1 : decide (r1 < 0) = true := decide_eq_true hr
    go_wp2
    go_ret
    exact ⟨-1, rfl, by omega, by have := HP.out; omega, H.out.below⟩
  have d3 : decide (r1 < 0) = false := decide_eq_false hr
  have HR1 := aM (show (r1 = r0 - n1) ∧ r1 ≤ left ∧ 0 ≤ r1 from ⟨hq.1 (by omega), by have := hq.2; have := HR0.out.2.1; omega, by omega⟩)
  clear hq hr
  go_wp2
  go_ret
  exact ⟨r1, rfl, fun _ => by have := HR0.out.1; have := HR1.out.1; omega, HR1.out.2.1, H.out.below⟩
def ToReqPost (w : World) (k a n wat : Int) (l0 : List Int) (l1 : List Bool) (e : Ending) (w' : World) : Prop := ∃ B0 B1 : Option Addr, ∃ e0 e1 : Nat, e = .returned (.agg #[.int .i64 k, .int .i64 a, .int .i64 n, .slice B0 l0.length e0, .slice B1 l1.length e1, .int .i64 wat]) ∧ Own w w' [ri (.slice B0 l0.length e0) l0, rb (.slice B1 l1.length e1) l1]
set_option maxHeartbeats 4000000 in
set_option maxRecDepth 100000 in
theorem toReq_own {w : World} {A0 A1 : Option Addr} {c0 c1 : Nat} {k a n wat : Int} {l0 : List Int} {l1 : List Bool} (h0 : Kd.C (Kd.int .i64) w A0 l0.length l0) (h1 : Kd.C Kd.bool w A1 l1.length l1) (m0 : l0.length ≤ 1048576) (m1 : l1.length ≤ 1048576) : Calls Try.prog 9 #[.agg #[.int .i64 k, .int .i64 a, .int .i64 n, .slice A0 l0.length c0, .slice A1 l1.length c1, .int .i64 wat]] w (ToReqPost w k a n wat l0 l1) := by
  have hu := Try.underlying36
  have HC := aM (And.intro h0 (h1))
  have HM := aM (And.intro m0 (m1))
  have H := aM (Own.nil w)
  clear h0 m0 h1 m1
  go_enter Try.func9, Try.ntmps9
  go_wp2_with (first | ((with_reducible refine nD 1 ?_); refine bxO 1 H.out #[.int .i64 k, .int .i64 a, .int .i64 n, .slice A0 l0.length c0, .slice A1 l1.length c1, .int .i64 wat] 27 ?_; clear H; intro g1 _ H) | ((with_reducible refine nD 2 ?_); refine bxO 2 H.out #[.int .i64 0, .int .i64 0, .int .i64 0, .slice none 0 0, .slice none 0 0, .int .i64 0] 36 ?_; clear H; intro g2 _ H) | ((with_reducible refine nD 3 ?_); refine bxO 3 H.out #[.int .i64 0, .int .i64 0, .int .i64 0, .slice none 0 0, .slice none 0 0, .int .i64 0] 36 ?_; clear H; intro g3 _ H; obtain ⟨zg114_0, zg114y_0, zg114_1, zg114y_1, zg114_2, zg114y_2, zg114_3, zg114y_3, zg114_4, zg114y_4, zg114_5, zg114y_5⟩ := bk6 (H.out.b 2)) | ((with_reducible refine nS 6 ?_); refine scO 0 0 H.out ?_; clear H; intro _ H; obtain ⟨zg115_0, zg115y_0, zg115_1, zg115y_1, zg115_2, zg115y_2, zg115_3, zg115y_3, zg115_4, zg115y_4, zg115_5, zg115y_5⟩ := bk6 (H.out.b 2)) | ((with_reducible refine nS 9 ?_); refine scO 0 1 H.out ?_; clear H; intro _ H; obtain ⟨zg116_0, zg116y_0, zg116_1, zg116y_1, zg116_2, zg116y_2, zg116_3, zg116y_3, zg116_4, zg116y_4, zg116_5, zg116y_5⟩ := bk6 (H.out.b 2)) | ((with_reducible refine nS 12 ?_); refine scO 0 2 H.out ?_; clear H; intro _ H; obtain ⟨zg117_0, zg117y_0, zg117_1, zg117y_1, zg117_2, zg117y_2, zg117_3, zg117y_3, zg117_4, zg117y_4, zg117_5, zg117y_5⟩ := bk6 (H.out.b 2)) | ((with_reducible refine nD 15 ?_); refine gC 15 Try.func38 (toI_own (H.out.arg HC.out.1) HM.out.1) ?_; rintro e w_ ⟨B0, e0, rfl, hO⟩; refine ⟨_, rfl, ?_⟩; replace H := aM (H.out.app hO); clear hO) | ((with_reducible refine nS 16 ?_); refine scO 1 3 H.out ?_; clear H; intro _ H; obtain ⟨zg118_0, zg118y_0, zg118_1, zg118y_1, zg118_2, zg118y_2, zg118_3, zg118y_3, zg118_4, zg118y_4, zg118_5, zg118y_5⟩ := bk6 (H.out.b 3)) | ((with_reducible refine nD 19 ?_); refine gC 19 Try.func37 (toB_own (H.out.arg HC.out.2) HM.out.2) ?_; rintro e w_ ⟨B1, e1, rfl, hO⟩; refine ⟨_, rfl, ?_⟩; replace H := aM (H.out.app hO); clear hO) | ((with_reducible refine nS 20 ?_); refine scO 2 4 H.out ?_; clear H; intro _ H; obtain ⟨zg119_0, zg119y_0, zg119_1, zg119y_1, zg119_2, zg119y_2, zg119_3, zg119y_3, zg119_4, zg119y_4, zg119_5, zg119y_5⟩ := bk6 (H.out.b 4)) | ((with_reducible refine nS 23 ?_); refine scO 2 5 H.out ?_; clear H; intro _ H; obtain ⟨zg120_0, zg120y_0, zg120_1, zg120y_1, zg120_2, zg120y_2, zg120_3, zg120y_3, zg120_4, zg120y_4, zg120_5, zg120y_5⟩ := bk6 (H.out.b 4)) | ((with_reducible refine nD 24 ?_); refine ldO 24 2 H.out hu ?_) | ((with_reducible refine nS 2 ?_); refine stO 3 H.out ?_; clear H; intro _ H))
  refine bodyPost_ret (results_cell_row rfl _ _ g2 36 _ (0, 0) _ rfl (H.out.b 3) hu rfl (by kernel_rfl)) rfl ?_
  exact ⟨_, _, _, _, rfl, Own.rev2 (H.out.sub (by repeat (first | exact List.nil_sublist _ | apply List.Sublist.cons_cons | apply List.Sublist.cons)))⟩
set_option maxHeartbeats 4000000 in
set_option maxRecDepth 100000 in
theorem eqDevice_own {w : World} {A0 A1 A2 A3 B0 B1 B2 B3 : Option Addr} {c0 c1 c2 c3 e0 e1 e2 e3 n0 n1 n2 n3 : Nat} {l0 : List Bool} {l1 : List Bool} {l2 : List Int} {l3 : List Int} (h0 : Kd.C Kd.bool w A0 n0 l0) (i0 : Kd.C Kd.bool w B0 n0 l0) (m0 : n0 ≤ 1048576) (h1 : Kd.C Kd.bool w A1 n1 l1) (i1 : Kd.C Kd.bool w B1 n1 l1) (m1 : n1 ≤ 1048576) (h2 : Kd.C (Kd.int .i64) w A2 n2 l2) (i2 : Kd.C (Kd.int .i64) w B2 n2 l2) (m2 : n2 ≤ 1048576) (h3 : Kd.C (Kd.int .i64) w A3 n3 l3) (i3 : Kd.C (Kd.int .i64) w B3 n3 l3) (m3 : n3 ≤ 1048576) : Calls Try.prog 11 #[.agg #[.slice A0 n0 c0, .slice A1 n1 c1, .slice A2 n2 c2, .slice A3 n3 c3], .agg #[.slice B0 n0 e0, .slice B1 n1 e1, .slice B2 n2 e2, .slice B3 n3 e3]] w fun e w' => e = .returned (.bool true) ∧ Below w.heap.size w w' := by
  have HC := aM (And.intro h0 (And.intro h1 (And.intro h2 (And.intro h3 (And.intro i0 (And.intro i1 (And.intro i2 (And.intro i3 (And.intro m0 (And.intro m1 (And.intro m2 (m3))))))))))))
  have H := aM (Own.nil w)
  clear h0 h1 h2 h3 i0 i1 i2 i3 m0 m1 m2 m3
  go_enter Try.func11, Try.ntmps11
  go_wp2_with (first | ((with_reducible refine nD 2 ?_); refine bxO 2 H.out #[.slice A0 n0 c0, .slice A1 n1 c1, .slice A2 n2 c2, .slice A3 n3 c3] 30 ?_; clear H; intro g2 _ H) | ((with_reducible refine nD 3 ?_); refine bxO 3 H.out #[.slice B0 n0 e0, .slice B1 n1 e1, .slice B2 n2 e2, .slice B3 n3 e3] 30 ?_; clear H; intro g3 _ H; obtain ⟨zg221_0, zg221y_0, zg221_1, zg221y_1, zg221_2, zg221y_2, zg221_3, zg221y_3⟩ := bk4 (H.out.b 1); obtain ⟨zg322_0, zg322y_0, zg322_1, zg322y_1, zg322_2, zg322y_2, zg322_3, zg322y_3⟩ := bk4 (H.out.b 0)) | ((with_reducible refine nD 9 ?_); refine gC 9 Try.func47 (eqB_own (H.out.arg HC.out.1) (H.out.arg HC.out.2.2.2.2.1) HC.out.2.2.2.2.2.2.2.2.1) ?_; rintro e w_ ⟨rfl, hO⟩; refine ⟨_, rfl, ?_⟩; replace H := aM (H.out.step hO); clear hO; obtain ⟨zg223_0, zg223y_0, zg223_1, zg223y_1, zg223_2, zg223y_2, zg223_3, zg223y_3⟩ := bk4 (H.out.b 1); obtain ⟨zg324_0, zg324y_0, zg324_1, zg324y_1, zg324_2, zg324y_2, zg324_3, zg324y_3⟩ := bk4 (H.out.b 0)) | ((with_reducible refine nD 15 ?_); refine gC 15 Try.func47 (eqB_own (H.out.arg HC.out.2.1) (H.out.arg HC.out.2.2.2.2.2.1) HC.out.2.2.2.2.2.2.2.2.2.1) ?_; rintro e w_ ⟨rfl, hO⟩; refine ⟨_, rfl, ?_⟩; replace H := aM (H.out.step hO); clear hO; obtain ⟨zg225_0, zg225y_0, zg225_1, zg225y_1, zg225_2, zg225y_2, zg225_3, zg225y_3⟩ := bk4 (H.out.b 1); obtain ⟨zg326_0, zg326y_0, zg326_1, zg326y_1, zg326_2, zg326y_2, zg326_3, zg326y_3⟩ := bk4 (H.out.b 0)) | ((with_reducible refine nD 21 ?_); refine gC 21 Try.func48 (eqI_own (H.out.arg HC.out.2.2.1) (H.out.arg HC.out.2.2.2.2.2.2.1) HC.out.2.2.2.2.2.2.2.2.2.2.1) ?_; rintro e w_ ⟨rfl, hO⟩; refine ⟨_, rfl, ?_⟩; replace H := aM (H.out.step hO); clear hO; obtain ⟨zg227_0, zg227y_0, zg227_1, zg227y_1, zg227_2, zg227y_2, zg227_3, zg227y_3⟩ := bk4 (H.out.b 1); obtain ⟨zg328_0, zg328y_0, zg328_1, zg328y_1, zg328_2, zg328y_2, zg328_3, zg328y_3⟩ := bk4 (H.out.b 0)) | ((with_reducible refine nD 27 ?_); refine gC 27 Try.func48 (eqI_own (H.out.arg HC.out.2.2.2.1) (H.out.arg HC.out.2.2.2.2.2.2.2.1) HC.out.2.2.2.2.2.2.2.2.2.2.2) ?_; rintro e w_ ⟨rfl, hO⟩; refine ⟨_, rfl, ?_⟩; replace H := aM (H.out.step hO); clear hO; obtain ⟨zg229_0, zg229y_0, zg229_1, zg229y_1, zg229_2, zg229y_2, zg229_3, zg229y_3⟩ := bk4 (H.out.b 1); obtain ⟨zg330_0, zg330y_0, zg330_1, zg330y_1, zg330_2, zg330y_2, zg330_3, zg330y_3⟩ := bk4 (H.out.b 0)))
  go_ret
  exact ⟨rfl, H.out.below⟩
set_option maxHeartbeats 4000000 in
set_option maxRecDepth 100000 in
theorem markDevice_own {w0 w : World} {L : List It} (H0 : Own w0 w L) (r0 : Nat) (r1 : Nat) (r2 : Nat) (r3 : Nat) {A0 A1 A2 A3 : Option Addr} {c0 c1 c2 c3 n0 n1 n2 n3 : Nat} {x0 : List Bool} {x1 : List Bool} {x2 : List Int} {x3 : List Int} {k_ : Int} (p0 : 0 ≤ k_) (p1 : k_ + (n0 : Int) + (n1 : Int) + (n2 : Int) + (n3 : Int) ≤ 4611686018427387904) (h0 : L[r0]? = some (rb (.slice A0 n0 c0) x0) := by rfl) (h1 : L[r1]? = some (rb (.slice A1 n1 c1) x1) := by rfl) (h2 : L[r2]? = some (ri (.slice A2 n2 c2) x2) := by rfl) (h3 : L[r3]? = some (ri (.slice A3 n3 c3) x3) := by rfl) (d01 : r0 ≠ r1 := by decide) (d02 : r0 ≠ r2 := by decide) (d12 : r1 ≠ r2 := by decide) (d03 : r0 ≠ r3 := by decide) (d13 : r1 ≠ r3 := by decide) (d23 : r2 ≠ r3 := by decide) : Calls Try.prog 14 #[.agg #[.slice A0 n0 c0, .slice A1 n1 c1, .slice A2 n2 c2, .slice A3 n3 c3], .int .i64 k_] w fun e w' => e = .returned (.int .i64 (k_ + (n0 : Int) + (n1 : Int) + (n2 : Int) + (n3 : Int))) ∧ Own w0 w' ((((L.set r0 (rb (.slice A0 n0 c0) (marks markB (k_) n0))).set r1 (rb (.slice A1 n1 c1) (marks markB (k_ + (n0 : Int)) n1))).set r2 (ri (.slice A2 n2 c2) (marks id (k_ + (n0 : Int) + (n1 : Int)) n2))).set r3 (ri (.slice A3 n3 c3) (marks id (k_ + (n0 : Int) + (n1 : Int) + (n2 : Int)) n3))) := by
  have HP := aM (And.intro p0 p1)
  have HX := aM (And.intro h0 (And.intro h1 (And.intro h2 (h3))))
  have H := aM H0
  clear p0 p1 H0 h0 h1 h2 h3
  go_enter Try.func14, Try.ntmps14
  go_wp2_with (first | ((with_reducible refine nD 2 ?_); refine bxO 2 H.out #[.slice A0 n0 c0, .slice A1 n1 c1, .slice A2 n2 c2, .slice A3 n3 c3] 30 ?_; clear H; intro g2 _ H; obtain ⟨zg231_0, zg231y_0, zg231_1, zg231y_1, zg231_2, zg231y_2, zg231_3, zg231y_3⟩ := bk4 (H.out.b 0)) | ((with_reducible refine nD 8 ?_); refine gC 8 Try.func49 (markB_own (k := k_) H.out (r0 + 1) (show (_ :: L)[r0 + 1]? = _ from HX.out.1) (by have := HP.out; omega) (by have := HP.out; omega)) ?_; rintro e w_ ⟨rfl, hO⟩; refine ⟨_, rfl, ?_⟩; clear H; have H := aM (show Own w0 w_ (bx g2 #[.slice A0 n0 c0, .slice A1 n1 c1, .slice A2 n2 c2, .slice A3 n3 c3] 30 :: (L.set r0 (rb (.slice A0 n0 c0) (marks markB (k_) n0)))) from hO); clear hO; obtain ⟨zg232_0, zg232y_0, zg232_1, zg232y_1, zg232_2, zg232y_2, zg232_3, zg232y_3⟩ := bk4 (H.out.b 0)) | ((with_reducible refine nD 12 ?_); refine gC 12 Try.func49 (markB_own (k := k_ + (n0 : Int)) H.out (r1 + 1) (show (_ :: (L.set r0 (rb (.slice A0 n0 c0) (marks markB (k_) n0))))[r1 + 1]? = _ from ((List.getElem?_set_ne d01).trans HX.out.2.1)) (by have := HP.out; omega) (by have := HP.out; omega)) ?_; rintro e w_ ⟨rfl, hO⟩; refine ⟨_, rfl, ?_⟩; clear H; have H := aM (show Own w0 w_ (bx g2 #[.slice A0 n0 c0, .slice A1 n1 c1, .slice A2 n2 c2, .slice A3 n3 c3] 30 :: ((L.set r0 (rb (.slice A0 n0 c0) (marks markB (k_) n0))).set r1 (rb (.slice A1 n1 c1) (marks markB (k_ + (n0 : Int)) n1)))) from hO); clear hO; obtain ⟨zg233_0, zg233y_0, zg233_1, zg233y_1, zg233_2, zg233y_2, zg233_3, zg233y_3⟩ := bk4 (H.out.b 0)) | ((with_reducible refine nD 16 ?_); refine gC 16 Try.func50 (markI_own (k := k_ + (n0 : Int) + (n1 : Int)) H.out (r2 + 1) (show (_ :: ((L.set r0 (rb (.slice A0 n0 c0) (marks markB (k_) n0))).set r1 (rb (.slice A1 n1 c1) (marks markB (k_ + (n0 : Int)) n1))))[r2 + 1]? = _ from ((List.getElem?_set_ne d12).trans ((List.getElem?_set_ne d02).trans HX.out.2.2.1))) (by have := HP.out; omega) (by have := HP.out; omega)) ?_; rintro e w_ ⟨rfl, hO⟩; refine ⟨_, rfl, ?_⟩; clear H; have H := aM (show Own w0 w_ (bx g2 #[.slice A0 n0 c0, .slice A1 n1 c1, .slice A2 n2 c2, .slice A3 n3 c3] 30 :: (((L.set r0 (rb (.slice A0 n0 c0) (marks markB (k_) n0))).set r1 (rb (.slice A1 n1 c1) (marks markB (k_ + (n0 : Int)) n1))).set r2 (ri (.slice A2 n2 c2) (marks id (k_ + (n0 : Int) + (n1 : Int)) n2)))) from hO); clear hO; obtain ⟨zg234_0, zg234y_0, zg234_1, zg234y_1, zg234_2, zg234y_2, zg234_3, zg234y_3⟩ := bk4 (H.out.b 0)) | ((with_reducible refine nD 20 ?_); refine gC 20 Try.func50 (markI_own (k := k_ + (n0 : Int) + (n1 : Int) + (n2 : Int)) H.out (r3 + 1) (show (_ :: (((L.set r0 (rb (.slice A0 n0 c0) (marks markB (k_) n0))).set r1 (rb (.slice A1 n1 c1) (marks markB (k_ + (n0 : Int)) n1))).set r2 (ri (.slice A2 n2 c2) (marks id (k_ + (n0 : Int) + (n1 : Int)) n2))))[r3 + 1]? = _ from ((List.getElem?_set_ne d23).trans ((List.getElem?_set_ne d13).trans ((List.getElem?_set_ne d03).trans HX.out.2.2.2)))) (by have := HP.out; omega) (by have := HP.out; omega)) ?_; rintro e w_ ⟨rfl, hO⟩; refine ⟨_, rfl, ?_⟩; clear H; have H := aM (show Own w0 w_ (bx g2 #[.slice A0 n0 c0, .slice A1 n1 c1, .slice A2 n2 c2, .slice A3 n3 c3] 30 :: ((((L.set r0 (rb (.slice A0 n0 c0) (marks markB (k_) n0))).set r1 (rb (.slice A1 n1 c1) (marks markB (k_ + (n0 : Int)) n1))).set r2 (ri (.slice A2 n2 c2) (marks id (k_ + (n0 : Int) + (n1 : Int)) n2))).set r3 (ri (.slice A3 n3 c3) (marks id (k_ + (n0 : Int) + (n1 : Int) + (n2 : Int)) n3)))) from hO); clear hO; obtain ⟨zg235_0, zg235y_0, zg235_1, zg235y_1, zg235_2, zg235y_2, zg235_3, zg235y_3⟩ := bk4 (H.out.b 0)))
  go_ret
  exact ⟨rfl, H.out.tail 1⟩
set_option maxHeartbeats 4000000 in
set_option maxRecDepth 100000 in
theorem eqReq_own {w : World} {A0 A1 B0 B1 : Option Addr} {c0 c1 e0 e1 n0 n1 : Nat} {k a n wat : Int} {l0 : List Int} {l1 : List Bool} (h0 : Kd.C (Kd.int .i64) w A0 n0 l0) (i0 : Kd.C (Kd.int .i64) w B0 n0 l0) (m0 : n0 ≤ 1048576) (h1 : Kd.C Kd.bool w A1 n1 l1) (i1 : Kd.C Kd.bool w B1 n1 l1) (m1 : n1 ≤ 1048576) : Calls Try.prog 13 #[.agg #[.int .i64 k, .int .i64 a, .int .i64 n, .slice A0 n0 c0, .slice A1 n1 c1, .int .i64 wat], .agg #[.int .i64 k, .int .i64 a, .int .i64 n, .slice B0 n0 e0, .slice B1 n1 e1, .int .i64 wat]] w fun e w' => e = .returned (.bool true) ∧ Below w.heap.size w w' := by
  have HC := aM (And.intro h0 (And.intro h1 (And.intro i0 (And.intro i1 (And.intro m0 (m1))))))
  have H := aM (Own.nil w)
  clear h0 h1 i0 i1 m0 m1
  go_enter Try.func13, Try.ntmps13
  go_wp2_with (first | ((with_reducible refine nD 2 ?_); refine bxO 2 H.out #[.int .i64 k, .int .i64 a, .int .i64 n, .slice A0 n0 c0, .slice A1 n1 c1, .int .i64 wat] 36 ?_; clear H; intro g2 _ H) | ((with_reducible refine nD 3 ?_); refine bxO 3 H.out #[.int .i64 k, .int .i64 a, .int .i64 n, .slice B0 n0 e0, .slice B1 n1 e1, .int .i64 wat] 36 ?_; clear H; intro g3 _ H; obtain ⟨zg236_0, zg236y_0, zg236_1, zg236y_1, zg236_2, zg236y_2, zg236_3, zg236y_3, zg236_4, zg236y_4, zg236_5, zg236y_5⟩ := bk6 (H.out.b 1); obtain ⟨zg337_0, zg337y_0, zg337_1, zg337y_1, zg337_2, zg337y_2, zg337_3, zg337y_3, zg337_4, zg337y_4, zg337_5, zg337y_5⟩ := bk6 (H.out.b 0)) | ((with_reducible refine nD 24 ?_); refine gC 24 Try.func48 (eqI_own (H.out.arg HC.out.1) (H.out.arg HC.out.2.2.1) HC.out.2.2.2.2.1) ?_; rintro e w_ ⟨rfl, hO⟩; refine ⟨_, rfl, ?_⟩; replace H := aM (H.out.step hO); clear hO; obtain ⟨zg238_0, zg238y_0, zg238_1, zg238y_1, zg238_2, zg238y_2, zg238_3, zg238y_3, zg238_4, zg238y_4, zg238_5, zg238y_5⟩ := bk6 (H.out.b 1); obtain ⟨zg339_0, zg339y_0, zg339_1, zg339y_1, zg339_2, zg339y_2, zg339_3, zg339y_3, zg339_4, zg339y_4, zg339_5, zg339y_5⟩ := bk6 (H.out.b 0)) | ((with_reducible refine nD 30 ?_); refine gC 30 Try.func47 (eqB_own (H.out.arg HC.out.2.1) (H.out.arg HC.out.2.2.2.1) HC.out.2.2.2.2.2) ?_; rintro e w_ ⟨rfl, hO⟩; refine ⟨_, rfl, ?_⟩; replace H := aM (H.out.step hO); clear hO; obtain ⟨zg240_0, zg240y_0, zg240_1, zg240y_1, zg240_2, zg240y_2, zg240_3, zg240y_3, zg240_4, zg240y_4, zg240_5, zg240y_5⟩ := bk6 (H.out.b 1); obtain ⟨zg341_0, zg341y_0, zg341_1, zg341y_1, zg341_2, zg341y_2, zg341_3, zg341y_3, zg341_4, zg341y_4, zg341_5, zg341y_5⟩ := bk6 (H.out.b 0)))
  go_ret
  exact ⟨rfl, H.out.below⟩
set_option maxHeartbeats 4000000 in
set_option maxRecDepth 100000 in
theorem markReq_own {w0 w : World} {L : List It} (H0 : Own w0 w L) (r0 : Nat) (r1 : Nat) {A0 A1 : Option Addr} {c0 c1 n0 n1 : Nat} {k a n wat : Int} {x0 : List Int} {x1 : List Bool} {k_ : Int} (p0 : 0 ≤ k_) (p1 : k_ + (n0 : Int) + (n1 : Int) ≤ 4611686018427387904) (h0 : L[r0]? = some (ri (.slice A0 n0 c0) x0) := by rfl) (h1 : L[r1]? = some (rb (.slice A1 n1 c1) x1) := by rfl) (d01 : r0 ≠ r1 := by decide) : Calls Try.prog 15 #[.agg #[.int .i64 k, .int .i64 a, .int .i64 n, .slice A0 n0 c0, .slice A1 n1 c1, .int .i64 wat], .int .i64 k_] w fun e w' => e = .returned (.int .i64 (k_ + (n0 : Int) + (n1 : Int))) ∧ Own w0 w' ((L.set r0 (ri (.slice A0 n0 c0) (marks id (k_) n0))).set r1 (rb (.slice A1 n1 c1) (marks markB (k_ + (n0 : Int)) n1))) := by
  have HP := aM (And.intro p0 p1)
  have HX := aM (And.intro h0 (h1))
  have H := aM H0
  clear p0 p1 H0 h0 h1
  go_enter Try.func15, Try.ntmps15
  go_wp2_with (first | ((with_reducible refine nD 2 ?_); refine bxO 2 H.out #[.int .i64 k, .int .i64 a, .int .i64 n, .slice A0 n0 c0, .slice A1 n1 c1, .int .i64 wat] 36 ?_; clear H; intro g2 _ H; obtain ⟨zg242_0, zg242y_0, zg242_1, zg242y_1, zg242_2, zg242y_2, zg242_3, zg242y_3, zg242_4, zg242y_4, zg242_5, zg242y_5⟩ := bk6 (H.out.b 0)) | ((with_reducible refine nD 8 ?_); refine gC 8 Try.func50 (markI_own (k := k_) H.out (r0 + 1) (show (_ :: L)[r0 + 1]? = _ from HX.out.1) (by have := HP.out; omega) (by have := HP.out; omega)) ?_; rintro e w_ ⟨rfl, hO⟩; refine ⟨_, rfl, ?_⟩; clear H; have H := aM (show Own w0 w_ (bx g2 #[.int .i64 k, .int .i64 a, .int .i64 n, .slice A0 n0 c0, .slice A1 n1 c1, .int .i64 wat] 36 :: (L.set r0 (ri (.slice A0 n0 c0) (marks id (k_) n0)))) from hO); clear hO; obtain ⟨zg243_0, zg243y_0, zg243_1, zg243y_1, zg243_2, zg243y_2, zg243_3, zg243y_3, zg243_4, zg243y_4, zg243_5, zg243y_5⟩ := bk6 (H.out.b 0)) | ((with_reducible refine nD 12 ?_); refine gC 12 Try.func49 (markB_own (k := k_ + (n0 : Int)) H.out (r1 + 1) (show (_ :: (L.set r0 (ri (.slice A0 n0 c0) (marks id (k_) n0))))[r1 + 1]? = _ from ((List.getElem?_set_ne d01).trans HX.out.2)) (by have := HP.out; omega) (by have := HP.out; omega)) ?_; rintro e w_ ⟨rfl, hO⟩; refine ⟨_, rfl, ?_⟩; clear H; have H := aM (show Own w0 w_ (bx g2 #[.int .i64 k, .int .i64 a, .int .i64 n, .slice A0 n0 c0, .slice A1 n1 c1, .int .i64 wat] 36 :: ((L.set r0 (ri (.slice A0 n0 c0) (marks id (k_) n0))).set r1 (rb (.slice A1 n1 c1) (marks markB (k_ + (n0 : Int)) n1)))) from hO); clear hO; obtain ⟨zg244_0, zg244y_0, zg244_1, zg244y_1, zg244_2, zg244y_2, zg244_3, zg244y_3, zg244_4, zg244y_4, zg244_5, zg244y_5⟩ := bk6 (H.out.b 0)))
  go_ret
  exact ⟨rfl, H.out.tail 1⟩
set_option maxHeartbeats 4000000 in
set_option maxRecDepth 100000 in
theorem eqResp_own {w : World} {A0 A1 B0 B1 : Option Addr} {c0 c1 e0 e1 n0 n1 : Nat} {k f a n : Int} {l0 : List Int} {l1 : List Bool} (h0 : Kd.C (Kd.int .i64) w A0 n0 l0) (i0 : Kd.C (Kd.int .i64) w B0 n0 l0) (m0 : n0 ≤ 1048576) (h1 : Kd.C Kd.bool w A1 n1 l1) (i1 : Kd.C Kd.bool w B1 n1 l1) (m1 : n1 ≤ 1048576) : Calls Try.prog 12 #[.agg #[.int .i64 k, .int .i64 f, .int .i64 a, .int .i64 n, .slice A0 n0 c0, .slice A1 n1 c1], .agg #[.int .i64 k, .int .i64 f, .int .i64 a, .int .i64 n, .slice B0 n0 e0, .slice B1 n1 e1]] w fun e w' => e = .returned (.bool true) ∧ Below w.heap.size w w' := by
  have HC := aM (And.intro h0 (And.intro h1 (And.intro i0 (And.intro i1 (And.intro m0 (m1))))))
  have H := aM (Own.nil w)
  clear h0 h1 i0 i1 m0 m1
  go_enter Try.func12, Try.ntmps12
  go_wp2_with (first | ((with_reducible refine nD 2 ?_); refine bxO 2 H.out #[.int .i64 k, .int .i64 f, .int .i64 a, .int .i64 n, .slice A0 n0 c0, .slice A1 n1 c1] 32 ?_; clear H; intro g2 _ H) | ((with_reducible refine nD 3 ?_); refine bxO 3 H.out #[.int .i64 k, .int .i64 f, .int .i64 a, .int .i64 n, .slice B0 n0 e0, .slice B1 n1 e1] 32 ?_; clear H; intro g3 _ H; obtain ⟨zg245_0, zg245y_0, zg245_1, zg245y_1, zg245_2, zg245y_2, zg245_3, zg245y_3, zg245_4, zg245y_4, zg245_5, zg245y_5⟩ := bk6 (H.out.b 1); obtain ⟨zg346_0, zg346y_0, zg346_1, zg346y_1, zg346_2, zg346y_2, zg346_3, zg346y_3, zg346_4, zg346y_4, zg346_5, zg346y_5⟩ := bk6 (H.out.b 0)) | ((with_reducible refine nD 29 ?_); refine gC 29 Try.func48 (eqI_own (H.out.arg HC.out.1) (H.out.arg HC.out.2.2.1) HC.out.2.2.2.2.1) ?_; rintro e w_ ⟨rfl, hO⟩; refine ⟨_, rfl, ?_⟩; replace H := aM (H.out.step hO); clear hO; obtain ⟨zg247_0, zg247y_0, zg247_1, zg247y_1, zg247_2, zg247y_2, zg247_3, zg247y_3, zg247_4, zg247y_4, zg247_5, zg247y_5⟩ := bk6 (H.out.b 1); obtain ⟨zg348_0, zg348y_0, zg348_1, zg348y_1, zg348_2, zg348y_2, zg348_3, zg348y_3, zg348_4, zg348y_4, zg348_5, zg348y_5⟩ := bk6 (H.out.b 0)) | ((with_reducible refine nD 35 ?_); refine gC 35 Try.func47 (eqB_own (H.out.arg HC.out.2.1) (H.out.arg HC.out.2.2.2.1) HC.out.2.2.2.2.2) ?_; rintro e w_ ⟨rfl, hO⟩; refine ⟨_, rfl, ?_⟩; replace H := aM (H.out.step hO); clear hO; obtain ⟨zg249_0, zg249y_0, zg249_1, zg249y_1, zg249_2, zg249y_2, zg249_3, zg249y_3, zg249_4, zg249y_4, zg249_5, zg249y_5⟩ := bk6 (H.out.b 1); obtain ⟨zg350_0, zg350y_0, zg350_1, zg350y_1, zg350_2, zg350y_2, zg350_3, zg350y_3, zg350_4, zg350y_4, zg350_5, zg350y_5⟩ := bk6 (H.out.b 0)))
  go_ret
  exact ⟨rfl, H.out.below⟩
set_option maxHeartbeats 4000000 in
set_option maxRecDepth 100000 in
theorem markResp_own {w0 w : World} {L : List It} (H0 : Own w0 w L) (r0 : Nat) (r1 : Nat) {A0 A1 : Option Addr} {c0 c1 n0 n1 : Nat} {k f a n : Int} {x0 : List Int} {x1 : List Bool} {k_ : Int} (p0 : 0 ≤ k_) (p1 : k_ + (n0 : Int) + (n1 : Int) ≤ 4611686018427387904) (h0 : L[r0]? = some (ri (.slice A0 n0 c0) x0) := by rfl) (h1 : L[r1]? = some (rb (.slice A1 n1 c1) x1) := by rfl) (d01 : r0 ≠ r1 := by decide) : Calls Try.prog 16 #[.agg #[.int .i64 k, .int .i64 f, .int .i64 a, .int .i64 n, .slice A0 n0 c0, .slice A1 n1 c1], .int .i64 k_] w fun e w' => e = .returned (.int .i64 (k_ + (n0 : Int) + (n1 : Int))) ∧ Own w0 w' ((L.set r0 (ri (.slice A0 n0 c0) (marks id (k_) n0))).set r1 (rb (.slice A1 n1 c1) (marks markB (k_ + (n0 : Int)) n1))) := by
  have HP := aM (And.intro p0 p1)
  have HX := aM (And.intro h0 (h1))
  have H := aM H0
  clear p0 p1 H0 h0 h1
  go_enter Try.func16, Try.ntmps16
  go_wp2_with (first | ((with_reducible refine nD 2 ?_); refine bxO 2 H.out #[.int .i64 k, .int .i64 f, .int .i64 a, .int .i64 n, .slice A0 n0 c0, .slice A1 n1 c1] 32 ?_; clear H; intro g2 _ H; obtain ⟨zg251_0, zg251y_0, zg251_1, zg251y_1, zg251_2, zg251y_2, zg251_3, zg251y_3, zg251_4, zg251y_4, zg251_5, zg251y_5⟩ := bk6 (H.out.b 0)) | ((with_reducible refine nD 8 ?_); refine gC 8 Try.func50 (markI_own (k := k_) H.out (r0 + 1) (show (_ :: L)[r0 + 1]? = _ from HX.out.1) (by have := HP.out; omega) (by have := HP.out; omega)) ?_; rintro e w_ ⟨rfl, hO⟩; refine ⟨_, rfl, ?_⟩; clear H; have H := aM (show Own w0 w_ (bx g2 #[.int .i64 k, .int .i64 f, .int .i64 a, .int .i64 n, .slice A0 n0 c0, .slice A1 n1 c1] 32 :: (L.set r0 (ri (.slice A0 n0 c0) (marks id (k_) n0)))) from hO); clear hO; obtain ⟨zg252_0, zg252y_0, zg252_1, zg252y_1, zg252_2, zg252y_2, zg252_3, zg252y_3, zg252_4, zg252y_4, zg252_5, zg252y_5⟩ := bk6 (H.out.b 0)) | ((with_reducible refine nD 12 ?_); refine gC 12 Try.func49 (markB_own (k := k_ + (n0 : Int)) H.out (r1 + 1) (show (_ :: (L.set r0 (ri (.slice A0 n0 c0) (marks id (k_) n0))))[r1 + 1]? = _ from ((List.getElem?_set_ne d01).trans HX.out.2)) (by have := HP.out; omega) (by have := HP.out; omega)) ?_; rintro e w_ ⟨rfl, hO⟩; refine ⟨_, rfl, ?_⟩; clear H; have H := aM (show Own w0 w_ (bx g2 #[.int .i64 k, .int .i64 f, .int .i64 a, .int .i64 n, .slice A0 n0 c0, .slice A1 n1 c1] 32 :: ((L.set r0 (ri (.slice A0 n0 c0) (marks id (k_) n0))).set r1 (rb (.slice A1 n1 c1) (marks markB (k_ + (n0 : Int)) n1)))) from hO); clear hO; obtain ⟨zg253_0, zg253y_0, zg253_1, zg253y_1, zg253_2, zg253y_2, zg253_3, zg253y_3, zg253_4, zg253y_4, zg253_5, zg253y_5⟩ := bk6 (H.out.b 0)))
  go_ret
  exact ⟨rfl, H.out.tail 1⟩
set_option maxHeartbeats 4000000 in
set_option maxRecDepth 100000 in
theorem heldDevice_own {w : World} {A0 A1 A2 A3 : Option Addr} {c0 c1 c2 c3 n0 n1 n2 n3 : Nat} {k_ : Int} (h0 : Kd.C Kd.bool w A0 n0 (marks markB (k_) n0)) (h1 : Kd.C Kd.bool w A1 n1 (marks markB (k_ + (n0 : Int)) n1)) (h2 : Kd.C (Kd.int .i64) w A2 n2 (marks id (k_ + (n0 : Int) + (n1 : Int)) n2)) (h3 : Kd.C (Kd.int .i64) w A3 n3 (marks id (k_ + (n0 : Int) + (n1 : Int) + (n2 : Int)) n3)) (p0 : 0 ≤ k_) (p1 : k_ + (n0 : Int) + (n1 : Int) + (n2 : Int) + (n3 : Int) ≤ 4611686018427387904) : Calls Try.prog 17 #[.agg #[.slice A0 n0 c0, .slice A1 n1 c1, .slice A2 n2 c2, .slice A3 n3 c3], .int .i64 k_] w fun e w' => e = .returned (.int .i64 (k_ + (n0 : Int) + (n1 : Int) + (n2 : Int) + (n3 : Int))) ∧ Below w.heap.size w w' := by
  have HP := aM (And.intro p0 p1)
  have HC := aM (And.intro h0 (And.intro h1 (And.intro h2 (h3))))
  have d0 : decide (k_ + (n0 : Int) < 0) = false := decide_eq_false (by omega)
  have d1 : decide (k_ + (n0 : Int) + (n1 : Int) < 0) = false := decide_eq_false (by omega)
  have d2 : decide (k_ + (n0 : Int) + (n1 : Int) + (n2 : Int) < 0) = false := decide_eq_false (by omega)
  have d3 : decide (k_ + (n0 : Int) + (n1 : Int) + (n2 : Int) + (n3 : Int) < 0) = false := decide_eq_false (by omega)
  have H := aM (Own.nil w)
  clear p0 p1 h0 h1 h2 h3
  go_enter Try.func17, Try.ntmps17
  go_wp2_with (first | ((with_reducible refine nD 2 ?_); refine bxO 2 H.out #[.slice A0 n0 c0, .slice A1 n1 c1, .slice A2 n2 c2, .slice A3 n3 c3] 30 ?_; clear H; intro g2 _ H; obtain ⟨zg254_0, zg254y_0, zg254_1, zg254y_1, zg254_2, zg254y_2, zg254_3, zg254y_3⟩ := bk4 (H.out.b 0)) | ((with_reducible refine nD 8 ?_); refine gC 8 Try.func51 (heldB_own (k := k_) (H.out.arg HC.out.1) (by have := HP.out; omega) (by have := HP.out; omega)) ?_; rintro e w_ ⟨rfl, hO⟩; refine ⟨_, rfl, ?_⟩; replace H := aM (H.out.step hO); clear hO; obtain ⟨zg255_0, zg255y_0, zg255_1, zg255y_1, zg255_2, zg255y_2, zg255_3, zg255y_3⟩ := bk4 (H.out.b 0)) | ((with_reducible refine nD 14 ?_); refine gC 14 Try.func51 (heldB_own (k := k_ + (n0 : Int)) (H.out.arg HC.out.2.1) (by have := HP.out; omega) (by have := HP.out; omega)) ?_; rintro e w_ ⟨rfl, hO⟩; refine ⟨_, rfl, ?_⟩; replace H := aM (H.out.step hO); clear hO; obtain ⟨zg256_0, zg256y_0, zg256_1, zg256y_1, zg256_2, zg256y_2, zg256_3, zg256y_3⟩ := bk4 (H.out.b 0)) | ((with_reducible refine nD 20 ?_); refine gC 20 Try.func52 (heldI_own (k := k_ + (n0 : Int) + (n1 : Int)) (H.out.arg HC.out.2.2.1) (by have := HP.out; omega) (by have := HP.out; omega)) ?_; rintro e w_ ⟨rfl, hO⟩; refine ⟨_, rfl, ?_⟩; replace H := aM (H.out.step hO); clear hO; obtain ⟨zg257_0, zg257y_0, zg257_1, zg257y_1, zg257_2, zg257y_2, zg257_3, zg257y_3⟩ := bk4 (H.out.b 0)) | ((with_reducible refine nD 26 ?_); refine gC 26 Try.func52 (heldI_own (k := k_ + (n0 : Int) + (n1 : Int) + (n2 : Int)) (H.out.arg HC.out.2.2.2) (by have := HP.out; omega) (by have := HP.out; omega)) ?_; rintro e w_ ⟨rfl, hO⟩; refine ⟨_, rfl, ?_⟩; replace H := aM (H.out.step hO); clear hO; obtain ⟨zg258_0, zg258y_0, zg258_1, zg258y_1, zg258_2, zg258y_2, zg258_3, zg258y_3⟩ := bk4 (H.out.b 0)))
  go_ret
  exact ⟨rfl, H.out.below⟩
set_option maxHeartbeats 4000000 in
set_option maxRecDepth 100000 in
theorem heldResp_own {w : World} {A0 A1 : Option Addr} {c0 c1 n0 n1 : Nat} {k f a n : Int} {k_ : Int} (h0 : Kd.C (Kd.int .i64) w A0 n0 (marks id (k_) n0)) (h1 : Kd.C Kd.bool w A1 n1 (marks markB (k_ + (n0 : Int)) n1)) (p0 : 0 ≤ k_) (p1 : k_ + (n0 : Int) + (n1 : Int) ≤ 4611686018427387904) : Calls Try.prog 18 #[.agg #[.int .i64 k, .int .i64 f, .int .i64 a, .int .i64 n, .slice A0 n0 c0, .slice A1 n1 c1], .int .i64 k_] w fun e w' => e = .returned (.int .i64 (k_ + (n0 : Int) + (n1 : Int))) ∧ Below w.heap.size w w' := by
  have HP := aM (And.intro p0 p1)
  have HC := aM (And.intro h0 (h1))
  have d0 : decide (k_ + (n0 : Int) < 0) = false := decide_eq_false (by omega)
  have d1 : decide (k_ + (n0 : Int) + (n1 : Int) < 0) = false := decide_eq_false (by omega)
  have H := aM (Own.nil w)
  clear p0 p1 h0 h1
  go_enter Try.func18, Try.ntmps18
  go_wp2_with (first | ((with_reducible refine nD 2 ?_); refine bxO 2 H.out #[.int .i64 k, .int .i64 f, .int .i64 a, .int .i64 n, .slice A0 n0 c0, .slice A1 n1 c1] 32 ?_; clear H; intro g2 _ H; obtain ⟨zg259_0, zg259y_0, zg259_1, zg259y_1, zg259_2, zg259y_2, zg259_3, zg259y_3, zg259_4, zg259y_4, zg259_5, zg259y_5⟩ := bk6 (H.out.b 0)) | ((with_reducible refine nD 8 ?_); refine gC 8 Try.func52 (heldI_own (k := k_) (H.out.arg HC.out.1) (by have := HP.out; omega) (by have := HP.out; omega)) ?_; rintro e w_ ⟨rfl, hO⟩; refine ⟨_, rfl, ?_⟩; replace H := aM (H.out.step hO); clear hO; obtain ⟨zg260_0, zg260y_0, zg260_1, zg260y_1, zg260_2, zg260y_2, zg260_3, zg260y_3, zg260_4, zg260y_4, zg260_5, zg260y_5⟩ := bk6 (H.out.b 0)) | ((with_reducible refine nD 14 ?_); refine gC 14 Try.func51 (heldB_own (k := k_ + (n0 : Int)) (H.out.arg HC.out.2) (by have := HP.out; omega) (by have := HP.out; omega)) ?_; rintro e w_ ⟨rfl, hO⟩; refine ⟨_, rfl, ?_⟩; replace H := aM (H.out.step hO); clear hO; obtain ⟨zg261_0, zg261y_0, zg261_1, zg261y_1, zg261_2, zg261y_2, zg261_3, zg261y_3, zg261_4, zg261y_4, zg261_5, zg261y_5⟩ := bk6 (H.out.b 0)))
  go_ret
  exact ⟨rfl, H.out.below⟩
end Go.Proofs.Ytiogbjbkfhhdhaa.G
