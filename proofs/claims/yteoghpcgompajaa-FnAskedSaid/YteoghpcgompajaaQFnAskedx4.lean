/- Functions and contracts of the law FnAsked: what the Go text computes, step by step. -/
import Derived.Test.YteoghpcgompajaaM
import Derived.Test.YteoghpcgompajaaL
import Derived.Test.YteoghpcgompajaaQFnAskedx0
import Derived.Test.YteoghpcgompajaaQFnAskedx3
namespace Go.Proofs.Yteoghpcgompajaa.PFnAsked
open Go.Proofs.Yteoghpcgompajaa.K Go.Proofs.Yteoghpcgompajaa.G Go.RowKit Go.Proofs.YteoghpcgompajaaW.PrintWords Go.Proofs.YteoghpcgompajaaW.PrintLast Go.Proofs.YteoghpcgompajaaW.PrintMore
attribute [local go_sem] max2_int min2_int max_two min_two max_three min_three max_four min_four   -- for this text's walks alone
set_option linter.unusedVariables false
set_option linter.unusedSimpArgs false

/-! ### spec_l3Bend: function 75 -/
def spec_l3Bend.f (s0_0 : List Int) (s0_1 : Int) (s0_2 : Int) (a1_0 : Int) (a1_1 : Int) (a1_2 : Int) (l1_3 : List Int) (l1_4 : List Bool) (a1_5 : Int) : Option (Int × Int × Int × List Int × List Bool × Int × Int × Int) := (spec_l1Below.f s0_0 s0_1 s0_2 7).bind fun bt276 => (if bt276.1 = 0 then ((spec_l1Below.f s0_0 bt276.2.1 bt276.2.2 25).bind fun bt279 => (some (bt279.1, a1_1, a1_2, l1_3, l1_4, a1_5, bt279.2.1, bt279.2.2))) else (if bt276.1 = 1 then ((spec_l1Int.f s0_0 bt276.2.1 bt276.2.2 (([(-1), 65535, 65536, 65530] : List Int))).bind fun bt285 => (some (a1_0, bt285.1, a1_2, l1_3, l1_4, a1_5, bt285.2.1, bt285.2.2))) else (if bt276.1 = 2 then ((spec_l1Int.f s0_0 bt276.2.1 bt276.2.2 (([0, 1, 125, 126, 2000, 2001, (-1)] : List Int))).bind fun bt291 => (some (a1_0, a1_1, bt291.1, l1_3, l1_4, a1_5, bt291.2.1, bt291.2.2))) else (if bt276.1 = 3 then ((some (([] : List Int) : List Int)).bind fun y294 => (if y294.length + l1_3.length < 17592186044416 then ((some (y294 ++ l1_3 : List Int)).bind fun y297 => ((spec_l1Int.f s0_0 bt276.2.1 bt276.2.2 (([0, 65536, (-1)] : List Int))).bind fun bt303 => (if y297.length < 17592186044416 then (some (a1_0, a1_1, a1_2, (y297 ++ [bt303.1]), l1_4, a1_5, bt303.2.1, bt303.2.2)) else (none)))) else (none))) else (if bt276.1 = 4 then ((some (([] : List Bool) : List Bool)).bind fun y309 => (if y309.length + l1_4.length < 140737488355328 then ((some (y309 ++ l1_4 : List Bool)).bind fun y312 => (if y312.length < 140737488355328 then (some (a1_0, a1_1, a1_2, l1_3, (y312 ++ [true]), a1_5, bt276.2.1, bt276.2.2)) else (none))) else (none))) else (if bt276.1 = 5 then ((spec_l1Int.f s0_0 bt276.2.1 bt276.2.2 (([1, 65535, 65536] : List Int))).bind fun bt321 => (some (a1_0, a1_1, a1_2, l1_3, l1_4, bt321.1, bt321.2.1, bt321.2.2))) else (some (a1_0, a1_1, a1_2, l1_3, l1_4, a1_5, bt276.2.1, bt276.2.2))))))))
set_option maxHeartbeats 8000000 in
set_option maxRecDepth 100000 in
theorem spec_l3Bend.calls (g : Nat) (s0_0 : List Int) (s0_1 : Int) (s0_2 : Int) (a1_0 : Int) (a1_1 : Int) (a1_2 : Int) (P1_3_ : Nat → Prop) (u9000_ : Value) (l1_3 : List Int) (P1_4_ : Nat → Prop) (u9001_ : Value) (l1_4 : List Bool) (a1_5 : Int) (r1 : Int) (r2 : Int) (r3 : Int) (r4 : List Int) (r5 : List Bool) (r6 : Int) (r7 : Int) (r8 : Int) (w0 w : World) (hI : IsS85 w0 w g s0_0 s0_1 s0_2) (hB : Below w0.heap.size w0 w) (ho1_3 : Kd.R (Kd.int .i64) 3 w w0.heap.size P1_3_ u9000_ l1_3) (ho1_4 : Kd.R Kd.bool 4 w w0.heap.size P1_4_ u9001_ l1_4) (h : spec_l3Bend.f s0_0 s0_1 s0_2 a1_0 a1_1 a1_2 l1_3 l1_4 a1_5 = some (r1, r2, r3, r4, r5, r6, r7, r8)) :
  Calls Try.prog 75 #[.pointer (some ⟨g, 0, none⟩), .agg #[.int .i64 a1_0, .int .i64 a1_1, .int .i64 a1_2, u9000_, u9001_, .int .i64 a1_5]] w fun e w' => ∃ v3_ v4_ : Value, e = .returned (.agg #[.int .i64 r1, .int .i64 r2, .int .i64 r3, v3_, v4_, .int .i64 r6]) ∧ Kd.R (Kd.int .i64) 3 w' w0.heap.size (fun k_ => ((P1_3_ k_ ∨ P1_4_ k_) ∨ w.heap.size ≤ k_)) v3_ r4 ∧ Kd.R Kd.bool 4 w' w0.heap.size (fun k_ => ((P1_3_ k_ ∨ P1_4_ k_) ∨ w.heap.size ≤ k_)) v4_ r5 ∧ IsS85 w0 w' g s0_0 r7 r8 ∧ Below w0.heap.size w0 w' ∧ Kept w w' (fun k_ => (P1_3_ k_ ∨ P1_4_ k_) ∨ k_ = g) := by
 have hu29 := Try.underlying29
 have HO1_3 := aM (show Kd.R (Kd.int .i64) 3 w w0.heap.size (fun k_ => ((P1_3_ k_ ∨ P1_4_ k_) ∨ w.heap.size ≤ k_)) u9000_ l1_3 from Kd.R_mono ho1_3 (fun k_ hk => (.inl (.inl hk))))
 have HO1_4 := aM (show Kd.R Kd.bool 4 w w0.heap.size (fun k_ => ((P1_3_ k_ ∨ P1_4_ k_) ∨ w.heap.size ≤ k_)) u9001_ l1_4 from Kd.R_mono ho1_4 (fun k_ hk => (.inl (.inr hk))))
 have HI0 := aM hI
 have HL := aM hB.size
 clear hI
 have HK := aM (Kept.refl w (fun k_ => (P1_3_ k_ ∨ P1_4_ k_) ∨ k_ = g))
 have HW0 := aM hB.size
 have HB := aM hB
 clear hB
 have H : ((spec_l1Below.f s0_0 s0_1 s0_2 7).bind fun bt276 => (if bt276.1 = 0 then ((spec_l1Below.f s0_0 bt276.2.1 bt276.2.2 25).bind fun bt279 => (some (bt279.1, a1_1, a1_2, l1_3, l1_4, a1_5, bt279.2.1, bt279.2.2))) else (if bt276.1 = 1 then ((spec_l1Int.f s0_0 bt276.2.1 bt276.2.2 (([(-1), 65535, 65536, 65530] : List Int))).bind fun bt285 => (some (a1_0, bt285.1, a1_2, l1_3, l1_4, a1_5, bt285.2.1, bt285.2.2))) else (if bt276.1 = 2 then ((spec_l1Int.f s0_0 bt276.2.1 bt276.2.2 (([0, 1, 125, 126, 2000, 2001, (-1)] : List Int))).bind fun bt291 => (some (a1_0, a1_1, bt291.1, l1_3, l1_4, a1_5, bt291.2.1, bt291.2.2))) else (if bt276.1 = 3 then ((some (([] : List Int) : List Int)).bind fun y294 => (if y294.length + l1_3.length < 17592186044416 then ((some (y294 ++ l1_3 : List Int)).bind fun y297 => ((spec_l1Int.f s0_0 bt276.2.1 bt276.2.2 (([0, 65536, (-1)] : List Int))).bind fun bt303 => (if y297.length < 17592186044416 then (some (a1_0, a1_1, a1_2, (y297 ++ [bt303.1]), l1_4, a1_5, bt303.2.1, bt303.2.2)) else (none)))) else (none))) else (if bt276.1 = 4 then ((some (([] : List Bool) : List Bool)).bind fun y309 => (if y309.length + l1_4.length < 140737488355328 then ((some (y309 ++ l1_4 : List Bool)).bind fun y312 => (if y312.length < 140737488355328 then (some (a1_0, a1_1, a1_2, l1_3, (y312 ++ [true]), a1_5, bt276.2.1, bt276.2.2)) else (none))) else (none))) else (if bt276.1 = 5 then ((spec_l1Int.f s0_0 bt276.2.1 bt276.2.2 (([1, 65535, 65536] : List Int))).bind fun bt321 => (some (a1_0, a1_1, a1_2, l1_3, l1_4, bt321.1, bt321.2.1, bt321.2.2))) else (some (a1_0, a1_1, a1_2, l1_3, l1_4, a1_5, bt276.2.1, bt276.2.2))))))))) = some (r1, r2, r3, r4, r5, r6, r7, r8) := h
 clear h
 replace H := Option.bind_eq_some_iff.mp H
 obtain ⟨⟨t276, t277, t278⟩, A30, H⟩ := H
 (try dsimp only at H)
 have A3 := aM A30
 clear A30
 by_cases c4 : t276 = 0
 ·rw [if_pos c4] at H
  have c4b0 : (t276 == 0) = true := beq_iff_eq.mpr c4
  have c4b1 : (t276 != 0) = false := bne_eq_false_iff_eq.mpr c4
  clear c4
  replace H := Option.bind_eq_some_iff.mp H
  obtain ⟨⟨t279, t280, t281⟩, A50, H⟩ := H
  (try dsimp only at H)
  have A5 := aM A50
  clear A50
  simp only [Option.some.injEq, Prod.mk.injEq] at H
  obtain ⟨rfl, rfl, rfl, rfl, rfl, rfl, rfl, rfl⟩ := H
  obtain ⟨Ao6, co6, eo6⟩ := Kd.R_slice HO1_3.out
  subst eo6
  obtain ⟨Ao7, co7, eo7⟩ := Kd.R_slice HO1_4.out
  subst eo7
  go_enter Try.func75, Try.ntmps75
  go_wp2_with (first | ((with_reducible refine gate_dst (N := 3) rfl ?_); refine box_event ?hg (N := 3) ?hd (cs := #[.int .i64 a1_0, .int .i64 a1_1, .int .i64 a1_2, .slice Ao6 l1_3.length co6, .slice Ao7 l1_4.length co7, .int .i64 a1_5]) (t := 29) ?hr ?_; (case hd => rfl); (case hg => rfl); (case hr => first | (go_simp; done) | (go_simp; rfl)); intro gb274 hg w8 hbox hb; have _ := aM (rB HO1_3.out hb); have _ := aM (rB HO1_4.out hb); have _ := aM (IsS85.below sI85 hb); have _ := aM (Kept.below (S := (fun k_ => (P1_3_ k_ ∨ P1_4_ k_) ∨ k_ = g)) (sK (w := w)) hb); have _ := aM (below_step (sB85 (B := w0.heap.size) (w0 := w0)) hb); have _ := aM (hbox); have _ := aM ((by rw [hg]; exact (by first | exact HK.out.1 | exact (show Kept w _ (fun k_ => (P1_3_ k_ ∨ P1_4_ k_) ∨ k_ = g) from (sK (w := w))).1) : w.heap.size ≤ gb274)); have _ := aM ((by rw [hg]; exact (below_size (sB85 (B := w0.heap.size) (w0 := w0))) : w0.heap.size ≤ gb274)); have _ := aM ((by rw [hg]; exact Nat.ne_of_lt (IsS85.lt (show IsS85 w0 _ g s0_0 s0_1 s0_2 from sI85)) : g ≠ gb274)); have _ := aM ((by rw [hg]; exact Nat.ne_of_gt (IsS85.lt (show IsS85 w0 _ g s0_0 s0_1 s0_2 from sI85)) : gb274 ≠ g)); clear HO1_3 HO1_4 HI0 HK HB; rename_i HO1_3 HO1_4 HI0 HK HB BK274 GW274 GE274 NB0_274 NB274_0; clear hb hbox hg) | ((with_reducible refine gate_dst (N := 4) rfl ?_); refine box_event ?hg (N := 4) ?hd (cs := #[.int .i64 0, .int .i64 0, .int .i64 0, .slice none 0 0, .slice none 0 0, .int .i64 0]) (t := 29) ?hr ?_; (case hd => rfl); (case hg => rfl); (case hr => first | (go_simp; done) | (go_simp; rfl)); intro gb275 hg w9 hbox hb; have _ := aM (rB HO1_3.out hb); have _ := aM (rB HO1_4.out hb); have _ := aM (IsS85.below sI85 hb); have _ := aM (kB BK274.out hb); have _ := aM (Kept.below (S := (fun k_ => (P1_3_ k_ ∨ P1_4_ k_) ∨ k_ = g)) (sK (w := w)) hb); have _ := aM (below_step (sB85 (B := w0.heap.size) (w0 := w0)) hb); have _ := aM (hbox); have _ := aM ((by rw [hg]; exact (by first | exact HK.out.1 | exact (show Kept w _ (fun k_ => (P1_3_ k_ ∨ P1_4_ k_) ∨ k_ = g) from (sK (w := w))).1) : w.heap.size ≤ gb275)); have _ := aM ((by rw [hg]; exact (below_size (sB85 (B := w0.heap.size) (w0 := w0))) : w0.heap.size ≤ gb275)); have _ := aM (neL hg (kA BK274.out)); have _ := aM (neG hg (kA BK274.out)); have _ := aM ((by rw [hg]; exact Nat.ne_of_lt (IsS85.lt (show IsS85 w0 _ g s0_0 s0_1 s0_2 from sI85)) : g ≠ gb275)); have _ := aM ((by rw [hg]; exact Nat.ne_of_gt (IsS85.lt (show IsS85 w0 _ g s0_0 s0_1 s0_2 from sI85)) : gb275 ≠ g)); clear HO1_3 HO1_4 HI0 BK274 HK HB; rename_i HO1_3 HO1_4 HI0 BK274 HK HB BK275 GW275 GE275 NB274_275 NB275_274 NB0_275 NB275_0; clear hb hbox hg) | ((with_reducible refine gate_callee (f := 76) rfl ?_); refine gL (some 6) rfl rfl Try.func76 (by kernel_rfl) rfl #[.pointer (some ⟨g, 0, none⟩), .int .i64 7] rfl ?_; (with_reducible refine (spec_l1Below.calls g s0_0 s0_1 s0_2 7 t276 t277 t278 w0 _ ?side1 ?side2 A3.out).mono ?_); (case side1 => exact sI85); (case side2 => exact (sB85 (B := w0.heap.size) (w0 := w0))); rintro e w10 ⟨rfl, hi, hb, hk⟩; refine ⟨_, rfl, ?_⟩; have _ := aM (rK85 HO1_3.out hk); have _ := aM (rK85 HO1_4.out hk); have _ := aM (KeepBut.blk hk (g' := gb274) (o := .cells #[.int .i64 a1_0, .int .i64 a1_1, .int .i64 a1_2, .slice Ao6 l1_3.length co6, .slice Ao7 l1_4.length co7, .int .i64 a1_5] 29 (0, 0)) (kA BK274.out) NB274_0.out (by simp)); have _ := aM (KeepBut.blk hk (g' := gb275) (o := .cells #[.int .i64 0, .int .i64 0, .int .i64 0, .slice none 0 0, .slice none 0 0, .int .i64 0] 29 (0, 0)) (kA BK275.out) NB275_0.out (by simp)); have _ := aM (Kept.of_keep (S := (fun k_ => (P1_3_ k_ ∨ P1_4_ k_) ∨ k_ = g)) (sK (w := w)) hk (.inl (.inr rfl))); have _ := aM (hb); have _ := aM (hi); clear HO1_3 HO1_4 BK274 BK275 HK HB HI0; rename_i HO1_3 HO1_4 BK274 BK275 HK HB HI0; (try clear hb); (try clear hk); (try clear hi)) | ((with_reducible refine gate_callee (f := 76) rfl ?_); refine gL (some 10) rfl rfl Try.func76 (by kernel_rfl) rfl #[.pointer (some ⟨g, 0, none⟩), .int .i64 25] rfl ?_; (with_reducible refine (spec_l1Below.calls g s0_0 t277 t278 25 t279 t280 t281 w0 _ ?side1 ?side2 A5.out).mono ?_); (case side1 => exact sI85); (case side2 => exact (sB85 (B := w0.heap.size) (w0 := w0))); rintro e w11 ⟨rfl, hi, hb, hk⟩; refine ⟨_, rfl, ?_⟩; have _ := aM (rK85 HO1_3.out hk); have _ := aM (rK85 HO1_4.out hk); have _ := aM (KeepBut.blk hk (g' := gb274) (o := .cells #[.int .i64 a1_0, .int .i64 a1_1, .int .i64 a1_2, .slice Ao6 l1_3.length co6, .slice Ao7 l1_4.length co7, .int .i64 a1_5] 29 (0, 0)) (kA BK274.out) NB274_0.out (by simp)); have _ := aM (KeepBut.blk hk (g' := gb275) (o := .cells #[.int .i64 0, .int .i64 0, .int .i64 0, .slice none 0 0, .slice none 0 0, .int .i64 0] 29 (0, 0)) (kA BK275.out) NB275_0.out (by simp)); have _ := aM (Kept.of_keep (S := (fun k_ => (P1_3_ k_ ∨ P1_4_ k_) ∨ k_ = g)) (sK (w := w)) hk (.inl (.inr rfl))); have _ := aM (hb); have _ := aM (hi); clear HO1_3 HO1_4 BK274 BK275 HK HB HI0; rename_i HO1_3 HO1_4 BK274 BK275 HK HB HI0; (try clear hb); (try clear hk); (try clear hi); have hnb12 := NB274_275.out; have hnc12 := NB275_274.out; have hnb13 := NB274_0.out; have hnc13 := NB0_274.out; obtain ⟨hcz14_0, hfz14_0, hcz14_1, hfz14_1, hcz14_2, hfz14_2, hcz14_3, hfz14_3, hcz14_4, hfz14_4, hcz14_5, hfz14_5⟩ := bk6 BK274.out; have hnb15 := NB275_0.out; have hnc15 := NB0_275.out; obtain ⟨hcz16_0, hfz16_0, hcz16_1, hfz16_1, hcz16_2, hfz16_2, hcz16_3, hfz16_3, hcz16_4, hfz16_4, hcz16_5, hfz16_5⟩ := bk6 BK275.out))
  refine bodyPost_ret (results_cell_row rfl _ _ gb275 29 #[.int .i64 t279, .int .i64 a1_1, .int .i64 a1_2, .slice Ao6 l1_3.length co6, .slice Ao7 l1_4.length co7, .int .i64 a1_5] (0, 0) _ rfl (kX BK275.out) Try.underlying29 rfl (by kernel_rfl)) rfl ?_
  exact ⟨_, _, by first | rfl | (simp [errW_none, errW_some] <;> rfl) | (simp [*, errW_none, errW_some] <;> rfl), by (with_reducible repeat (first | apply Kd.R_alloc | apply Kd.R_drewN | apply Kd.R_drew)); exact Kd.R_mono (Kd.R_far (p := ⟨gb275, 5, none⟩) (Kd.R_far (p := ⟨gb275, 4, none⟩) (Kd.R_far (p := ⟨gb275, 3, none⟩) (Kd.R_far (p := ⟨gb275, 2, none⟩) (Kd.R_far (p := ⟨gb275, 1, none⟩) (Kd.R_far (p := ⟨gb275, 0, none⟩) (Kd.R_far (p := ⟨gb274, 0, none⟩) (Kd.R_types (Kd.R_types HO1_3.out BK274.out (by decide)) BK275.out (by decide)) (fun _ hk => hk.1.2) (.int .i64 t279)) (fun _ hk => hk.2) (.int .i64 t279)) (fun _ hk => hk.2) (.int .i64 a1_1)) (fun _ hk => hk.2) (.int .i64 a1_2)) (fun _ hk => hk.2) (.slice Ao6 l1_3.length co6)) (fun _ hk => hk.2) (.slice Ao7 l1_4.length co7)) (fun _ hk => hk.2) (.int .i64 a1_5)) (fun _ hk => hk.1.1), by (with_reducible repeat (first | apply Kd.R_alloc | apply Kd.R_drewN | apply Kd.R_drew)); exact Kd.R_mono (Kd.R_far (p := ⟨gb275, 5, none⟩) (Kd.R_far (p := ⟨gb275, 4, none⟩) (Kd.R_far (p := ⟨gb275, 3, none⟩) (Kd.R_far (p := ⟨gb275, 2, none⟩) (Kd.R_far (p := ⟨gb275, 1, none⟩) (Kd.R_far (p := ⟨gb275, 0, none⟩) (Kd.R_far (p := ⟨gb274, 0, none⟩) (Kd.R_types (Kd.R_types HO1_4.out BK274.out (by decide)) BK275.out (by decide)) (fun _ hk => hk.1.2) (.int .i64 t279)) (fun _ hk => hk.2) (.int .i64 t279)) (fun _ hk => hk.2) (.int .i64 a1_1)) (fun _ hk => hk.2) (.int .i64 a1_2)) (fun _ hk => hk.2) (.slice Ao6 l1_3.length co6)) (fun _ hk => hk.2) (.slice Ao7 l1_4.length co7)) (fun _ hk => hk.2) (.int .i64 a1_5)) (fun _ hk => hk.1.1), sI85, (sB85 (B := w0.heap.size) (w0 := w0)), (sK (w := w))⟩
 ·rw [if_neg c4] at H
  have c4b0 : (t276 == 0) = false := beq_eq_false_iff_ne.mpr c4
  have c4b1 : (t276 != 0) = true := bne_iff_ne.mpr c4
  by_cases c17 : t276 = 1
  ·rw [if_pos c17] at H
   have c17b0 : (t276 == 1) = true := beq_iff_eq.mpr c17
   have c17b1 : (t276 != 1) = false := bne_eq_false_iff_eq.mpr c17
   clear c17
   obtain ⟨y282, hy282⟩ : ∃ y_ : List Int, y_ = (([(-1), 65535, 65536, 65530] : List Int)) := ⟨_, rfl⟩
   replace H : ((spec_l1Int.f s0_0 t277 t278 y282).bind fun bt285 => (some (a1_0, bt285.1, a1_2, l1_3, l1_4, a1_5, bt285.2.1, bt285.2.2))) = some (r1, r2, r3, r4, r5, r6, r7, r8) := by first | (rw [hy282]; with_reducible exact H) | (have H2_ := (Option.bind_some _ _).symm.trans H; rw [hy282]; with_reducible exact H2_) | (have H2_ := (Option.bind_some _ _).symm.trans H; with_reducible exact H2_) | with_reducible exact H | (rw [hy282]; exact H) | exact H
   have Ny282 := aM hy282
   clear hy282
   replace H := Option.bind_eq_some_iff.mp H
   obtain ⟨⟨t285, t286, t287⟩, A180, H⟩ := H
   (try dsimp only at H)
   have A18 := aM A180
   clear A180
   simp only [Option.some.injEq, Prod.mk.injEq] at H
   obtain ⟨rfl, rfl, rfl, rfl, rfl, rfl, rfl, rfl⟩ := H
   obtain ⟨Ao19, co19, eo19⟩ := Kd.R_slice HO1_3.out
   subst eo19
   obtain ⟨Ao20, co20, eo20⟩ := Kd.R_slice HO1_4.out
   subst eo20
   go_enter Try.func75, Try.ntmps75
   go_wp2_with (first | ((with_reducible refine gate_dst (N := 3) rfl ?_); refine box_event ?hg (N := 3) ?hd (cs := #[.int .i64 a1_0, .int .i64 a1_1, .int .i64 a1_2, .slice Ao19 l1_3.length co19, .slice Ao20 l1_4.length co20, .int .i64 a1_5]) (t := 29) ?hr ?_; (case hd => rfl); (case hg => rfl); (case hr => first | (go_simp; done) | (go_simp; rfl)); intro gb274 hg w21 hbox hb; have _ := aM (rB HO1_3.out hb); have _ := aM (rB HO1_4.out hb); have _ := aM (IsS85.below sI85 hb); have _ := aM (Kept.below (S := (fun k_ => (P1_3_ k_ ∨ P1_4_ k_) ∨ k_ = g)) (sK (w := w)) hb); have _ := aM (below_step (sB85 (B := w0.heap.size) (w0 := w0)) hb); have _ := aM (hbox); have _ := aM ((by rw [hg]; exact (by first | exact HK.out.1 | exact (show Kept w _ (fun k_ => (P1_3_ k_ ∨ P1_4_ k_) ∨ k_ = g) from (sK (w := w))).1) : w.heap.size ≤ gb274)); have _ := aM ((by rw [hg]; exact (below_size (sB85 (B := w0.heap.size) (w0 := w0))) : w0.heap.size ≤ gb274)); have _ := aM ((by rw [hg]; exact Nat.ne_of_lt (IsS85.lt (show IsS85 w0 _ g s0_0 s0_1 s0_2 from sI85)) : g ≠ gb274)); have _ := aM ((by rw [hg]; exact Nat.ne_of_gt (IsS85.lt (show IsS85 w0 _ g s0_0 s0_1 s0_2 from sI85)) : gb274 ≠ g)); clear HO1_3 HO1_4 HI0 HK HB; rename_i HO1_3 HO1_4 HI0 HK HB BK274 GW274 GE274 NB0_274 NB274_0; clear hb hbox hg) | ((with_reducible refine gate_dst (N := 4) rfl ?_); refine box_event ?hg (N := 4) ?hd (cs := #[.int .i64 0, .int .i64 0, .int .i64 0, .slice none 0 0, .slice none 0 0, .int .i64 0]) (t := 29) ?hr ?_; (case hd => rfl); (case hg => rfl); (case hr => first | (go_simp; done) | (go_simp; rfl)); intro gb275 hg w22 hbox hb; have _ := aM (rB HO1_3.out hb); have _ := aM (rB HO1_4.out hb); have _ := aM (IsS85.below sI85 hb); have _ := aM (kB BK274.out hb); have _ := aM (Kept.below (S := (fun k_ => (P1_3_ k_ ∨ P1_4_ k_) ∨ k_ = g)) (sK (w := w)) hb); have _ := aM (below_step (sB85 (B := w0.heap.size) (w0 := w0)) hb); have _ := aM (hbox); have _ := aM ((by rw [hg]; exact (by first | exact HK.out.1 | exact (show Kept w _ (fun k_ => (P1_3_ k_ ∨ P1_4_ k_) ∨ k_ = g) from (sK (w := w))).1) : w.heap.size ≤ gb275)); have _ := aM ((by rw [hg]; exact (below_size (sB85 (B := w0.heap.size) (w0 := w0))) : w0.heap.size ≤ gb275)); have _ := aM (neL hg (kA BK274.out)); have _ := aM (neG hg (kA BK274.out)); have _ := aM ((by rw [hg]; exact Nat.ne_of_lt (IsS85.lt (show IsS85 w0 _ g s0_0 s0_1 s0_2 from sI85)) : g ≠ gb275)); have _ := aM ((by rw [hg]; exact Nat.ne_of_gt (IsS85.lt (show IsS85 w0 _ g s0_0 s0_1 s0_2 from sI85)) : gb275 ≠ g)); clear HO1_3 HO1_4 HI0 BK274 HK HB; rename_i HO1_3 HO1_4 HI0 BK274 HK HB BK275 GW275 GE275 NB274_275 NB275_274 NB0_275 NB275_0; clear hb hbox hg) | ((with_reducible refine gate_callee (f := 76) rfl ?_); refine gL (some 6) rfl rfl Try.func76 (by kernel_rfl) rfl #[.pointer (some ⟨g, 0, none⟩), .int .i64 7] rfl ?_; (with_reducible refine (spec_l1Below.calls g s0_0 s0_1 s0_2 7 t276 t277 t278 w0 _ ?side1 ?side2 A3.out).mono ?_); (case side1 => exact sI85); (case side2 => exact (sB85 (B := w0.heap.size) (w0 := w0))); rintro e w23 ⟨rfl, hi, hb, hk⟩; refine ⟨_, rfl, ?_⟩; have _ := aM (rK85 HO1_3.out hk); have _ := aM (rK85 HO1_4.out hk); have _ := aM (KeepBut.blk hk (g' := gb274) (o := .cells #[.int .i64 a1_0, .int .i64 a1_1, .int .i64 a1_2, .slice Ao19 l1_3.length co19, .slice Ao20 l1_4.length co20, .int .i64 a1_5] 29 (0, 0)) (kA BK274.out) NB274_0.out (by simp)); have _ := aM (KeepBut.blk hk (g' := gb275) (o := .cells #[.int .i64 0, .int .i64 0, .int .i64 0, .slice none 0 0, .slice none 0 0, .int .i64 0] 29 (0, 0)) (kA BK275.out) NB275_0.out (by simp)); have _ := aM (Kept.of_keep (S := (fun k_ => (P1_3_ k_ ∨ P1_4_ k_) ∨ k_ = g)) (sK (w := w)) hk (.inl (.inr rfl))); have _ := aM (hb); have _ := aM (hi); clear HO1_3 HO1_4 BK274 BK275 HK HB HI0; rename_i HO1_3 HO1_4 BK274 BK275 HK HB HI0; (try clear hb); (try clear hk); (try clear hi)) | ((with_reducible refine gate_dst (N := 15) rfl ?_); refine Kd.R_lit (Kd.int .i64) _ 3 ?hg (N := 15) ?hd (xs := ([(-1), 65535, 65536, 65530] : List Int)) (inner := [.int .i64 (-1), .int .i64 65535, .int .i64 65536, .int .i64 65530]) (ok := fun _ => True) (okp := fun _ => True) ?hr ?hp (fun _ hk => hk) trivial (Below.refl _ _) (Nat.le_refl _) (by simp) ?_; (case hd => rfl); (case hg => rfl); (case hr => first | (go_simp; done) | (go_simp; rfl)); (case hp => exact (Reps.one (show Kd.M (Kd.int .i64) _ _ _ (-1) [.int .i64 (-1)] from rfl) (Reps.one (show Kd.M (Kd.int .i64) _ _ _ 65535 [.int .i64 65535] from rfl) (Reps.one (show Kd.M (Kd.int .i64) _ _ _ 65536 [.int .i64 65536] from rfl) (Reps.one (show Kd.M (Kd.int .i64) _ _ _ 65530 [.int .i64 65530] from rfl) (Reps.none _ _)))))); intro v283 w24 ho25 hb hg_ hnew_; clear hg_ hnew_; (first | rw [← Ny282.out] at ho25 | (simp only [Int.reduceToNat] at ho25; rw [← Ny282.out] at ho25)); have _ := aM (Kd.R_elder' (rA HO1_3.out) (Kd.R_base ho25) hb); have _ := aM (rB HO1_4.out hb); have _ := aM (Kd.R_lower (Kd.R_new' (Kd.R_newM (M := fun k_ => ((P1_3_ k_ ∨ P1_4_ k_) ∨ w.heap.size ≤ k_)) ho25 (by first | exact HK.out.1 | exact (show Kept w _ (fun k_ => (P1_3_ k_ ∨ P1_4_ k_) ∨ k_ = g) from (sK (w := w))).1) (fun k_ h_ => .inr h_)) (Kd.R_lt (rA HO1_3.out))) (below_size (sB85 (B := w0.heap.size) (w0 := w0)))); have _ := aM (IsS85.below sI85 hb); have _ := aM (kB BK274.out hb); have _ := aM (kB BK275.out hb); have _ := aM (Kept.below (S := (fun k_ => (P1_3_ k_ ∨ P1_4_ k_) ∨ k_ = g)) (sK (w := w)) hb); have _ := aM (below_step (sB85 (B := w0.heap.size) (w0 := w0)) hb); clear HO1_3 HO1_4 HI0 BK274 BK275 HK HB; rename_i HO1_3 HO1_4 HO284 HI0 BK274 BK275 HK HB; clear hb ho25; obtain ⟨Ao26, co26, eo26⟩ := Kd.R_slice HO284.out; subst eo26) | ((with_reducible refine gate_callee (f := 83) rfl ?_); refine gL (some 16) rfl rfl Try.func83 (by kernel_rfl) rfl #[.pointer (some ⟨g, 0, none⟩), .slice Ao26 y282.length co26] rfl ?_; (with_reducible refine (spec_l1Int.calls g s0_0 t277 t278 _ _ y282 t285 t286 t287 w0 _ ?side1 ?side2 ?side3 ?side4 ?side5 A18.out).mono ?_); (case side1 => exact sI85); (case side2 => exact (sB85 (B := w0.heap.size) (w0 := w0))); (case side3 => exact cR HO284.out); (case side4 => exact (Kd.R_reads' HO284.out).2.1); (case side5 => exact far_slice (IsS85.own_ne HI0.out HO284.out (by decide))); rintro e w27 ⟨rfl, hi, hb, hk⟩; refine ⟨_, rfl, ?_⟩; have _ := aM (rK85 HO1_3.out hk); have _ := aM (rK85 HO1_4.out hk); have _ := aM (KeepBut.blk hk (g' := gb274) (o := .cells #[.int .i64 a1_0, .int .i64 a1_1, .int .i64 a1_2, .slice Ao19 l1_3.length co19, .slice Ao20 l1_4.length co20, .int .i64 a1_5] 29 (0, 0)) (kA BK274.out) NB274_0.out (by simp)); have _ := aM (KeepBut.blk hk (g' := gb275) (o := .cells #[.int .i64 0, .int .i64 0, .int .i64 0, .slice none 0 0, .slice none 0 0, .int .i64 0] 29 (0, 0)) (kA BK275.out) NB275_0.out (by simp)); have _ := aM (rK85 HO284.out hk); have _ := aM (Kept.of_keep (S := (fun k_ => (P1_3_ k_ ∨ P1_4_ k_) ∨ k_ = g)) (sK (w := w)) hk (.inl (.inr rfl))); have _ := aM (hb); have _ := aM (hi); clear HO1_3 HO1_4 BK274 BK275 HO284 HK HB HI0; rename_i HO1_3 HO1_4 BK274 BK275 HO284 HK HB HI0; (try clear hb); (try clear hk); (try clear hi); have hnb28 := NB274_275.out; have hnc28 := NB275_274.out; have hnb29 := NB274_0.out; have hnc29 := NB0_274.out; obtain ⟨hcz30_0, hfz30_0, hcz30_1, hfz30_1, hcz30_2, hfz30_2, hcz30_3, hfz30_3, hcz30_4, hfz30_4, hcz30_5, hfz30_5⟩ := bk6 BK274.out; have hnb31 := NB275_0.out; have hnc31 := NB0_275.out; obtain ⟨hcz32_0, hfz32_0, hcz32_1, hfz32_1, hcz32_2, hfz32_2, hcz32_3, hfz32_3, hcz32_4, hfz32_4, hcz32_5, hfz32_5⟩ := bk6 BK275.out))
   refine bodyPost_ret (results_cell_row rfl _ _ gb275 29 #[.int .i64 a1_0, .int .i64 t285, .int .i64 a1_2, .slice Ao19 l1_3.length co19, .slice Ao20 l1_4.length co20, .int .i64 a1_5] (0, 0) _ rfl (kX BK275.out) Try.underlying29 rfl (by kernel_rfl)) rfl ?_
   exact ⟨_, _, by first | rfl | (simp [errW_none, errW_some] <;> rfl) | (simp [*, errW_none, errW_some] <;> rfl), by (with_reducible repeat (first | apply Kd.R_alloc | apply Kd.R_drewN | apply Kd.R_drew)); exact Kd.R_mono (Kd.R_far (p := ⟨gb275, 5, none⟩) (Kd.R_far (p := ⟨gb275, 4, none⟩) (Kd.R_far (p := ⟨gb275, 3, none⟩) (Kd.R_far (p := ⟨gb275, 2, none⟩) (Kd.R_far (p := ⟨gb275, 1, none⟩) (Kd.R_far (p := ⟨gb275, 0, none⟩) (Kd.R_far (p := ⟨gb274, 1, none⟩) (Kd.R_types (Kd.R_types HO1_3.out BK274.out (by decide)) BK275.out (by decide)) (fun _ hk => hk.1.2) (.int .i64 t285)) (fun _ hk => hk.2) (.int .i64 a1_0)) (fun _ hk => hk.2) (.int .i64 t285)) (fun _ hk => hk.2) (.int .i64 a1_2)) (fun _ hk => hk.2) (.slice Ao19 l1_3.length co19)) (fun _ hk => hk.2) (.slice Ao20 l1_4.length co20)) (fun _ hk => hk.2) (.int .i64 a1_5)) (fun _ hk => hk.1.1.1), by (with_reducible repeat (first | apply Kd.R_alloc | apply Kd.R_drewN | apply Kd.R_drew)); exact Kd.R_mono (Kd.R_far (p := ⟨gb275, 5, none⟩) (Kd.R_far (p := ⟨gb275, 4, none⟩) (Kd.R_far (p := ⟨gb275, 3, none⟩) (Kd.R_far (p := ⟨gb275, 2, none⟩) (Kd.R_far (p := ⟨gb275, 1, none⟩) (Kd.R_far (p := ⟨gb275, 0, none⟩) (Kd.R_far (p := ⟨gb274, 1, none⟩) (Kd.R_types (Kd.R_types HO1_4.out BK274.out (by decide)) BK275.out (by decide)) (fun _ hk => hk.1.2) (.int .i64 t285)) (fun _ hk => hk.2) (.int .i64 a1_0)) (fun _ hk => hk.2) (.int .i64 t285)) (fun _ hk => hk.2) (.int .i64 a1_2)) (fun _ hk => hk.2) (.slice Ao19 l1_3.length co19)) (fun _ hk => hk.2) (.slice Ao20 l1_4.length co20)) (fun _ hk => hk.2) (.int .i64 a1_5)) (fun _ hk => hk.1.1), sI85, (sB85 (B := w0.heap.size) (w0 := w0)), (sK (w := w))⟩
  ·rw [if_neg c17] at H
   have c17b0 : (t276 == 1) = false := beq_eq_false_iff_ne.mpr c17
   have c17b1 : (t276 != 1) = true := bne_iff_ne.mpr c17
   by_cases c33 : t276 = 2
   ·rw [if_pos c33] at H
    have c33b0 : (t276 == 2) = true := beq_iff_eq.mpr c33
    have c33b1 : (t276 != 2) = false := bne_eq_false_iff_eq.mpr c33
    clear c33
    obtain ⟨y288, hy288⟩ : ∃ y_ : List Int, y_ = (([0, 1, 125, 126, 2000, 2001, (-1)] : List Int)) := ⟨_, rfl⟩
    replace H : ((spec_l1Int.f s0_0 t277 t278 y288).bind fun bt291 => (some (a1_0, a1_1, bt291.1, l1_3, l1_4, a1_5, bt291.2.1, bt291.2.2))) = some (r1, r2, r3, r4, r5, r6, r7, r8) := by first | (rw [hy288]; with_reducible exact H) | (have H2_ := (Option.bind_some _ _).symm.trans H; rw [hy288]; with_reducible exact H2_) | (have H2_ := (Option.bind_some _ _).symm.trans H; with_reducible exact H2_) | with_reducible exact H | (rw [hy288]; exact H) | exact H
    have Ny288 := aM hy288
    clear hy288
    replace H := Option.bind_eq_some_iff.mp H
    obtain ⟨⟨t291, t292, t293⟩, A340, H⟩ := H
    (try dsimp only at H)
    have A34 := aM A340
    clear A340
    simp only [Option.some.injEq, Prod.mk.injEq] at H
    obtain ⟨rfl, rfl, rfl, rfl, rfl, rfl, rfl, rfl⟩ := H
    obtain ⟨Ao35, co35, eo35⟩ := Kd.R_slice HO1_3.out
    subst eo35
    obtain ⟨Ao36, co36, eo36⟩ := Kd.R_slice HO1_4.out
    subst eo36
    go_enter Try.func75, Try.ntmps75
    go_wp2_with (first | ((with_reducible refine gate_dst (N := 3) rfl ?_); refine box_event ?hg (N := 3) ?hd (cs := #[.int .i64 a1_0, .int .i64 a1_1, .int .i64 a1_2, .slice Ao35 l1_3.length co35, .slice Ao36 l1_4.length co36, .int .i64 a1_5]) (t := 29) ?hr ?_; (case hd => rfl); (case hg => rfl); (case hr => first | (go_simp; done) | (go_simp; rfl)); intro gb274 hg w37 hbox hb; have _ := aM (rB HO1_3.out hb); have _ := aM (rB HO1_4.out hb); have _ := aM (IsS85.below sI85 hb); have _ := aM (Kept.below (S := (fun k_ => (P1_3_ k_ ∨ P1_4_ k_) ∨ k_ = g)) (sK (w := w)) hb); have _ := aM (below_step (sB85 (B := w0.heap.size) (w0 := w0)) hb); have _ := aM (hbox); have _ := aM ((by rw [hg]; exact (by first | exact HK.out.1 | exact (show Kept w _ (fun k_ => (P1_3_ k_ ∨ P1_4_ k_) ∨ k_ = g) from (sK (w := w))).1) : w.heap.size ≤ gb274)); have _ := aM ((by rw [hg]; exact (below_size (sB85 (B := w0.heap.size) (w0 := w0))) : w0.heap.size ≤ gb274)); have _ := aM ((by rw [hg]; exact Nat.ne_of_lt (IsS85.lt (show IsS85 w0 _ g s0_0 s0_1 s0_2 from sI85)) : g ≠ gb274)); have _ := aM ((by rw [hg]; exact Nat.ne_of_gt (IsS85.lt (show IsS85 w0 _ g s0_0 s0_1 s0_2 from sI85)) : gb274 ≠ g)); clear HO1_3 HO1_4 HI0 HK HB; rename_i HO1_3 HO1_4 HI0 HK HB BK274 GW274 GE274 NB0_274 NB274_0; clear hb hbox hg) | ((with_reducible refine gate_dst (N := 4) rfl ?_); refine box_event ?hg (N := 4) ?hd (cs := #[.int .i64 0, .int .i64 0, .int .i64 0, .slice none 0 0, .slice none 0 0, .int .i64 0]) (t := 29) ?hr ?_; (case hd => rfl); (case hg => rfl); (case hr => first | (go_simp; done) | (go_simp; rfl)); intro gb275 hg w38 hbox hb; have _ := aM (rB HO1_3.out hb); have _ := aM (rB HO1_4.out hb); have _ := aM (IsS85.below sI85 hb); have _ := aM (kB BK274.out hb); have _ := aM (Kept.below (S := (fun k_ => (P1_3_ k_ ∨ P1_4_ k_) ∨ k_ = g)) (sK (w := w)) hb); have _ := aM (below_step (sB85 (B := w0.heap.size) (w0 := w0)) hb); have _ := aM (hbox); have _ := aM ((by rw [hg]; exact (by first | exact HK.out.1 | exact (show Kept w _ (fun k_ => (P1_3_ k_ ∨ P1_4_ k_) ∨ k_ = g) from (sK (w := w))).1) : w.heap.size ≤ gb275)); have _ := aM ((by rw [hg]; exact (below_size (sB85 (B := w0.heap.size) (w0 := w0))) : w0.heap.size ≤ gb275)); have _ := aM (neL hg (kA BK274.out)); have _ := aM (neG hg (kA BK274.out)); have _ := aM ((by rw [hg]; exact Nat.ne_of_lt (IsS85.lt (show IsS85 w0 _ g s0_0 s0_1 s0_2 from sI85)) : g ≠ gb275)); have _ := aM ((by rw [hg]; exact Nat.ne_of_gt (IsS85.lt (show IsS85 w0 _ g s0_0 s0_1 s0_2 from sI85)) : gb275 ≠ g)); clear HO1_3 HO1_4 HI0 BK274 HK HB; rename_i HO1_3 HO1_4 HI0 BK274 HK HB BK275 GW275 GE275 NB274_275 NB275_274 NB0_275 NB275_0; clear hb hbox hg) | ((with_reducible refine gate_callee (f := 76) rfl ?_); refine gL (some 6) rfl rfl Try.func76 (by kernel_rfl) rfl #[.pointer (some ⟨g, 0, none⟩), .int .i64 7] rfl ?_; (with_reducible refine (spec_l1Below.calls g s0_0 s0_1 s0_2 7 t276 t277 t278 w0 _ ?side1 ?side2 A3.out).mono ?_); (case side1 => exact sI85); (case side2 => exact (sB85 (B := w0.heap.size) (w0 := w0))); rintro e w39 ⟨rfl, hi, hb, hk⟩; refine ⟨_, rfl, ?_⟩; have _ := aM (rK85 HO1_3.out hk); have _ := aM (rK85 HO1_4.out hk); have _ := aM (KeepBut.blk hk (g' := gb274) (o := .cells #[.int .i64 a1_0, .int .i64 a1_1, .int .i64 a1_2, .slice Ao35 l1_3.length co35, .slice Ao36 l1_4.length co36, .int .i64 a1_5] 29 (0, 0)) (kA BK274.out) NB274_0.out (by simp)); have _ := aM (KeepBut.blk hk (g' := gb275) (o := .cells #[.int .i64 0, .int .i64 0, .int .i64 0, .slice none 0 0, .slice none 0 0, .int .i64 0] 29 (0, 0)) (kA BK275.out) NB275_0.out (by simp)); have _ := aM (Kept.of_keep (S := (fun k_ => (P1_3_ k_ ∨ P1_4_ k_) ∨ k_ = g)) (sK (w := w)) hk (.inl (.inr rfl))); have _ := aM (hb); have _ := aM (hi); clear HO1_3 HO1_4 BK274 BK275 HK HB HI0; rename_i HO1_3 HO1_4 BK274 BK275 HK HB HI0; (try clear hb); (try clear hk); (try clear hi)) | ((with_reducible refine gate_dst (N := 21) rfl ?_); refine Kd.R_lit (Kd.int .i64) _ 3 ?hg (N := 21) ?hd (xs := ([0, 1, 125, 126, 2000, 2001, (-1)] : List Int)) (inner := [.int .i64 0, .int .i64 1, .int .i64 125, .int .i64 126, .int .i64 2000, .int .i64 2001, .int .i64 (-1)]) (ok := fun _ => True) (okp := fun _ => True) ?hr ?hp (fun _ hk => hk) trivial (Below.refl _ _) (Nat.le_refl _) (by simp) ?_; (case hd => rfl); (case hg => rfl); (case hr => first | (go_simp; done) | (go_simp; rfl)); (case hp => exact (Reps.one (show Kd.M (Kd.int .i64) _ _ _ 0 [.int .i64 0] from rfl) (Reps.one (show Kd.M (Kd.int .i64) _ _ _ 1 [.int .i64 1] from rfl) (Reps.one (show Kd.M (Kd.int .i64) _ _ _ 125 [.int .i64 125] from rfl) (Reps.one (show Kd.M (Kd.int .i64) _ _ _ 126 [.int .i64 126] from rfl) (Reps.one (show Kd.M (Kd.int .i64) _ _ _ 2000 [.int .i64 2000] from rfl) (Reps.one (show Kd.M (Kd.int .i64) _ _ _ 2001 [.int .i64 2001] from rfl) (Reps.one (show Kd.M (Kd.int .i64) _ _ _ (-1) [.int .i64 (-1)] from rfl) (Reps.none _ _))))))))); intro v289 w40 ho41 hb hg_ hnew_; clear hg_ hnew_; (first | rw [← Ny288.out] at ho41 | (simp only [Int.reduceToNat] at ho41; rw [← Ny288.out] at ho41)); have _ := aM (Kd.R_elder' (rA HO1_3.out) (Kd.R_base ho41) hb); have _ := aM (rB HO1_4.out hb); have _ := aM (Kd.R_lower (Kd.R_new' (Kd.R_newM (M := fun k_ => ((P1_3_ k_ ∨ P1_4_ k_) ∨ w.heap.size ≤ k_)) ho41 (by first | exact HK.out.1 | exact (show Kept w _ (fun k_ => (P1_3_ k_ ∨ P1_4_ k_) ∨ k_ = g) from (sK (w := w))).1) (fun k_ h_ => .inr h_)) (Kd.R_lt (rA HO1_3.out))) (below_size (sB85 (B := w0.heap.size) (w0 := w0)))); have _ := aM (IsS85.below sI85 hb); have _ := aM (kB BK274.out hb); have _ := aM (kB BK275.out hb); have _ := aM (Kept.below (S := (fun k_ => (P1_3_ k_ ∨ P1_4_ k_) ∨ k_ = g)) (sK (w := w)) hb); have _ := aM (below_step (sB85 (B := w0.heap.size) (w0 := w0)) hb); clear HO1_3 HO1_4 HI0 BK274 BK275 HK HB; rename_i HO1_3 HO1_4 HO290 HI0 BK274 BK275 HK HB; clear hb ho41; obtain ⟨Ao42, co42, eo42⟩ := Kd.R_slice HO290.out; subst eo42) | ((with_reducible refine gate_callee (f := 83) rfl ?_); refine gL (some 22) rfl rfl Try.func83 (by kernel_rfl) rfl #[.pointer (some ⟨g, 0, none⟩), .slice Ao42 y288.length co42] rfl ?_; (with_reducible refine (spec_l1Int.calls g s0_0 t277 t278 _ _ y288 t291 t292 t293 w0 _ ?side1 ?side2 ?side3 ?side4 ?side5 A34.out).mono ?_); (case side1 => exact sI85); (case side2 => exact (sB85 (B := w0.heap.size) (w0 := w0))); (case side3 => exact cR HO290.out); (case side4 => exact (Kd.R_reads' HO290.out).2.1); (case side5 => exact far_slice (IsS85.own_ne HI0.out HO290.out (by decide))); rintro e w43 ⟨rfl, hi, hb, hk⟩; refine ⟨_, rfl, ?_⟩; have _ := aM (rK85 HO1_3.out hk); have _ := aM (rK85 HO1_4.out hk); have _ := aM (KeepBut.blk hk (g' := gb274) (o := .cells #[.int .i64 a1_0, .int .i64 a1_1, .int .i64 a1_2, .slice Ao35 l1_3.length co35, .slice Ao36 l1_4.length co36, .int .i64 a1_5] 29 (0, 0)) (kA BK274.out) NB274_0.out (by simp)); have _ := aM (KeepBut.blk hk (g' := gb275) (o := .cells #[.int .i64 0, .int .i64 0, .int .i64 0, .slice none 0 0, .slice none 0 0, .int .i64 0] 29 (0, 0)) (kA BK275.out) NB275_0.out (by simp)); have _ := aM (rK85 HO290.out hk); have _ := aM (Kept.of_keep (S := (fun k_ => (P1_3_ k_ ∨ P1_4_ k_) ∨ k_ = g)) (sK (w := w)) hk (.inl (.inr rfl))); have _ := aM (hb); have _ := aM (hi); clear HO1_3 HO1_4 BK274 BK275 HO290 HK HB HI0; rename_i HO1_3 HO1_4 BK274 BK275 HO290 HK HB HI0; (try clear hb); (try clear hk); (try clear hi); have hnb44 := NB274_275.out; have hnc44 := NB275_274.out; have hnb45 := NB274_0.out; have hnc45 := NB0_274.out; obtain ⟨hcz46_0, hfz46_0, hcz46_1, hfz46_1, hcz46_2, hfz46_2, hcz46_3, hfz46_3, hcz46_4, hfz46_4, hcz46_5, hfz46_5⟩ := bk6 BK274.out; have hnb47 := NB275_0.out; have hnc47 := NB0_275.out; obtain ⟨hcz48_0, hfz48_0, hcz48_1, hfz48_1, hcz48_2, hfz48_2, hcz48_3, hfz48_3, hcz48_4, hfz48_4, hcz48_5, hfz48_5⟩ := bk6 BK275.out))
    refine bodyPost_ret (results_cell_row rfl _ _ gb275 29 #[.int .i64 a1_0, .int .i64 a1_1, .int .i64 t291, .slice Ao35 l1_3.length co35, .slice Ao36 l1_4.length co36, .int .i64 a1_5] (0, 0) _ rfl (kX BK275.out) Try.underlying29 rfl (by kernel_rfl)) rfl ?_
    exact ⟨_, _, by first | rfl | (simp [errW_none, errW_some] <;> rfl) | (simp [*, errW_none, errW_some] <;> rfl), by (with_reducible repeat (first | apply Kd.R_alloc | apply Kd.R_drewN | apply Kd.R_drew)); exact Kd.R_mono (Kd.R_far (p := ⟨gb275, 5, none⟩) (Kd.R_far (p := ⟨gb275, 4, none⟩) (Kd.R_far (p := ⟨gb275, 3, none⟩) (Kd.R_far (p := ⟨gb275, 2, none⟩) (Kd.R_far (p := ⟨gb275, 1, none⟩) (Kd.R_far (p := ⟨gb275, 0, none⟩) (Kd.R_far (p := ⟨gb274, 2, none⟩) (Kd.R_types (Kd.R_types HO1_3.out BK274.out (by decide)) BK275.out (by decide)) (fun _ hk => hk.1.2) (.int .i64 t291)) (fun _ hk => hk.2) (.int .i64 a1_0)) (fun _ hk => hk.2) (.int .i64 a1_1)) (fun _ hk => hk.2) (.int .i64 t291)) (fun _ hk => hk.2) (.slice Ao35 l1_3.length co35)) (fun _ hk => hk.2) (.slice Ao36 l1_4.length co36)) (fun _ hk => hk.2) (.int .i64 a1_5)) (fun _ hk => hk.1.1.1), by (with_reducible repeat (first | apply Kd.R_alloc | apply Kd.R_drewN | apply Kd.R_drew)); exact Kd.R_mono (Kd.R_far (p := ⟨gb275, 5, none⟩) (Kd.R_far (p := ⟨gb275, 4, none⟩) (Kd.R_far (p := ⟨gb275, 3, none⟩) (Kd.R_far (p := ⟨gb275, 2, none⟩) (Kd.R_far (p := ⟨gb275, 1, none⟩) (Kd.R_far (p := ⟨gb275, 0, none⟩) (Kd.R_far (p := ⟨gb274, 2, none⟩) (Kd.R_types (Kd.R_types HO1_4.out BK274.out (by decide)) BK275.out (by decide)) (fun _ hk => hk.1.2) (.int .i64 t291)) (fun _ hk => hk.2) (.int .i64 a1_0)) (fun _ hk => hk.2) (.int .i64 a1_1)) (fun _ hk => hk.2) (.int .i64 t291)) (fun _ hk => hk.2) (.slice Ao35 l1_3.length co35)) (fun _ hk => hk.2) (.slice Ao36 l1_4.length co36)) (fun _ hk => hk.2) (.int .i64 a1_5)) (fun _ hk => hk.1.1), sI85, (sB85 (B := w0.heap.size) (w0 := w0)), (sK (w := w))⟩
   ·rw [if_neg c33] at H
    have c33b0 : (t276 == 2) = false := beq_eq_false_iff_ne.mpr c33
    have c33b1 : (t276 != 2) = true := bne_iff_ne.mpr c33
    by_cases c49 : t276 = 3
    rotate_left
    ·rw [if_neg c49] at H
     have c49b0 : (t276 == 3) = false := beq_eq_false_iff_ne.mpr c49
     have c49b1 : (t276 != 3) = true := bne_iff_ne.mpr c49
     by_cases c73 : t276 = 4
     rotate_left
     ·rw [if_neg c73] at H
      have c73b0 : (t276 == 4) = false := beq_eq_false_iff_ne.mpr c73
      have c73b1 : (t276 != 4) = true := bne_iff_ne.mpr c73
      by_cases c92 : t276 = 5
      rotate_left
      ·rw [if_neg c92] at H
       have c92b0 : (t276 == 5) = false := beq_eq_false_iff_ne.mpr c92
       have c92b1 : (t276 != 5) = true := bne_iff_ne.mpr c92
       simp only [Option.some.injEq, Prod.mk.injEq] at H
       obtain ⟨rfl, rfl, rfl, rfl, rfl, rfl, rfl, rfl⟩ := H
       obtain ⟨Ao108, co108, eo108⟩ := Kd.R_slice HO1_3.out
       subst eo108
       obtain ⟨Ao109, co109, eo109⟩ := Kd.R_slice HO1_4.out
       subst eo109
       go_enter Try.func75, Try.ntmps75
       go_wp2_with (first | ((with_reducible refine gate_dst (N := 3) rfl ?_); refine box_event ?hg (N := 3) ?hd (cs := #[.int .i64 a1_0, .int .i64 a1_1, .int .i64 a1_2, .slice Ao108 l1_3.length co108, .slice Ao109 l1_4.length co109, .int .i64 a1_5]) (t := 29) ?hr ?_; (case hd => rfl); (case hg => rfl); (case hr => first | (go_simp; done) | (go_simp; rfl)); intro gb274 hg w110 hbox hb; have _ := aM (rB HO1_3.out hb); have _ := aM (rB HO1_4.out hb); have _ := aM (IsS85.below sI85 hb); have _ := aM (Kept.below (S := (fun k_ => (P1_3_ k_ ∨ P1_4_ k_) ∨ k_ = g)) (sK (w := w)) hb); have _ := aM (below_step (sB85 (B := w0.heap.size) (w0 := w0)) hb); have _ := aM (hbox); have _ := aM ((by rw [hg]; exact (by first | exact HK.out.1 | exact (show Kept w _ (fun k_ => (P1_3_ k_ ∨ P1_4_ k_) ∨ k_ = g) from (sK (w := w))).1) : w.heap.size ≤ gb274)); have _ := aM ((by rw [hg]; exact (below_size (sB85 (B := w0.heap.size) (w0 := w0))) : w0.heap.size ≤ gb274)); have _ := aM ((by rw [hg]; exact Nat.ne_of_lt (IsS85.lt (show IsS85 w0 _ g s0_0 s0_1 s0_2 from sI85)) : g ≠ gb274)); have _ := aM ((by rw [hg]; exact Nat.ne_of_gt (IsS85.lt (show IsS85 w0 _ g s0_0 s0_1 s0_2 from sI85)) : gb274 ≠ g)); clear HO1_3 HO1_4 HI0 HK HB; rename_i HO1_3 HO1_4 HI0 HK HB BK274 GW274 GE274 NB0_274 NB274_0; clear hb hbox hg) | ((with_reducible refine gate_dst (N := 4) rfl ?_); refine box_event ?hg (N := 4) ?hd (cs := #[.int .i64 0, .int .i64 0, .int .i64 0, .slice none 0 0, .slice none 0 0, .int .i64 0]) (t := 29) ?hr ?_; (case hd => rfl); (case hg => rfl); (case hr => first | (go_simp; done) | (go_simp; rfl)); intro gb275 hg w111 hbox hb; have _ := aM (rB HO1_3.out hb); have _ := aM (rB HO1_4.out hb); have _ := aM (IsS85.below sI85 hb); have _ := aM (kB BK274.out hb); have _ := aM (Kept.below (S := (fun k_ => (P1_3_ k_ ∨ P1_4_ k_) ∨ k_ = g)) (sK (w := w)) hb); have _ := aM (below_step (sB85 (B := w0.heap.size) (w0 := w0)) hb); have _ := aM (hbox); have _ := aM ((by rw [hg]; exact (by first | exact HK.out.1 | exact (show Kept w _ (fun k_ => (P1_3_ k_ ∨ P1_4_ k_) ∨ k_ = g) from (sK (w := w))).1) : w.heap.size ≤ gb275)); have _ := aM ((by rw [hg]; exact (below_size (sB85 (B := w0.heap.size) (w0 := w0))) : w0.heap.size ≤ gb275)); have _ := aM (neL hg (kA BK274.out)); have _ := aM (neG hg (kA BK274.out)); have _ := aM ((by rw [hg]; exact Nat.ne_of_lt (IsS85.lt (show IsS85 w0 _ g s0_0 s0_1 s0_2 from sI85)) : g ≠ gb275)); have _ := aM ((by rw [hg]; exact Nat.ne_of_gt (IsS85.lt (show IsS85 w0 _ g s0_0 s0_1 s0_2 from sI85)) : gb275 ≠ g)); clear HO1_3 HO1_4 HI0 BK274 HK HB; rename_i HO1_3 HO1_4 HI0 BK274 HK HB BK275 GW275 GE275 NB274_275 NB275_274 NB0_275 NB275_0; clear hb hbox hg) | ((with_reducible refine gate_callee (f := 76) rfl ?_); refine gL (some 6) rfl rfl Try.func76 (by kernel_rfl) rfl #[.pointer (some ⟨g, 0, none⟩), .int .i64 7] rfl ?_; (with_reducible refine (spec_l1Below.calls g s0_0 s0_1 s0_2 7 t276 t277 t278 w0 _ ?side1 ?side2 A3.out).mono ?_); (case side1 => exact sI85); (case side2 => exact (sB85 (B := w0.heap.size) (w0 := w0))); rintro e w112 ⟨rfl, hi, hb, hk⟩; refine ⟨_, rfl, ?_⟩; have _ := aM (rK85 HO1_3.out hk); have _ := aM (rK85 HO1_4.out hk); have _ := aM (KeepBut.blk hk (g' := gb274) (o := .cells #[.int .i64 a1_0, .int .i64 a1_1, .int .i64 a1_2, .slice Ao108 l1_3.length co108, .slice Ao109 l1_4.length co109, .int .i64 a1_5] 29 (0, 0)) (kA BK274.out) NB274_0.out (by simp)); have _ := aM (KeepBut.blk hk (g' := gb275) (o := .cells #[.int .i64 0, .int .i64 0, .int .i64 0, .slice none 0 0, .slice none 0 0, .int .i64 0] 29 (0, 0)) (kA BK275.out) NB275_0.out (by simp)); have _ := aM (Kept.of_keep (S := (fun k_ => (P1_3_ k_ ∨ P1_4_ k_) ∨ k_ = g)) (sK (w := w)) hk (.inl (.inr rfl))); have _ := aM (hb); have _ := aM (hi); clear HO1_3 HO1_4 BK274 BK275 HK HB HI0; rename_i HO1_3 HO1_4 BK274 BK275 HK HB HI0; (try clear hb); (try clear hk); (try clear hi); have hnb113 := NB274_275.out; have hnc113 := NB275_274.out; have hnb114 := NB274_0.out; have hnc114 := NB0_274.out; obtain ⟨hcz115_0, hfz115_0, hcz115_1, hfz115_1, hcz115_2, hfz115_2, hcz115_3, hfz115_3, hcz115_4, hfz115_4, hcz115_5, hfz115_5⟩ := bk6 BK274.out; have hnb116 := NB275_0.out; have hnc116 := NB0_275.out; obtain ⟨hcz117_0, hfz117_0, hcz117_1, hfz117_1, hcz117_2, hfz117_2, hcz117_3, hfz117_3, hcz117_4, hfz117_4, hcz117_5, hfz117_5⟩ := bk6 BK275.out))
       refine bodyPost_ret (results_cell_row rfl _ _ gb275 29 #[.int .i64 a1_0, .int .i64 a1_1, .int .i64 a1_2, .slice Ao108 l1_3.length co108, .slice Ao109 l1_4.length co109, .int .i64 a1_5] (0, 0) _ rfl (kP6 BK275.out) Try.underlying29 rfl (by kernel_rfl)) rfl ?_
       exact ⟨_, _, by first | rfl | (simp [errW_none, errW_some] <;> rfl) | (simp [*, errW_none, errW_some] <;> rfl), by (with_reducible repeat (first | apply Kd.R_alloc | apply Kd.R_drewN | apply Kd.R_drew)); exact Kd.R_mono (Kd.R_far (p := ⟨gb275, 5, none⟩) (Kd.R_far (p := ⟨gb275, 4, none⟩) (Kd.R_far (p := ⟨gb275, 3, none⟩) (Kd.R_far (p := ⟨gb275, 2, none⟩) (Kd.R_far (p := ⟨gb275, 1, none⟩) (Kd.R_far (p := ⟨gb275, 0, none⟩) (Kd.R_types HO1_3.out BK275.out (by decide)) (fun _ hk => hk.2) (.int .i64 a1_0)) (fun _ hk => hk.2) (.int .i64 a1_1)) (fun _ hk => hk.2) (.int .i64 a1_2)) (fun _ hk => hk.2) (.slice Ao108 l1_3.length co108)) (fun _ hk => hk.2) (.slice Ao109 l1_4.length co109)) (fun _ hk => hk.2) (.int .i64 a1_5)) (fun _ hk => hk.1), by (with_reducible repeat (first | apply Kd.R_alloc | apply Kd.R_drewN | apply Kd.R_drew)); exact Kd.R_mono (Kd.R_far (p := ⟨gb275, 5, none⟩) (Kd.R_far (p := ⟨gb275, 4, none⟩) (Kd.R_far (p := ⟨gb275, 3, none⟩) (Kd.R_far (p := ⟨gb275, 2, none⟩) (Kd.R_far (p := ⟨gb275, 1, none⟩) (Kd.R_far (p := ⟨gb275, 0, none⟩) (Kd.R_types HO1_4.out BK275.out (by decide)) (fun _ hk => hk.2) (.int .i64 a1_0)) (fun _ hk => hk.2) (.int .i64 a1_1)) (fun _ hk => hk.2) (.int .i64 a1_2)) (fun _ hk => hk.2) (.slice Ao108 l1_3.length co108)) (fun _ hk => hk.2) (.slice Ao109 l1_4.length co109)) (fun _ hk => hk.2) (.int .i64 a1_5)) (fun _ hk => hk.1), sI85, (sB85 (B := w0.heap.size) (w0 := w0)), (sK (w := w))⟩

      rw [if_pos c92] at H
      have c92b0 : (t276 == 5) = true := beq_iff_eq.mpr c92
      have c92b1 : (t276 != 5) = false := bne_eq_false_iff_eq.mpr c92
      clear c92
      obtain ⟨y318, hy318⟩ : ∃ y_ : List Int, y_ = (([1, 65535, 65536] : List Int)) := ⟨_, rfl⟩
      replace H : ((spec_l1Int.f s0_0 t277 t278 y318).bind fun bt321 => (some (a1_0, a1_1, a1_2, l1_3, l1_4, bt321.1, bt321.2.1, bt321.2.2))) = some (r1, r2, r3, r4, r5, r6, r7, r8) := by first | (rw [hy318]; with_reducible exact H) | (have H2_ := (Option.bind_some _ _).symm.trans H; rw [hy318]; with_reducible exact H2_) | (have H2_ := (Option.bind_some _ _).symm.trans H; with_reducible exact H2_) | with_reducible exact H | (rw [hy318]; exact H) | exact H
      have Ny318 := aM hy318
      clear hy318
      replace H := Option.bind_eq_some_iff.mp H
      obtain ⟨⟨t321, t322, t323⟩, A930, H⟩ := H
      (try dsimp only at H)
      have A93 := aM A930
      clear A930
      simp only [Option.some.injEq, Prod.mk.injEq] at H
      obtain ⟨rfl, rfl, rfl, rfl, rfl, rfl, rfl, rfl⟩ := H
      obtain ⟨Ao94, co94, eo94⟩ := Kd.R_slice HO1_3.out
      subst eo94
      obtain ⟨Ao95, co95, eo95⟩ := Kd.R_slice HO1_4.out
      subst eo95
      go_enter Try.func75, Try.ntmps75
      go_wp2_with (first | ((with_reducible refine gate_dst (N := 3) rfl ?_); refine box_event ?hg (N := 3) ?hd (cs := #[.int .i64 a1_0, .int .i64 a1_1, .int .i64 a1_2, .slice Ao94 l1_3.length co94, .slice Ao95 l1_4.length co95, .int .i64 a1_5]) (t := 29) ?hr ?_; (case hd => rfl); (case hg => rfl); (case hr => first | (go_simp; done) | (go_simp; rfl)); intro gb274 hg w96 hbox hb; have _ := aM (rB HO1_3.out hb); have _ := aM (rB HO1_4.out hb); have _ := aM (IsS85.below sI85 hb); have _ := aM (Kept.below (S := (fun k_ => (P1_3_ k_ ∨ P1_4_ k_) ∨ k_ = g)) (sK (w := w)) hb); have _ := aM (below_step (sB85 (B := w0.heap.size) (w0 := w0)) hb); have _ := aM (hbox); have _ := aM ((by rw [hg]; exact (by first | exact HK.out.1 | exact (show Kept w _ (fun k_ => (P1_3_ k_ ∨ P1_4_ k_) ∨ k_ = g) from (sK (w := w))).1) : w.heap.size ≤ gb274)); have _ := aM ((by rw [hg]; exact (below_size (sB85 (B := w0.heap.size) (w0 := w0))) : w0.heap.size ≤ gb274)); have _ := aM ((by rw [hg]; exact Nat.ne_of_lt (IsS85.lt (show IsS85 w0 _ g s0_0 s0_1 s0_2 from sI85)) : g ≠ gb274)); have _ := aM ((by rw [hg]; exact Nat.ne_of_gt (IsS85.lt (show IsS85 w0 _ g s0_0 s0_1 s0_2 from sI85)) : gb274 ≠ g)); clear HO1_3 HO1_4 HI0 HK HB; rename_i HO1_3 HO1_4 HI0 HK HB BK274 GW274 GE274 NB0_274 NB274_0; clear hb hbox hg) | ((with_reducible refine gate_dst (N := 4) rfl ?_); refine box_event ?hg (N := 4) ?hd (cs := #[.int .i64 0, .int .i64 0, .int .i64 0, .slice none 0 0, .slice none 0 0, .int .i64 0]) (t := 29) ?hr ?_; (case hd => rfl); (case hg => rfl); (case hr => first | (go_simp; done) | (go_simp; rfl)); intro gb275 hg w97 hbox hb; have _ := aM (rB HO1_3.out hb); have _ := aM (rB HO1_4.out hb); have _ := aM (IsS85.below sI85 hb); have _ := aM (kB BK274.out hb); have _ := aM (Kept.below (S := (fun k_ => (P1_3_ k_ ∨ P1_4_ k_) ∨ k_ = g)) (sK (w := w)) hb); have _ := aM (below_step (sB85 (B := w0.heap.size) (w0 := w0)) hb); have _ := aM (hbox); have _ := aM ((by rw [hg]; exact (by first | exact HK.out.1 | exact (show Kept w _ (fun k_ => (P1_3_ k_ ∨ P1_4_ k_) ∨ k_ = g) from (sK (w := w))).1) : w.heap.size ≤ gb275)); have _ := aM ((by rw [hg]; exact (below_size (sB85 (B := w0.heap.size) (w0 := w0))) : w0.heap.size ≤ gb275)); have _ := aM (neL hg (kA BK274.out)); have _ := aM (neG hg (kA BK274.out)); have _ := aM ((by rw [hg]; exact Nat.ne_of_lt (IsS85.lt (show IsS85 w0 _ g s0_0 s0_1 s0_2 from sI85)) : g ≠ gb275)); have _ := aM ((by rw [hg]; exact Nat.ne_of_gt (IsS85.lt (show IsS85 w0 _ g s0_0 s0_1 s0_2 from sI85)) : gb275 ≠ g)); clear HO1_3 HO1_4 HI0 BK274 HK HB; rename_i HO1_3 HO1_4 HI0 BK274 HK HB BK275 GW275 GE275 NB274_275 NB275_274 NB0_275 NB275_0; clear hb hbox hg) | ((with_reducible refine gate_callee (f := 76) rfl ?_); refine gL (some 6) rfl rfl Try.func76 (by kernel_rfl) rfl #[.pointer (some ⟨g, 0, none⟩), .int .i64 7] rfl ?_; (with_reducible refine (spec_l1Below.calls g s0_0 s0_1 s0_2 7 t276 t277 t278 w0 _ ?side1 ?side2 A3.out).mono ?_); (case side1 => exact sI85); (case side2 => exact (sB85 (B := w0.heap.size) (w0 := w0))); rintro e w98 ⟨rfl, hi, hb, hk⟩; refine ⟨_, rfl, ?_⟩; have _ := aM (rK85 HO1_3.out hk); have _ := aM (rK85 HO1_4.out hk); have _ := aM (KeepBut.blk hk (g' := gb274) (o := .cells #[.int .i64 a1_0, .int .i64 a1_1, .int .i64 a1_2, .slice Ao94 l1_3.length co94, .slice Ao95 l1_4.length co95, .int .i64 a1_5] 29 (0, 0)) (kA BK274.out) NB274_0.out (by simp)); have _ := aM (KeepBut.blk hk (g' := gb275) (o := .cells #[.int .i64 0, .int .i64 0, .int .i64 0, .slice none 0 0, .slice none 0 0, .int .i64 0] 29 (0, 0)) (kA BK275.out) NB275_0.out (by simp)); have _ := aM (Kept.of_keep (S := (fun k_ => (P1_3_ k_ ∨ P1_4_ k_) ∨ k_ = g)) (sK (w := w)) hk (.inl (.inr rfl))); have _ := aM (hb); have _ := aM (hi); clear HO1_3 HO1_4 BK274 BK275 HK HB HI0; rename_i HO1_3 HO1_4 BK274 BK275 HK HB HI0; (try clear hb); (try clear hk); (try clear hi)) | ((with_reducible refine gate_dst (N := 48) rfl ?_); refine Kd.R_lit (Kd.int .i64) _ 3 ?hg (N := 48) ?hd (xs := ([1, 65535, 65536] : List Int)) (inner := [.int .i64 1, .int .i64 65535, .int .i64 65536]) (ok := fun _ => True) (okp := fun _ => True) ?hr ?hp (fun _ hk => hk) trivial (Below.refl _ _) (Nat.le_refl _) (by simp) ?_; (case hd => rfl); (case hg => rfl); (case hr => first | (go_simp; done) | (go_simp; rfl)); (case hp => exact (Reps.one (show Kd.M (Kd.int .i64) _ _ _ 1 [.int .i64 1] from rfl) (Reps.one (show Kd.M (Kd.int .i64) _ _ _ 65535 [.int .i64 65535] from rfl) (Reps.one (show Kd.M (Kd.int .i64) _ _ _ 65536 [.int .i64 65536] from rfl) (Reps.none _ _))))); intro v319 w99 ho100 hb hg_ hnew_; clear hg_ hnew_; (first | rw [← Ny318.out] at ho100 | (simp only [Int.reduceToNat] at ho100; rw [← Ny318.out] at ho100)); have _ := aM (Kd.R_elder' (rA HO1_3.out) (Kd.R_base ho100) hb); have _ := aM (rB HO1_4.out hb); have _ := aM (Kd.R_lower (Kd.R_new' (Kd.R_newM (M := fun k_ => ((P1_3_ k_ ∨ P1_4_ k_) ∨ w.heap.size ≤ k_)) ho100 (by first | exact HK.out.1 | exact (show Kept w _ (fun k_ => (P1_3_ k_ ∨ P1_4_ k_) ∨ k_ = g) from (sK (w := w))).1) (fun k_ h_ => .inr h_)) (Kd.R_lt (rA HO1_3.out))) (below_size (sB85 (B := w0.heap.size) (w0 := w0)))); have _ := aM (IsS85.below sI85 hb); have _ := aM (kB BK274.out hb); have _ := aM (kB BK275.out hb); have _ := aM (Kept.below (S := (fun k_ => (P1_3_ k_ ∨ P1_4_ k_) ∨ k_ = g)) (sK (w := w)) hb); have _ := aM (below_step (sB85 (B := w0.heap.size) (w0 := w0)) hb); clear HO1_3 HO1_4 HI0 BK274 BK275 HK HB; rename_i HO1_3 HO1_4 HO320 HI0 BK274 BK275 HK HB; clear hb ho100; obtain ⟨Ao101, co101, eo101⟩ := Kd.R_slice HO320.out; subst eo101) | ((with_reducible refine gate_callee (f := 83) rfl ?_); refine gL (some 49) rfl rfl Try.func83 (by kernel_rfl) rfl #[.pointer (some ⟨g, 0, none⟩), .slice Ao101 y318.length co101] rfl ?_; (with_reducible refine (spec_l1Int.calls g s0_0 t277 t278 _ _ y318 t321 t322 t323 w0 _ ?side1 ?side2 ?side3 ?side4 ?side5 A93.out).mono ?_); (case side1 => exact sI85); (case side2 => exact (sB85 (B := w0.heap.size) (w0 := w0))); (case side3 => exact cR HO320.out); (case side4 => exact (Kd.R_reads' HO320.out).2.1); (case side5 => exact far_slice (IsS85.own_ne HI0.out HO320.out (by decide))); rintro e w102 ⟨rfl, hi, hb, hk⟩; refine ⟨_, rfl, ?_⟩; have _ := aM (rK85 HO1_3.out hk); have _ := aM (rK85 HO1_4.out hk); have _ := aM (KeepBut.blk hk (g' := gb274) (o := .cells #[.int .i64 a1_0, .int .i64 a1_1, .int .i64 a1_2, .slice Ao94 l1_3.length co94, .slice Ao95 l1_4.length co95, .int .i64 a1_5] 29 (0, 0)) (kA BK274.out) NB274_0.out (by simp)); have _ := aM (KeepBut.blk hk (g' := gb275) (o := .cells #[.int .i64 0, .int .i64 0, .int .i64 0, .slice none 0 0, .slice none 0 0, .int .i64 0] 29 (0, 0)) (kA BK275.out) NB275_0.out (by simp)); have _ := aM (rK85 HO320.out hk); have _ := aM (Kept.of_keep (S := (fun k_ => (P1_3_ k_ ∨ P1_4_ k_) ∨ k_ = g)) (sK (w := w)) hk (.inl (.inr rfl))); have _ := aM (hb); have _ := aM (hi); clear HO1_3 HO1_4 BK274 BK275 HO320 HK HB HI0; rename_i HO1_3 HO1_4 BK274 BK275 HO320 HK HB HI0; (try clear hb); (try clear hk); (try clear hi); have hnb103 := NB274_275.out; have hnc103 := NB275_274.out; have hnb104 := NB274_0.out; have hnc104 := NB0_274.out; obtain ⟨hcz105_0, hfz105_0, hcz105_1, hfz105_1, hcz105_2, hfz105_2, hcz105_3, hfz105_3, hcz105_4, hfz105_4, hcz105_5, hfz105_5⟩ := bk6 BK274.out; have hnb106 := NB275_0.out; have hnc106 := NB0_275.out; obtain ⟨hcz107_0, hfz107_0, hcz107_1, hfz107_1, hcz107_2, hfz107_2, hcz107_3, hfz107_3, hcz107_4, hfz107_4, hcz107_5, hfz107_5⟩ := bk6 BK275.out))
      refine bodyPost_ret (results_cell_row rfl _ _ gb275 29 #[.int .i64 a1_0, .int .i64 a1_1, .int .i64 a1_2, .slice Ao94 l1_3.length co94, .slice Ao95 l1_4.length co95, .int .i64 t321] (0, 0) _ rfl (kX BK275.out) Try.underlying29 rfl (by kernel_rfl)) rfl ?_
      exact ⟨_, _, by first | rfl | (simp [errW_none, errW_some] <;> rfl) | (simp [*, errW_none, errW_some] <;> rfl), by (with_reducible repeat (first | apply Kd.R_alloc | apply Kd.R_drewN | apply Kd.R_drew)); exact Kd.R_mono (Kd.R_far (p := ⟨gb275, 5, none⟩) (Kd.R_far (p := ⟨gb275, 4, none⟩) (Kd.R_far (p := ⟨gb275, 3, none⟩) (Kd.R_far (p := ⟨gb275, 2, none⟩) (Kd.R_far (p := ⟨gb275, 1, none⟩) (Kd.R_far (p := ⟨gb275, 0, none⟩) (Kd.R_far (p := ⟨gb274, 5, none⟩) (Kd.R_types (Kd.R_types HO1_3.out BK274.out (by decide)) BK275.out (by decide)) (fun _ hk => hk.1.2) (.int .i64 t321)) (fun _ hk => hk.2) (.int .i64 a1_0)) (fun _ hk => hk.2) (.int .i64 a1_1)) (fun _ hk => hk.2) (.int .i64 a1_2)) (fun _ hk => hk.2) (.slice Ao94 l1_3.length co94)) (fun _ hk => hk.2) (.slice Ao95 l1_4.length co95)) (fun _ hk => hk.2) (.int .i64 t321)) (fun _ hk => hk.1.1.1), by (with_reducible repeat (first | apply Kd.R_alloc | apply Kd.R_drewN | apply Kd.R_drew)); exact Kd.R_mono (Kd.R_far (p := ⟨gb275, 5, none⟩) (Kd.R_far (p := ⟨gb275, 4, none⟩) (Kd.R_far (p := ⟨gb275, 3, none⟩) (Kd.R_far (p := ⟨gb275, 2, none⟩) (Kd.R_far (p := ⟨gb275, 1, none⟩) (Kd.R_far (p := ⟨gb275, 0, none⟩) (Kd.R_far (p := ⟨gb274, 5, none⟩) (Kd.R_types (Kd.R_types HO1_4.out BK274.out (by decide)) BK275.out (by decide)) (fun _ hk => hk.1.2) (.int .i64 t321)) (fun _ hk => hk.2) (.int .i64 a1_0)) (fun _ hk => hk.2) (.int .i64 a1_1)) (fun _ hk => hk.2) (.int .i64 a1_2)) (fun _ hk => hk.2) (.slice Ao94 l1_3.length co94)) (fun _ hk => hk.2) (.slice Ao95 l1_4.length co95)) (fun _ hk => hk.2) (.int .i64 t321)) (fun _ hk => hk.1.1), sI85, (sB85 (B := w0.heap.size) (w0 := w0)), (sK (w := w))⟩
     rw [if_pos c73] at H
     have c73b0 : (t276 == 4) = true := beq_iff_eq.mpr c73
     have c73b1 : (t276 != 4) = false := bne_eq_false_iff_eq.mpr c73
     clear c73
     obtain ⟨y309, hy309⟩ : ∃ y_ : List Bool, y_ = (([] : List Bool)) := ⟨_, rfl⟩
     replace H : (if y309.length + l1_4.length < 140737488355328 then ((some (y309 ++ l1_4 : List Bool)).bind fun y312 => (if y312.length < 140737488355328 then (some (a1_0, a1_1, a1_2, l1_3, (y312 ++ [true]), a1_5, t277, t278)) else (none))) else (none)) = some (r1, r2, r3, r4, r5, r6, r7, r8) := by first | (rw [hy309]; with_reducible exact H) | (have H2_ := (Option.bind_some _ _).symm.trans H; rw [hy309]; with_reducible exact H2_) | (have H2_ := (Option.bind_some _ _).symm.trans H; with_reducible exact H2_) | with_reducible exact H | (rw [hy309]; exact H) | exact H
     have Ny309 := aM hy309
     clear hy309
     by_cases c74 : y309.length + l1_4.length < 140737488355328
     rotate_left
     ·rw [if_neg c74] at H
      exact absurd H (by simp)
     rw [if_pos c74] at H
     have LMc74 := aM c74
     clear c74
     obtain ⟨y312, hy312⟩ : ∃ y_ : List Bool, y_ = (y309 ++ l1_4) := ⟨_, rfl⟩
     replace H : (if y312.length < 140737488355328 then (some (a1_0, a1_1, a1_2, l1_3, (y312 ++ [true]), a1_5, t277, t278)) else (none)) = some (r1, r2, r3, r4, r5, r6, r7, r8) := by first | (rw [hy312]; with_reducible exact H) | (have H2_ := (Option.bind_some _ _).symm.trans H; rw [hy312]; with_reducible exact H2_) | (have H2_ := (Option.bind_some _ _).symm.trans H; with_reducible exact H2_) | with_reducible exact H | (rw [hy312]; exact H) | exact H
     have Ny312 := aM hy312
     clear hy312
     by_cases c75 : y312.length < 140737488355328
     rotate_left
     ·rw [if_neg c75] at H
      exact absurd H (by simp)
     rw [if_pos c75] at H
     have LMc75 := aM c75
     clear c75
     obtain ⟨y315, hy315⟩ : ∃ y_ : List Bool, y_ = (y312 ++ [true]) := ⟨_, rfl⟩
     replace H : (some (a1_0, a1_1, a1_2, l1_3, y315, a1_5, t277, t278)) = some (r1, r2, r3, r4, r5, r6, r7, r8) := by first | (rw [hy315]; with_reducible exact H) | (have H2_ := (Option.bind_some _ _).symm.trans H; rw [hy315]; with_reducible exact H2_) | (have H2_ := (Option.bind_some _ _).symm.trans H; with_reducible exact H2_) | with_reducible exact H | (rw [hy315]; exact H) | exact H
     have Ny315 := aM hy315
     clear hy315
     simp only [Option.some.injEq, Prod.mk.injEq] at H
     obtain ⟨rfl, rfl, rfl, rfl, rfl, rfl, rfl, rfl⟩ := H
     obtain ⟨Ao76, co76, eo76⟩ := Kd.R_slice HO1_3.out
     subst eo76
     obtain ⟨Ao77, co77, eo77⟩ := Kd.R_slice HO1_4.out
     subst eo77
     go_enter Try.func75, Try.ntmps75
     go_wp2_with (first | ((with_reducible refine gate_dst (N := 3) rfl ?_); refine box_event ?hg (N := 3) ?hd (cs := #[.int .i64 a1_0, .int .i64 a1_1, .int .i64 a1_2, .slice Ao76 l1_3.length co76, .slice Ao77 l1_4.length co77, .int .i64 a1_5]) (t := 29) ?hr ?_; (case hd => rfl); (case hg => rfl); (case hr => first | (go_simp; done) | (go_simp; rfl)); intro gb274 hg w78 hbox hb; have _ := aM (rB HO1_3.out hb); have _ := aM (rB HO1_4.out hb); have _ := aM (IsS85.below sI85 hb); have _ := aM (Kept.below (S := (fun k_ => (P1_3_ k_ ∨ P1_4_ k_) ∨ k_ = g)) (sK (w := w)) hb); have _ := aM (below_step (sB85 (B := w0.heap.size) (w0 := w0)) hb); have _ := aM (hbox); have _ := aM ((by rw [hg]; exact (by first | exact HK.out.1 | exact (show Kept w _ (fun k_ => (P1_3_ k_ ∨ P1_4_ k_) ∨ k_ = g) from (sK (w := w))).1) : w.heap.size ≤ gb274)); have _ := aM ((by rw [hg]; exact (below_size (sB85 (B := w0.heap.size) (w0 := w0))) : w0.heap.size ≤ gb274)); have _ := aM ((by rw [hg]; exact Nat.ne_of_lt (IsS85.lt (show IsS85 w0 _ g s0_0 s0_1 s0_2 from sI85)) : g ≠ gb274)); have _ := aM ((by rw [hg]; exact Nat.ne_of_gt (IsS85.lt (show IsS85 w0 _ g s0_0 s0_1 s0_2 from sI85)) : gb274 ≠ g)); clear HO1_3 HO1_4 HI0 HK HB; rename_i HO1_3 HO1_4 HI0 HK HB BK274 GW274 GE274 NB0_274 NB274_0; clear hb hbox hg) | ((with_reducible refine gate_dst (N := 4) rfl ?_); refine box_event ?hg (N := 4) ?hd (cs := #[.int .i64 0, .int .i64 0, .int .i64 0, .slice none 0 0, .slice none 0 0, .int .i64 0]) (t := 29) ?hr ?_; (case hd => rfl); (case hg => rfl); (case hr => first | (go_simp; done) | (go_simp; rfl)); intro gb275 hg w79 hbox hb; have _ := aM (rB HO1_3.out hb); have _ := aM (rB HO1_4.out hb); have _ := aM (IsS85.below sI85 hb); have _ := aM (kB BK274.out hb); have _ := aM (Kept.below (S := (fun k_ => (P1_3_ k_ ∨ P1_4_ k_) ∨ k_ = g)) (sK (w := w)) hb); have _ := aM (below_step (sB85 (B := w0.heap.size) (w0 := w0)) hb); have _ := aM (hbox); have _ := aM ((by rw [hg]; exact (by first | exact HK.out.1 | exact (show Kept w _ (fun k_ => (P1_3_ k_ ∨ P1_4_ k_) ∨ k_ = g) from (sK (w := w))).1) : w.heap.size ≤ gb275)); have _ := aM ((by rw [hg]; exact (below_size (sB85 (B := w0.heap.size) (w0 := w0))) : w0.heap.size ≤ gb275)); have _ := aM (neL hg (kA BK274.out)); have _ := aM (neG hg (kA BK274.out)); have _ := aM ((by rw [hg]; exact Nat.ne_of_lt (IsS85.lt (show IsS85 w0 _ g s0_0 s0_1 s0_2 from sI85)) : g ≠ gb275)); have _ := aM ((by rw [hg]; exact Nat.ne_of_gt (IsS85.lt (show IsS85 w0 _ g s0_0 s0_1 s0_2 from sI85)) : gb275 ≠ g)); clear HO1_3 HO1_4 HI0 BK274 HK HB; rename_i HO1_3 HO1_4 HI0 BK274 HK HB BK275 GW275 GE275 NB274_275 NB275_274 NB0_275 NB275_0; clear hb hbox hg) | ((with_reducible refine gate_callee (f := 76) rfl ?_); refine gL (some 6) rfl rfl Try.func76 (by kernel_rfl) rfl #[.pointer (some ⟨g, 0, none⟩), .int .i64 7] rfl ?_; (with_reducible refine (spec_l1Below.calls g s0_0 s0_1 s0_2 7 t276 t277 t278 w0 _ ?side1 ?side2 A3.out).mono ?_); (case side1 => exact sI85); (case side2 => exact (sB85 (B := w0.heap.size) (w0 := w0))); rintro e w80 ⟨rfl, hi, hb, hk⟩; refine ⟨_, rfl, ?_⟩; have _ := aM (rK85 HO1_3.out hk); have _ := aM (rK85 HO1_4.out hk); have _ := aM (KeepBut.blk hk (g' := gb274) (o := .cells #[.int .i64 a1_0, .int .i64 a1_1, .int .i64 a1_2, .slice Ao76 l1_3.length co76, .slice Ao77 l1_4.length co77, .int .i64 a1_5] 29 (0, 0)) (kA BK274.out) NB274_0.out (by simp)); have _ := aM (KeepBut.blk hk (g' := gb275) (o := .cells #[.int .i64 0, .int .i64 0, .int .i64 0, .slice none 0 0, .slice none 0 0, .int .i64 0] 29 (0, 0)) (kA BK275.out) NB275_0.out (by simp)); have _ := aM (Kept.of_keep (S := (fun k_ => (P1_3_ k_ ∨ P1_4_ k_) ∨ k_ = g)) (sK (w := w)) hk (.inl (.inr rfl))); have _ := aM (hb); have _ := aM (hi); clear HO1_3 HO1_4 BK274 BK275 HK HB HI0; rename_i HO1_3 HO1_4 BK274 BK275 HK HB HI0; (try clear hb); (try clear hk); (try clear hi)) | ((with_reducible refine gate_dst (N := 38) rfl ?_); refine Kd.R_lit Kd.bool _ 4 ?hg (N := 38) ?hd (xs := ([] : List Bool)) (inner := []) (ok := fun _ => True) (okp := fun _ => True) ?hr ?hp (fun _ hk => hk) trivial (Below.refl _ _) (Nat.le_refl _) (by simp) ?_; (case hd => rfl); (case hg => rfl); (case hr => first | (go_simp; done) | (go_simp; rfl)); (case hp => exact (Reps.none _ _)); intro v310 w81 ho82 hb hg_ hnew_; clear hg_ hnew_; (first | rw [← Ny309.out] at ho82 | (simp only [Int.reduceToNat] at ho82; rw [← Ny309.out] at ho82)); have _ := aM (rB HO1_3.out hb); have _ := aM (Kd.R_elder' (rA HO1_4.out) (Kd.R_base ho82) hb); have _ := aM (Kd.R_lower (Kd.R_new' (Kd.R_newM (M := fun k_ => ((P1_3_ k_ ∨ P1_4_ k_) ∨ w.heap.size ≤ k_)) ho82 (by first | exact HK.out.1 | exact (show Kept w _ (fun k_ => (P1_3_ k_ ∨ P1_4_ k_) ∨ k_ = g) from (sK (w := w))).1) (fun k_ h_ => .inr h_)) (Kd.R_lt (rA HO1_4.out))) (below_size (sB85 (B := w0.heap.size) (w0 := w0)))); have _ := aM (IsS85.below sI85 hb); have _ := aM (kB BK274.out hb); have _ := aM (kB BK275.out hb); have _ := aM (Kept.below (S := (fun k_ => (P1_3_ k_ ∨ P1_4_ k_) ∨ k_ = g)) (sK (w := w)) hb); have _ := aM (below_step (sB85 (B := w0.heap.size) (w0 := w0)) hb); clear HO1_3 HO1_4 HI0 BK274 BK275 HK HB; rename_i HO1_3 HO1_4 HO311 HI0 BK274 BK275 HK HB; clear hb ho82; have hnb83 := NB274_275.out; have hnc83 := NB275_274.out; have hnb84 := NB274_0.out; have hnc84 := NB0_274.out; obtain ⟨hcz85_0, hfz85_0, hcz85_1, hfz85_1, hcz85_2, hfz85_2, hcz85_3, hfz85_3, hcz85_4, hfz85_4, hcz85_5, hfz85_5⟩ := bk6 BK274.out) | ((with_reducible refine gate_builtin (b := .append) (xs := #[.tmp 38, .tmp 40]) rfl ?_); at_builtin; refine Kd.R_append_rows Kd.bool (w0 := w0) w0.heap.size rfl (.tmp 38) (.tmp 40) 23 4 (.bool false) 1 rfl Try.underlying23 info4 rfl (by decide) (by omega) v310 y309 l1_4 _ _ _ (fun k_ => ((P1_3_ k_ ∨ P1_4_ k_) ∨ w.heap.size ≤ k_) ∧ some k_ ≠ (.slice Ao77 l1_4.length co77 : Value).ownBlock) (fun _ => False) rfl rfl ?aO ?aR (fun _ _ h => h) (fun _ h => h.elim) ?aF ?aB ?aS ?aL ?_; (case aR => repeat (first | exact (Kd.R_reads' HO1_4.out).2.2 | (with_reducible refine Kd.C_alloc ?_ _) | (with_reducible refine Kd.C_drewN ?_ _) | (with_reducible refine Kd.C_drew ?_))); (case aB => exact (sB85 (B := w0.heap.size) (w0 := w0))); (case aF => exact (fun k_ hk => ⟨(.inr (Nat.le_trans (by first | exact HK.out.1 | exact (show Kept w _ (fun k_ => (P1_3_ k_ ∨ P1_4_ k_) ∨ k_ = g) from (sK (w := w))).1) hk)), Kd.fresh' (Kd.R_lt (rA HO1_4.out)) k_ hk⟩)); (case aO => exact (by (with_reducible repeat (first | apply Kd.R_alloc | apply Kd.R_drewN | apply Kd.R_drew)); exact Kd.R_mono HO311.out (fun _ hk => by first | exact ⟨hk.1.1, hk.2⟩ | (simp only [ne_eq] at hk ⊢; simp [hk])))); (case aS => exact (below_size (sB85 (B := w0.heap.size) (w0 := w0)))); (case aL => have := LMc74.out; omega); intro v313 w86 ho hb hg hat; rw [← Ny312.out] at ho; have _ := aM (IsS85.grown sI85 hg (IsS85.own_ne HI0.out HO311.out (by decide))); have _ := aM (Kd.R_over' (rA HO1_3.out) (Kd.R_typed (rA HO311.out)) (by decide) hg); have _ := aM (Kd.R_after (ok := (fun k_ => ((P1_3_ k_ ∨ P1_4_ k_) ∨ w.heap.size ≤ k_))) (rA HO1_4.out) hg hat); have _ := aM (blk_grown (g := gb274) (o := .cells #[.int .i64 a1_0, .int .i64 a1_1, .int .i64 a1_2, .slice Ao76 l1_3.length co76, .slice Ao77 l1_4.length co77, .int .i64 a1_5] 29 (0, 0)) (kA BK274.out) hg (Kd.R_ne HO311.out BK274.out (by decide))); have _ := aM (blk_grown (g := gb275) (o := .cells #[.int .i64 0, .int .i64 0, .int .i64 0, .slice none 0 0, .slice none 0 0, .int .i64 0] 29 (0, 0)) (kA BK275.out) hg (Kd.R_ne HO311.out BK275.out (by decide))); have _ := aM (hb); have _ := aM (Kept.of_grown (S := (fun k_ => (P1_3_ k_ ∨ P1_4_ k_) ∨ k_ = g)) hg (sK (w := w)) (fun k_ e_ => Or.imp_left Or.inl ((HO311.out.1 k_ e_).1.1))); have _ := aM (ho); clear HI0 HO1_3 HO1_4 BK274 BK275 HB HK HO311; rename_i HI0 HO1_3 HO1_4 BK274 BK275 HB HK HO314; clear ho hb hg hat) | ((with_reducible refine gate_builtin (b := .append) (xs := #[.tmp 41, .tmp 42]) rfl ?_); at_builtin; refine Kd.R_append Kd.bool (w0 := w0) w0.heap.size rfl (.tmp 41) (.tmp 42) 23 4 (.bool false) 1 rfl Try.underlying23 info4 rfl (by decide) (by omega) v313 y312 true [.bool true] (fun k_ => ((P1_3_ k_ ∨ P1_4_ k_) ∨ w.heap.size ≤ k_) ∧ some k_ ≠ (.slice Ao77 l1_4.length co77 : Value).ownBlock) (fun _ => False) rfl rfl ?aP (fun _ hk => hk.elim) ?aF ?aO ?aB ?aS ?aL ?_; (case aP => exact rfl); (case aB => exact (sB85 (B := w0.heap.size) (w0 := w0))); (case aF => exact (fun k_ hk => ⟨(.inr (Nat.le_trans (by first | exact HK.out.1 | exact (show Kept w _ (fun k_ => (P1_3_ k_ ∨ P1_4_ k_) ∨ k_ = g) from (sK (w := w))).1) hk)), Kd.fresh' (Kd.R_lt (rA HO1_4.out)) k_ hk⟩)); (case aO => exact (rA HO314.out)); (case aS => exact (below_size (sB85 (B := w0.heap.size) (w0 := w0)))); (case aL => have := LMc75.out; omega); intro v316 w87 ho hb hg hat; rw [← Ny315.out] at ho; have _ := aM (IsS85.grown sI85 hg (IsS85.own_ne HI0.out HO314.out (by decide))); have _ := aM (Kd.R_over' (rA HO1_3.out) (Kd.R_typed (rA HO314.out)) (by decide) hg); have _ := aM (Kd.R_after (ok := (fun k_ => ((P1_3_ k_ ∨ P1_4_ k_) ∨ w.heap.size ≤ k_))) (rA HO1_4.out) hg hat); have _ := aM (blk_grown (g := gb274) (o := .cells #[.int .i64 a1_0, .int .i64 a1_1, .int .i64 a1_2, .slice Ao76 l1_3.length co76, .slice Ao77 l1_4.length co77, .int .i64 a1_5] 29 (0, 0)) (kA BK274.out) hg (Kd.R_ne HO314.out BK274.out (by decide))); have _ := aM (blk_grown (g := gb275) (o := .cells #[.int .i64 0, .int .i64 0, .int .i64 0, .slice none 0 0, .slice none 0 0, .int .i64 0] 29 (0, 0)) (kA BK275.out) hg (Kd.R_ne HO314.out BK275.out (by decide))); have _ := aM (hb); have _ := aM (Kept.of_grown (S := (fun k_ => (P1_3_ k_ ∨ P1_4_ k_) ∨ k_ = g)) hg (sK (w := w)) (fun k_ e_ => Or.imp_left Or.inl ((HO314.out.1 k_ e_).1))); have _ := aM (ho); clear HI0 HO1_3 HO1_4 BK274 BK275 HB HK HO314; rename_i HI0 HO1_3 HO1_4 BK274 BK275 HB HK HO317; clear ho hb hg hat; obtain ⟨Ao88, co88, eo88⟩ := Kd.R_slice HO317.out; subst eo88; obtain ⟨hcz89_0, hfz89_0, hcz89_1, hfz89_1, hcz89_2, hfz89_2, hcz89_3, hfz89_3, hcz89_4, hfz89_4, hcz89_5, hfz89_5⟩ := bk6 BK274.out; have hnb90 := NB275_0.out; have hnc90 := NB0_275.out; obtain ⟨hcz91_0, hfz91_0, hcz91_1, hfz91_1, hcz91_2, hfz91_2, hcz91_3, hfz91_3, hcz91_4, hfz91_4, hcz91_5, hfz91_5⟩ := bk6 BK275.out))
     refine bodyPost_ret (results_cell_row rfl _ _ gb275 29 #[.int .i64 a1_0, .int .i64 a1_1, .int .i64 a1_2, .slice Ao76 l1_3.length co76, .slice Ao88 y315.length co88, .int .i64 a1_5] (0, 0) _ rfl (kX BK275.out) Try.underlying29 rfl (by kernel_rfl)) rfl ?_
     exact ⟨_, _, by first | rfl | (simp [errW_none, errW_some] <;> rfl) | (simp [*, errW_none, errW_some] <;> rfl), by (with_reducible repeat (first | apply Kd.R_alloc | apply Kd.R_drewN | apply Kd.R_drew)); exact Kd.R_mono (Kd.R_far (p := ⟨gb275, 5, none⟩) (Kd.R_far (p := ⟨gb275, 4, none⟩) (Kd.R_far (p := ⟨gb275, 3, none⟩) (Kd.R_far (p := ⟨gb275, 2, none⟩) (Kd.R_far (p := ⟨gb275, 1, none⟩) (Kd.R_far (p := ⟨gb275, 0, none⟩) (Kd.R_far (p := ⟨gb274, 4, none⟩) (Kd.R_types (Kd.R_types HO1_3.out BK274.out (by decide)) BK275.out (by decide)) (fun _ hk => hk.1.2) (.slice Ao88 y315.length co88)) (fun _ hk => hk.2) (.int .i64 a1_0)) (fun _ hk => hk.2) (.int .i64 a1_1)) (fun _ hk => hk.2) (.int .i64 a1_2)) (fun _ hk => hk.2) (.slice Ao76 l1_3.length co76)) (fun _ hk => hk.2) (.slice Ao88 y315.length co88)) (fun _ hk => hk.2) (.int .i64 a1_5)) (fun _ hk => hk.1.1), by (with_reducible repeat (first | apply Kd.R_alloc | apply Kd.R_drewN | apply Kd.R_drew)); exact Kd.R_mono (Kd.R_far (p := ⟨gb275, 5, none⟩) (Kd.R_far (p := ⟨gb275, 4, none⟩) (Kd.R_far (p := ⟨gb275, 3, none⟩) (Kd.R_far (p := ⟨gb275, 2, none⟩) (Kd.R_far (p := ⟨gb275, 1, none⟩) (Kd.R_far (p := ⟨gb275, 0, none⟩) (Kd.R_far (p := ⟨gb274, 4, none⟩) (Kd.R_types (Kd.R_types HO317.out BK274.out (by decide)) BK275.out (by decide)) (fun _ hk => hk.1.2) (.slice Ao88 y315.length co88)) (fun _ hk => hk.2) (.int .i64 a1_0)) (fun _ hk => hk.2) (.int .i64 a1_1)) (fun _ hk => hk.2) (.int .i64 a1_2)) (fun _ hk => hk.2) (.slice Ao76 l1_3.length co76)) (fun _ hk => hk.2) (.slice Ao88 y315.length co88)) (fun _ hk => hk.2) (.int .i64 a1_5)) (fun _ hk => hk.1.1.1), sI85, (sB85 (B := w0.heap.size) (w0 := w0)), (sK (w := w))⟩
    rw [if_pos c49] at H
    have c49b0 : (t276 == 3) = true := beq_iff_eq.mpr c49
    have c49b1 : (t276 != 3) = false := bne_eq_false_iff_eq.mpr c49
    clear c49
    obtain ⟨y294, hy294⟩ : ∃ y_ : List Int, y_ = (([] : List Int)) := ⟨_, rfl⟩
    replace H : (if y294.length + l1_3.length < 17592186044416 then ((some (y294 ++ l1_3 : List Int)).bind fun y297 => ((spec_l1Int.f s0_0 t277 t278 (([0, 65536, (-1)] : List Int))).bind fun bt303 => (if y297.length < 17592186044416 then (some (a1_0, a1_1, a1_2, (y297 ++ [bt303.1]), l1_4, a1_5, bt303.2.1, bt303.2.2)) else (none)))) else (none)) = some (r1, r2, r3, r4, r5, r6, r7, r8) := by first | (rw [hy294]; with_reducible exact H) | (have H2_ := (Option.bind_some _ _).symm.trans H; rw [hy294]; with_reducible exact H2_) | (have H2_ := (Option.bind_some _ _).symm.trans H; with_reducible exact H2_) | with_reducible exact H | (rw [hy294]; exact H) | exact H
    have Ny294 := aM hy294
    clear hy294
    by_cases c50 : y294.length + l1_3.length < 17592186044416
    rotate_left
    ·rw [if_neg c50] at H
     exact absurd H (by simp)
    rw [if_pos c50] at H
    have LMc50 := aM c50
    clear c50
    obtain ⟨y297, hy297⟩ : ∃ y_ : List Int, y_ = (y294 ++ l1_3) := ⟨_, rfl⟩
    replace H : ((spec_l1Int.f s0_0 t277 t278 (([0, 65536, (-1)] : List Int))).bind fun bt303 => (if y297.length < 17592186044416 then (some (a1_0, a1_1, a1_2, (y297 ++ [bt303.1]), l1_4, a1_5, bt303.2.1, bt303.2.2)) else (none))) = some (r1, r2, r3, r4, r5, r6, r7, r8) := by first | (rw [hy297]; with_reducible exact H) | (have H2_ := (Option.bind_some _ _).symm.trans H; rw [hy297]; with_reducible exact H2_) | (have H2_ := (Option.bind_some _ _).symm.trans H; with_reducible exact H2_) | with_reducible exact H | (rw [hy297]; exact H) | exact H
    have Ny297 := aM hy297
    clear hy297
    obtain ⟨y300, hy300⟩ : ∃ y_ : List Int, y_ = (([0, 65536, (-1)] : List Int)) := ⟨_, rfl⟩
    replace H : ((spec_l1Int.f s0_0 t277 t278 y300).bind fun bt303 => (if y297.length < 17592186044416 then (some (a1_0, a1_1, a1_2, (y297 ++ [bt303.1]), l1_4, a1_5, bt303.2.1, bt303.2.2)) else (none))) = some (r1, r2, r3, r4, r5, r6, r7, r8) := by first | (rw [hy300]; with_reducible exact H) | (have H2_ := (Option.bind_some _ _).symm.trans H; rw [hy300]; with_reducible exact H2_) | (have H2_ := (Option.bind_some _ _).symm.trans H; with_reducible exact H2_) | with_reducible exact H | (rw [hy300]; exact H) | exact H
    have Ny300 := aM hy300
    clear hy300
    replace H := Option.bind_eq_some_iff.mp H
    obtain ⟨⟨t303, t304, t305⟩, A510, H⟩ := H
    (try dsimp only at H)
    have A51 := aM A510
    clear A510
    by_cases c52 : y297.length < 17592186044416
    rotate_left
    ·rw [if_neg c52] at H
     exact absurd H (by simp)
    rw [if_pos c52] at H
    have LMc52 := aM c52
    clear c52
    obtain ⟨y306, hy306⟩ : ∃ y_ : List Int, y_ = (y297 ++ [t303]) := ⟨_, rfl⟩
    replace H : (some (a1_0, a1_1, a1_2, y306, l1_4, a1_5, t304, t305)) = some (r1, r2, r3, r4, r5, r6, r7, r8) := by first | (rw [hy306]; with_reducible exact H) | (have H2_ := (Option.bind_some _ _).symm.trans H; rw [hy306]; with_reducible exact H2_) | (have H2_ := (Option.bind_some _ _).symm.trans H; with_reducible exact H2_) | with_reducible exact H | (rw [hy306]; exact H) | exact H
    have Ny306 := aM hy306
    clear hy306
    simp only [Option.some.injEq, Prod.mk.injEq] at H
    obtain ⟨rfl, rfl, rfl, rfl, rfl, rfl, rfl, rfl⟩ := H
    obtain ⟨Ao53, co53, eo53⟩ := Kd.R_slice HO1_3.out
    subst eo53
    obtain ⟨Ao54, co54, eo54⟩ := Kd.R_slice HO1_4.out
    subst eo54
    go_enter Try.func75, Try.ntmps75
    go_wp2_with (first | ((with_reducible refine gate_dst (N := 3) rfl ?_); refine box_event ?hg (N := 3) ?hd (cs := #[.int .i64 a1_0, .int .i64 a1_1, .int .i64 a1_2, .slice Ao53 l1_3.length co53, .slice Ao54 l1_4.length co54, .int .i64 a1_5]) (t := 29) ?hr ?_; (case hd => rfl); (case hg => rfl); (case hr => first | (go_simp; done) | (go_simp; rfl)); intro gb274 hg w55 hbox hb; have _ := aM (rB HO1_3.out hb); have _ := aM (rB HO1_4.out hb); have _ := aM (IsS85.below sI85 hb); have _ := aM (Kept.below (S := (fun k_ => (P1_3_ k_ ∨ P1_4_ k_) ∨ k_ = g)) (sK (w := w)) hb); have _ := aM (below_step (sB85 (B := w0.heap.size) (w0 := w0)) hb); have _ := aM (hbox); have _ := aM ((by rw [hg]; exact (by first | exact HK.out.1 | exact (show Kept w _ (fun k_ => (P1_3_ k_ ∨ P1_4_ k_) ∨ k_ = g) from (sK (w := w))).1) : w.heap.size ≤ gb274)); have _ := aM ((by rw [hg]; exact (below_size (sB85 (B := w0.heap.size) (w0 := w0))) : w0.heap.size ≤ gb274)); have _ := aM ((by rw [hg]; exact Nat.ne_of_lt (IsS85.lt (show IsS85 w0 _ g s0_0 s0_1 s0_2 from sI85)) : g ≠ gb274)); have _ := aM ((by rw [hg]; exact Nat.ne_of_gt (IsS85.lt (show IsS85 w0 _ g s0_0 s0_1 s0_2 from sI85)) : gb274 ≠ g)); clear HO1_3 HO1_4 HI0 HK HB; rename_i HO1_3 HO1_4 HI0 HK HB BK274 GW274 GE274 NB0_274 NB274_0; clear hb hbox hg) | ((with_reducible refine gate_dst (N := 4) rfl ?_); refine box_event ?hg (N := 4) ?hd (cs := #[.int .i64 0, .int .i64 0, .int .i64 0, .slice none 0 0, .slice none 0 0, .int .i64 0]) (t := 29) ?hr ?_; (case hd => rfl); (case hg => rfl); (case hr => first | (go_simp; done) | (go_simp; rfl)); intro gb275 hg w56 hbox hb; have _ := aM (rB HO1_3.out hb); have _ := aM (rB HO1_4.out hb); have _ := aM (IsS85.below sI85 hb); have _ := aM (kB BK274.out hb); have _ := aM (Kept.below (S := (fun k_ => (P1_3_ k_ ∨ P1_4_ k_) ∨ k_ = g)) (sK (w := w)) hb); have _ := aM (below_step (sB85 (B := w0.heap.size) (w0 := w0)) hb); have _ := aM (hbox); have _ := aM ((by rw [hg]; exact (by first | exact HK.out.1 | exact (show Kept w _ (fun k_ => (P1_3_ k_ ∨ P1_4_ k_) ∨ k_ = g) from (sK (w := w))).1) : w.heap.size ≤ gb275)); have _ := aM ((by rw [hg]; exact (below_size (sB85 (B := w0.heap.size) (w0 := w0))) : w0.heap.size ≤ gb275)); have _ := aM (neL hg (kA BK274.out)); have _ := aM (neG hg (kA BK274.out)); have _ := aM ((by rw [hg]; exact Nat.ne_of_lt (IsS85.lt (show IsS85 w0 _ g s0_0 s0_1 s0_2 from sI85)) : g ≠ gb275)); have _ := aM ((by rw [hg]; exact Nat.ne_of_gt (IsS85.lt (show IsS85 w0 _ g s0_0 s0_1 s0_2 from sI85)) : gb275 ≠ g)); clear HO1_3 HO1_4 HI0 BK274 HK HB; rename_i HO1_3 HO1_4 HI0 BK274 HK HB BK275 GW275 GE275 NB274_275 NB275_274 NB0_275 NB275_0; clear hb hbox hg) | ((with_reducible refine gate_callee (f := 76) rfl ?_); refine gL (some 6) rfl rfl Try.func76 (by kernel_rfl) rfl #[.pointer (some ⟨g, 0, none⟩), .int .i64 7] rfl ?_; (with_reducible refine (spec_l1Below.calls g s0_0 s0_1 s0_2 7 t276 t277 t278 w0 _ ?side1 ?side2 A3.out).mono ?_); (case side1 => exact sI85); (case side2 => exact (sB85 (B := w0.heap.size) (w0 := w0))); rintro e w57 ⟨rfl, hi, hb, hk⟩; refine ⟨_, rfl, ?_⟩; have _ := aM (rK85 HO1_3.out hk); have _ := aM (rK85 HO1_4.out hk); have _ := aM (KeepBut.blk hk (g' := gb274) (o := .cells #[.int .i64 a1_0, .int .i64 a1_1, .int .i64 a1_2, .slice Ao53 l1_3.length co53, .slice Ao54 l1_4.length co54, .int .i64 a1_5] 29 (0, 0)) (kA BK274.out) NB274_0.out (by simp)); have _ := aM (KeepBut.blk hk (g' := gb275) (o := .cells #[.int .i64 0, .int .i64 0, .int .i64 0, .slice none 0 0, .slice none 0 0, .int .i64 0] 29 (0, 0)) (kA BK275.out) NB275_0.out (by simp)); have _ := aM (Kept.of_keep (S := (fun k_ => (P1_3_ k_ ∨ P1_4_ k_) ∨ k_ = g)) (sK (w := w)) hk (.inl (.inr rfl))); have _ := aM (hb); have _ := aM (hi); clear HO1_3 HO1_4 BK274 BK275 HK HB HI0; rename_i HO1_3 HO1_4 BK274 BK275 HK HB HI0; (try clear hb); (try clear hk); (try clear hi)) | ((with_reducible refine gate_dst (N := 26) rfl ?_); refine Kd.R_lit (Kd.int .i64) _ 3 ?hg (N := 26) ?hd (xs := ([] : List Int)) (inner := []) (ok := fun _ => True) (okp := fun _ => True) ?hr ?hp (fun _ hk => hk) trivial (Below.refl _ _) (Nat.le_refl _) (by simp) ?_; (case hd => rfl); (case hg => rfl); (case hr => first | (go_simp; done) | (go_simp; rfl)); (case hp => exact (Reps.none _ _)); intro v295 w58 ho59 hb hg_ hnew_; clear hg_ hnew_; (first | rw [← Ny294.out] at ho59 | (simp only [Int.reduceToNat] at ho59; rw [← Ny294.out] at ho59)); have _ := aM (Kd.R_elder' (rA HO1_3.out) (Kd.R_base ho59) hb); have _ := aM (rB HO1_4.out hb); have _ := aM (Kd.R_lower (Kd.R_new' (Kd.R_newM (M := fun k_ => ((P1_3_ k_ ∨ P1_4_ k_) ∨ w.heap.size ≤ k_)) ho59 (by first | exact HK.out.1 | exact (show Kept w _ (fun k_ => (P1_3_ k_ ∨ P1_4_ k_) ∨ k_ = g) from (sK (w := w))).1) (fun k_ h_ => .inr h_)) (Kd.R_lt (rA HO1_3.out))) (below_size (sB85 (B := w0.heap.size) (w0 := w0)))); have _ := aM (IsS85.below sI85 hb); have _ := aM (kB BK274.out hb); have _ := aM (kB BK275.out hb); have _ := aM (Kept.below (S := (fun k_ => (P1_3_ k_ ∨ P1_4_ k_) ∨ k_ = g)) (sK (w := w)) hb); have _ := aM (below_step (sB85 (B := w0.heap.size) (w0 := w0)) hb); clear HO1_3 HO1_4 HI0 BK274 BK275 HK HB; rename_i HO1_3 HO1_4 HO296 HI0 BK274 BK275 HK HB; clear hb ho59; have hnb60 := NB274_275.out; have hnc60 := NB275_274.out; have hnb61 := NB274_0.out; have hnc61 := NB0_274.out; obtain ⟨hcz62_0, hfz62_0, hcz62_1, hfz62_1, hcz62_2, hfz62_2, hcz62_3, hfz62_3, hcz62_4, hfz62_4, hcz62_5, hfz62_5⟩ := bk6 BK274.out) | ((with_reducible refine gate_builtin (b := .append) (xs := #[.tmp 26, .tmp 28]) rfl ?_); at_builtin; refine Kd.R_append_rows (Kd.int .i64) (w0 := w0) w0.heap.size rfl (.tmp 26) (.tmp 28) 22 3 (.int .i64 0) 8 rfl Try.underlying22 info3 rfl (by decide) (by omega) v295 y294 l1_3 _ _ _ (fun k_ => ((P1_3_ k_ ∨ P1_4_ k_) ∨ w.heap.size ≤ k_) ∧ some k_ ≠ (.slice Ao53 l1_3.length co53 : Value).ownBlock) (fun _ => False) rfl rfl ?aO ?aR (fun _ _ h => h) (fun _ h => h.elim) ?aF ?aB ?aS ?aL ?_; (case aR => repeat (first | exact (Kd.R_reads' HO1_3.out).2.2 | (with_reducible refine Kd.C_alloc ?_ _) | (with_reducible refine Kd.C_drewN ?_ _) | (with_reducible refine Kd.C_drew ?_))); (case aB => exact (sB85 (B := w0.heap.size) (w0 := w0))); (case aF => exact (fun k_ hk => ⟨(.inr (Nat.le_trans (by first | exact HK.out.1 | exact (show Kept w _ (fun k_ => (P1_3_ k_ ∨ P1_4_ k_) ∨ k_ = g) from (sK (w := w))).1) hk)), Kd.fresh' (Kd.R_lt (rA HO1_3.out)) k_ hk⟩)); (case aO => exact (by (with_reducible repeat (first | apply Kd.R_alloc | apply Kd.R_drewN | apply Kd.R_drew)); exact Kd.R_mono HO296.out (fun _ hk => by first | exact ⟨hk.1.1, hk.2⟩ | (simp only [ne_eq] at hk ⊢; simp [hk])))); (case aS => exact (below_size (sB85 (B := w0.heap.size) (w0 := w0)))); (case aL => have := LMc50.out; omega); intro v298 w63 ho hb hg hat; rw [← Ny297.out] at ho; have _ := aM (IsS85.grown sI85 hg (IsS85.own_ne HI0.out HO296.out (by decide))); have _ := aM (Kd.R_after (ok := (fun k_ => ((P1_3_ k_ ∨ P1_4_ k_) ∨ w.heap.size ≤ k_))) (rA HO1_3.out) hg hat); have _ := aM (Kd.R_over' (rA HO1_4.out) (Kd.R_typed (rA HO296.out)) (by decide) hg); have _ := aM (blk_grown (g := gb274) (o := .cells #[.int .i64 a1_0, .int .i64 a1_1, .int .i64 a1_2, .slice Ao53 l1_3.length co53, .slice Ao54 l1_4.length co54, .int .i64 a1_5] 29 (0, 0)) (kA BK274.out) hg (Kd.R_ne HO296.out BK274.out (by decide))); have _ := aM (blk_grown (g := gb275) (o := .cells #[.int .i64 0, .int .i64 0, .int .i64 0, .slice none 0 0, .slice none 0 0, .int .i64 0] 29 (0, 0)) (kA BK275.out) hg (Kd.R_ne HO296.out BK275.out (by decide))); have _ := aM (hb); have _ := aM (Kept.of_grown (S := (fun k_ => (P1_3_ k_ ∨ P1_4_ k_) ∨ k_ = g)) hg (sK (w := w)) (fun k_ e_ => Or.imp_left Or.inl ((HO296.out.1 k_ e_).1.1))); have _ := aM (ho); clear HI0 HO1_3 HO1_4 BK274 BK275 HB HK HO296; rename_i HI0 HO1_3 HO1_4 BK274 BK275 HB HK HO299; clear ho hb hg hat) | ((with_reducible refine gate_dst (N := 31) rfl ?_); refine Kd.R_lit (Kd.int .i64) _ 3 ?hg (N := 31) ?hd (xs := ([0, 65536, (-1)] : List Int)) (inner := [.int .i64 0, .int .i64 65536, .int .i64 (-1)]) (ok := fun _ => True) (okp := fun _ => True) ?hr ?hp (fun _ hk => hk) trivial (Below.refl _ _) (Nat.le_refl _) (by simp) ?_; (case hd => rfl); (case hg => rfl); (case hr => first | (go_simp; done) | (go_simp; rfl)); (case hp => exact (Reps.one (show Kd.M (Kd.int .i64) _ _ _ 0 [.int .i64 0] from rfl) (Reps.one (show Kd.M (Kd.int .i64) _ _ _ 65536 [.int .i64 65536] from rfl) (Reps.one (show Kd.M (Kd.int .i64) _ _ _ (-1) [.int .i64 (-1)] from rfl) (Reps.none _ _))))); intro v301 w64 ho65 hb hg_ hnew_; clear hg_ hnew_; (first | rw [← Ny300.out] at ho65 | (simp only [Int.reduceToNat] at ho65; rw [← Ny300.out] at ho65)); have _ := aM (Kd.R_elder' (rA HO1_3.out) (Kd.R_base ho65) hb); have _ := aM (rB HO1_4.out hb); have _ := aM (Kd.R_elder' (rA HO299.out) (Kd.R_base ho65) hb); have _ := aM (Kd.R_lower (Kd.R_new' (Kd.R_new' (Kd.R_newM (M := fun k_ => ((P1_3_ k_ ∨ P1_4_ k_) ∨ w.heap.size ≤ k_)) ho65 (by first | exact HK.out.1 | exact (show Kept w _ (fun k_ => (P1_3_ k_ ∨ P1_4_ k_) ∨ k_ = g) from (sK (w := w))).1) (fun k_ h_ => .inr h_)) (Kd.R_lt (rA HO1_3.out))) (Kd.R_lt (rA HO299.out))) (below_size (sB85 (B := w0.heap.size) (w0 := w0)))); have _ := aM (IsS85.below sI85 hb); have _ := aM (kB BK274.out hb); have _ := aM (kB BK275.out hb); have _ := aM (Kept.below (S := (fun k_ => (P1_3_ k_ ∨ P1_4_ k_) ∨ k_ = g)) (sK (w := w)) hb); have _ := aM (below_step (sB85 (B := w0.heap.size) (w0 := w0)) hb); clear HO1_3 HO1_4 HO299 HI0 BK274 BK275 HK HB; rename_i HO1_3 HO1_4 HO299 HO302 HI0 BK274 BK275 HK HB; clear hb ho65; obtain ⟨Ao66, co66, eo66⟩ := Kd.R_slice HO302.out; subst eo66) | ((with_reducible refine gate_callee (f := 83) rfl ?_); refine gL (some 32) rfl rfl Try.func83 (by kernel_rfl) rfl #[.pointer (some ⟨g, 0, none⟩), .slice Ao66 y300.length co66] rfl ?_; (with_reducible refine (spec_l1Int.calls g s0_0 t277 t278 _ _ y300 t303 t304 t305 w0 _ ?side1 ?side2 ?side3 ?side4 ?side5 A51.out).mono ?_); (case side1 => exact sI85); (case side2 => exact (sB85 (B := w0.heap.size) (w0 := w0))); (case side3 => exact cR HO302.out); (case side4 => exact (Kd.R_reads' HO302.out).2.1); (case side5 => exact far_slice (IsS85.own_ne HI0.out HO302.out (by decide))); rintro e w67 ⟨rfl, hi, hb, hk⟩; refine ⟨_, rfl, ?_⟩; have _ := aM (rK85 HO1_3.out hk); have _ := aM (rK85 HO1_4.out hk); have _ := aM (KeepBut.blk hk (g' := gb274) (o := .cells #[.int .i64 a1_0, .int .i64 a1_1, .int .i64 a1_2, .slice Ao53 l1_3.length co53, .slice Ao54 l1_4.length co54, .int .i64 a1_5] 29 (0, 0)) (kA BK274.out) NB274_0.out (by simp)); have _ := aM (KeepBut.blk hk (g' := gb275) (o := .cells #[.int .i64 0, .int .i64 0, .int .i64 0, .slice none 0 0, .slice none 0 0, .int .i64 0] 29 (0, 0)) (kA BK275.out) NB275_0.out (by simp)); have _ := aM (rK85 HO299.out hk); have _ := aM (rK85 HO302.out hk); have _ := aM (Kept.of_keep (S := (fun k_ => (P1_3_ k_ ∨ P1_4_ k_) ∨ k_ = g)) (sK (w := w)) hk (.inl (.inr rfl))); have _ := aM (hb); have _ := aM (hi); clear HO1_3 HO1_4 BK274 BK275 HO299 HO302 HK HB HI0; rename_i HO1_3 HO1_4 BK274 BK275 HO299 HO302 HK HB HI0; (try clear hb); (try clear hk); (try clear hi)) | ((with_reducible refine gate_builtin (b := .append) (xs := #[.tmp 29, .tmp 33]) rfl ?_); at_builtin; refine Kd.R_append (Kd.int .i64) (w0 := w0) w0.heap.size rfl (.tmp 29) (.tmp 33) 22 3 (.int .i64 0) 8 rfl Try.underlying22 info3 rfl (by decide) (by omega) v298 y297 t303 [.int .i64 t303] (fun k_ => ((P1_3_ k_ ∨ P1_4_ k_) ∨ w.heap.size ≤ k_) ∧ some k_ ≠ (.slice Ao53 l1_3.length co53 : Value).ownBlock ∧ some k_ ≠ (.slice Ao66 y300.length co66 : Value).ownBlock) (fun _ => False) rfl rfl ?aP (fun _ hk => hk.elim) ?aF ?aO ?aB ?aS ?aL ?_; (case aP => exact rfl); (case aB => exact (sB85 (B := w0.heap.size) (w0 := w0))); (case aF => exact (fun k_ hk => ⟨(.inr (Nat.le_trans (by first | exact HK.out.1 | exact (show Kept w _ (fun k_ => (P1_3_ k_ ∨ P1_4_ k_) ∨ k_ = g) from (sK (w := w))).1) hk)), Kd.fresh' (Kd.R_lt (rA HO1_3.out)) k_ hk, Kd.fresh' (Kd.R_lt (rA HO302.out)) k_ hk⟩)); (case aO => exact (by (with_reducible repeat (first | apply Kd.R_alloc | apply Kd.R_drewN | apply Kd.R_drew)); exact Kd.R_mono HO299.out (fun _ hk => by first | exact ⟨hk.1.1, ⟨hk.1.2, hk.2⟩⟩ | (simp only [ne_eq] at hk ⊢; simp [hk])))); (case aS => exact (below_size (sB85 (B := w0.heap.size) (w0 := w0)))); (case aL => have := LMc52.out; omega); intro v307 w68 ho hb hg hat; rw [← Ny306.out] at ho; have _ := aM (IsS85.grown sI85 hg (IsS85.own_ne HI0.out HO299.out (by decide))); have _ := aM (Kd.R_after (ok := (fun k_ => ((P1_3_ k_ ∨ P1_4_ k_) ∨ w.heap.size ≤ k_) ∧ some k_ ≠ (.slice Ao66 y300.length co66 : Value).ownBlock)) (by (with_reducible repeat (first | apply Kd.R_alloc | apply Kd.R_drewN | apply Kd.R_drew)); exact Kd.R_mono HO1_3.out (fun _ hk => by first | exact ⟨⟨hk.1.1, hk.2⟩, hk.1.2⟩ | (simp only [ne_eq] at hk ⊢; simp [hk]))) hg hat); have _ := aM (Kd.R_over' (rA HO1_4.out) (Kd.R_typed (rA HO299.out)) (by decide) hg); have _ := aM (blk_grown (g := gb274) (o := .cells #[.int .i64 a1_0, .int .i64 a1_1, .int .i64 a1_2, .slice Ao53 l1_3.length co53, .slice Ao54 l1_4.length co54, .int .i64 a1_5] 29 (0, 0)) (kA BK274.out) hg (Kd.R_ne HO299.out BK274.out (by decide))); have _ := aM (blk_grown (g := gb275) (o := .cells #[.int .i64 0, .int .i64 0, .int .i64 0, .slice none 0 0, .slice none 0 0, .int .i64 0] 29 (0, 0)) (kA BK275.out) hg (Kd.R_ne HO299.out BK275.out (by decide))); have _ := aM (Kd.R_after (ok := (fun k_ => ((P1_3_ k_ ∨ P1_4_ k_) ∨ w.heap.size ≤ k_) ∧ some k_ ≠ (.slice Ao53 l1_3.length co53 : Value).ownBlock)) (by (with_reducible repeat (first | apply Kd.R_alloc | apply Kd.R_drewN | apply Kd.R_drew)); exact Kd.R_mono HO302.out (fun _ hk => by first | exact ⟨⟨hk.1.1.1, hk.1.2⟩, hk.2⟩ | (simp only [ne_eq] at hk ⊢; simp [hk]))) hg hat); have _ := aM (hb); have _ := aM (Kept.of_grown (S := (fun k_ => (P1_3_ k_ ∨ P1_4_ k_) ∨ k_ = g)) hg (sK (w := w)) (fun k_ e_ => Or.imp_left Or.inl ((HO299.out.1 k_ e_).1.1))); have _ := aM (ho); clear HI0 HO1_3 HO1_4 BK274 BK275 HO302 HB HK HO299; rename_i HI0 HO1_3 HO1_4 BK274 BK275 HO302 HB HK HO308; clear ho hb hg hat; obtain ⟨Ao69, co69, eo69⟩ := Kd.R_slice HO308.out; subst eo69; obtain ⟨hcz70_0, hfz70_0, hcz70_1, hfz70_1, hcz70_2, hfz70_2, hcz70_3, hfz70_3, hcz70_4, hfz70_4, hcz70_5, hfz70_5⟩ := bk6 BK274.out; have hnb71 := NB275_0.out; have hnc71 := NB0_275.out; obtain ⟨hcz72_0, hfz72_0, hcz72_1, hfz72_1, hcz72_2, hfz72_2, hcz72_3, hfz72_3, hcz72_4, hfz72_4, hcz72_5, hfz72_5⟩ := bk6 BK275.out))
    refine bodyPost_ret (results_cell_row rfl _ _ gb275 29 #[.int .i64 a1_0, .int .i64 a1_1, .int .i64 a1_2, .slice Ao69 y306.length co69, .slice Ao54 l1_4.length co54, .int .i64 a1_5] (0, 0) _ rfl (kX BK275.out) Try.underlying29 rfl (by kernel_rfl)) rfl ?_
    exact ⟨_, _, by first | rfl | (simp [errW_none, errW_some] <;> rfl) | (simp [*, errW_none, errW_some] <;> rfl), by (with_reducible repeat (first | apply Kd.R_alloc | apply Kd.R_drewN | apply Kd.R_drew)); exact Kd.R_mono (Kd.R_far (p := ⟨gb275, 5, none⟩) (Kd.R_far (p := ⟨gb275, 4, none⟩) (Kd.R_far (p := ⟨gb275, 3, none⟩) (Kd.R_far (p := ⟨gb275, 2, none⟩) (Kd.R_far (p := ⟨gb275, 1, none⟩) (Kd.R_far (p := ⟨gb275, 0, none⟩) (Kd.R_far (p := ⟨gb274, 3, none⟩) (Kd.R_types (Kd.R_types HO308.out BK274.out (by decide)) BK275.out (by decide)) (fun _ hk => hk.1.2) (.slice Ao69 y306.length co69)) (fun _ hk => hk.2) (.int .i64 a1_0)) (fun _ hk => hk.2) (.int .i64 a1_1)) (fun _ hk => hk.2) (.int .i64 a1_2)) (fun _ hk => hk.2) (.slice Ao69 y306.length co69)) (fun _ hk => hk.2) (.slice Ao54 l1_4.length co54)) (fun _ hk => hk.2) (.int .i64 a1_5)) (fun _ hk => hk.1.1.1), by (with_reducible repeat (first | apply Kd.R_alloc | apply Kd.R_drewN | apply Kd.R_drew)); exact Kd.R_mono (Kd.R_far (p := ⟨gb275, 5, none⟩) (Kd.R_far (p := ⟨gb275, 4, none⟩) (Kd.R_far (p := ⟨gb275, 3, none⟩) (Kd.R_far (p := ⟨gb275, 2, none⟩) (Kd.R_far (p := ⟨gb275, 1, none⟩) (Kd.R_far (p := ⟨gb275, 0, none⟩) (Kd.R_far (p := ⟨gb274, 3, none⟩) (Kd.R_types (Kd.R_types HO1_4.out BK274.out (by decide)) BK275.out (by decide)) (fun _ hk => hk.1.2) (.slice Ao69 y306.length co69)) (fun _ hk => hk.2) (.int .i64 a1_0)) (fun _ hk => hk.2) (.int .i64 a1_1)) (fun _ hk => hk.2) (.int .i64 a1_2)) (fun _ hk => hk.2) (.slice Ao69 y306.length co69)) (fun _ hk => hk.2) (.slice Ao54 l1_4.length co54)) (fun _ hk => hk.2) (.int .i64 a1_5)) (fun _ hk => hk.1.1), sI85, (sB85 (B := w0.heap.size) (w0 := w0)), (sK (w := w))⟩
/-! ### spec_l3DrawAny: function 55 -/
mutual
def spec_l3DrawAny.j0 : Nat → List Int → Int → Int → Int → Int → Int → List Int → List Bool → Int → Option (Int × Int × Int × List Int × List Bool × Int × Int × Int)
 | 0, _, _, _, _, _, _, _, _, _ => none
 | k + 1, x1000, x1001, x1002, x338000, x338001, x338002, x338003, x338004, x338005 => (spec_l1Once.f x1000 x1001 x1002 40).bind fun bt353 => (if bt353.1 = true then ((spec_l1Below.f x1000 bt353.2.1 bt353.2.2 3).bind fun bt356 => (if 0 ≤ (wrap64 (122 + bt356.1)) then (if (wrap64 (122 + bt356.1) : Int).toNat ≤ 35184372088832 then (spec_l3DrawAny.j1 k x1000 bt356.2.1 bt356.2.2 16 0 0 (List.replicate (wrap64 (122 + bt356.1) : Int).toNat 0) ([] : List Bool) 0) else (none)) else (none))) else (spec_l3DrawAny.j1 k x1000 bt353.2.1 bt353.2.2 x338000 x338001 x338002 x338003 x338004 x338005))
def spec_l3DrawAny.j1 : Nat → List Int → Int → Int → Int → Int → Int → List Int → List Bool → Int → Option (Int × Int × Int × List Int × List Bool × Int × Int × Int)
 | 0, _, _, _, _, _, _, _, _, _ => none
 | k + 1, x1000, x1001, x1002, x338000, x338001, x338002, x338003, x338004, x338005 => (spec_l1Once.f x1000 x1001 x1002 40).bind fun bt362 => (if bt362.1 = true then ((spec_l1Below.f x1000 bt362.2.1 bt362.2.2 3).bind fun bt365 => (if 0 ≤ (wrap64 (1967 + bt365.1)) then (if (wrap64 (1967 + bt365.1) : Int).toNat ≤ 281474976710656 then (some (15, 0, 0, ([] : List Int), (List.replicate (wrap64 (1967 + bt365.1) : Int).toNat false), 0, bt365.2.1, bt365.2.2)) else (none)) else (none))) else (some (x338000, x338001, x338002, x338003, x338004, x338005, bt362.2.1, bt362.2.2)))
end
def spec_l3DrawAny.f (k : Nat) (s0_0 : List Int) (s0_1 : Int) (s0_2 : Int) : Option (Int × Int × Int × List Int × List Bool × Int × Int × Int) := (spec_l3Draw.f k s0_0 s0_1 s0_2 0).bind fun bt325 => ((spec_l1Once.f s0_0 bt325.2.2.2.2.2.2.1 bt325.2.2.2.2.2.2.2 4).bind fun bt338 => (if bt338.1 = true then ((spec_l3Bend.f s0_0 bt338.2.1 bt338.2.2 bt325.1 bt325.2.1 bt325.2.2.1 bt325.2.2.2.1 bt325.2.2.2.2.1 bt325.2.2.2.2.2.1).bind fun bt341 => (spec_l3DrawAny.j0 k s0_0 bt341.2.2.2.2.2.2.1 bt341.2.2.2.2.2.2.2 bt341.1 bt341.2.1 bt341.2.2.1 bt341.2.2.2.1 bt341.2.2.2.2.1 bt341.2.2.2.2.2.1)) else (spec_l3DrawAny.j0 k s0_0 bt338.2.1 bt338.2.2 bt325.1 bt325.2.1 bt325.2.2.1 bt325.2.2.2.1 bt325.2.2.2.2.1 bt325.2.2.2.2.2.1)))
theorem spec_l3DrawAny.mono_l : ∀ k, (∀ y0 y1 y2 y3 y4 y5 y6 y7 y8, LeO (spec_l3DrawAny.j0 k y0 y1 y2 y3 y4 y5 y6 y7 y8) (spec_l3DrawAny.j0 (k + 1) y0 y1 y2 y3 y4 y5 y6 y7 y8)) ∧ (∀ y0 y1 y2 y3 y4 y5 y6 y7 y8, LeO (spec_l3DrawAny.j1 k y0 y1 y2 y3 y4 y5 y6 y7 y8) (spec_l3DrawAny.j1 (k + 1) y0 y1 y2 y3 y4 y5 y6 y7 y8))
 | 0 => ⟨fun _ _ _ _ _ _ _ _ _ r h => by simp [spec_l3DrawAny.j0] at h, fun _ _ _ _ _ _ _ _ _ r h => by simp [spec_l3DrawAny.j1] at h⟩
 | k + 1 => by
  obtain ⟨ih0, ih1⟩ := spec_l3DrawAny.mono_l k
  refine ⟨?_, ?_⟩
  ·intro y0 y1 y2 y3 y4 y5 y6 y7 y8
   unfold spec_l3DrawAny.j0
   repeat' first
   | (with_reducible exact ih0 _ _ _ _ _ _ _ _ _)
   | (with_reducible exact ih1 _ _ _ _ _ _ _ _ _)
   | (with_reducible exact spec_l3Draw.mono _ _ _ _ _)
   | (with_reducible exact LeO.refl _)
   | (with_reducible exact LeO.none _)
   | (with_reducible refine LeO.ite ?_ ?_)
   | (with_reducible refine LeO.bind ?_ (fun _ => ?_))
   | exact ih0 _ _ _ _ _ _ _ _ _
   | exact ih1 _ _ _ _ _ _ _ _ _
   | exact spec_l3Draw.mono _ _ _ _ _
   | exact LeO.none _
   | refine LeO.ite ?_ ?_
   | refine LeO.bind ?_ (fun _ => ?_)
  ·intro y0 y1 y2 y3 y4 y5 y6 y7 y8
   unfold spec_l3DrawAny.j1
   repeat' first
   | (with_reducible exact ih0 _ _ _ _ _ _ _ _ _)
   | (with_reducible exact ih1 _ _ _ _ _ _ _ _ _)
   | (with_reducible exact spec_l3Draw.mono _ _ _ _ _)
   | (with_reducible exact LeO.refl _)
   | (with_reducible exact LeO.none _)
   | (with_reducible refine LeO.ite ?_ ?_)
   | (with_reducible refine LeO.bind ?_ (fun _ => ?_))
   | exact ih0 _ _ _ _ _ _ _ _ _
   | exact ih1 _ _ _ _ _ _ _ _ _
   | exact spec_l3Draw.mono _ _ _ _ _
   | exact LeO.none _
   | refine LeO.ite ?_ ?_
   | refine LeO.bind ?_ (fun _ => ?_)
theorem spec_l3DrawAny.mono : ∀ a0 a1 a2 k, LeO (spec_l3DrawAny.f k a0 a1 a2) (spec_l3DrawAny.f (k + 1) a0 a1 a2) := by
 intro a0 a1 a2 k
 obtain ⟨ih0, ih1⟩ := spec_l3DrawAny.mono_l k
 unfold spec_l3DrawAny.f
 repeat' first
   | (with_reducible exact ih0 _ _ _ _ _ _ _ _ _)
   | (with_reducible exact ih1 _ _ _ _ _ _ _ _ _)
   | (with_reducible exact spec_l3Draw.mono _ _ _ _ _)
   | (with_reducible exact LeO.refl _)
   | (with_reducible exact LeO.none _)
   | (with_reducible refine LeO.ite ?_ ?_)
   | (with_reducible refine LeO.bind ?_ (fun _ => ?_))
   | exact ih0 _ _ _ _ _ _ _ _ _
   | exact ih1 _ _ _ _ _ _ _ _ _
   | exact spec_l3Draw.mono _ _ _ _ _
   | exact LeO.none _
   | refine LeO.ite ?_ ?_
   | refine LeO.bind ?_ (fun _ => ?_)
set_option maxHeartbeats 8000000 in
set_option maxRecDepth 100000 in
theorem spec_l3DrawAny.calls (k : Nat) (g : Nat) (s0_0 : List Int) (s0_1 : Int) (s0_2 : Int) (r1 : Int) (r2 : Int) (r3 : Int) (r4 : List Int) (r5 : List Bool) (r6 : Int) (r7 : Int) (r8 : Int) (w0 w : World) (hI : IsS85 w0 w g s0_0 s0_1 s0_2) (hB : Below w0.heap.size w0 w) (h : spec_l3DrawAny.f k s0_0 s0_1 s0_2 = some (r1, r2, r3, r4, r5, r6, r7, r8)) :
  Calls Try.prog 55 #[.pointer (some ⟨g, 0, none⟩)] w fun e w' => ∃ v3_ v4_ : Value, e = .returned (.agg #[.int .i64 r1, .int .i64 r2, .int .i64 r3, v3_, v4_, .int .i64 r6]) ∧ Kd.R (Kd.int .i64) 3 w' w.heap.size (fun _ => True) v3_ r4 ∧ Kd.R Kd.bool 4 w' w.heap.size (fun _ => True) v4_ r5 ∧ IsS85 w0 w' g s0_0 r7 r8 ∧ Below w0.heap.size w0 w' ∧ KeepBut w w' g none := by
 have hu29 := Try.underlying29
 have HI0 := aM hI
 have HK := aM (KeepBut.refl w g none)
 have HL := aM hB.size
 clear hI
 have HW0 := aM hB.size
 have HB := aM hB
 clear hB
 have H : ((spec_l3Draw.f k s0_0 s0_1 s0_2 0).bind fun bt325 => ((spec_l1Once.f s0_0 bt325.2.2.2.2.2.2.1 bt325.2.2.2.2.2.2.2 4).bind fun bt338 => (if bt338.1 = true then ((spec_l3Bend.f s0_0 bt338.2.1 bt338.2.2 bt325.1 bt325.2.1 bt325.2.2.1 bt325.2.2.2.1 bt325.2.2.2.2.1 bt325.2.2.2.2.2.1).bind fun bt341 => (spec_l3DrawAny.j0 k s0_0 bt341.2.2.2.2.2.2.1 bt341.2.2.2.2.2.2.2 bt341.1 bt341.2.1 bt341.2.2.1 bt341.2.2.2.1 bt341.2.2.2.2.1 bt341.2.2.2.2.2.1)) else (spec_l3DrawAny.j0 k s0_0 bt338.2.1 bt338.2.2 bt325.1 bt325.2.1 bt325.2.2.1 bt325.2.2.2.1 bt325.2.2.2.2.1 bt325.2.2.2.2.2.1)))) = some (r1, r2, r3, r4, r5, r6, r7, r8) := h
 clear h
 replace H := Option.bind_eq_some_iff.mp H
 obtain ⟨⟨t325, t326, t327, t328, t331, t334, t335, t336⟩, A20, H⟩ := H
 (try dsimp only at H)
 have A2 := aM A20
 clear A20
 replace H := Option.bind_eq_some_iff.mp H
 obtain ⟨⟨t338, t339, t340⟩, A30, H⟩ := H
 (try dsimp only at H)
 have A3 := aM A30
 clear A30
 have HC4 := aM H
 clear H
 go_enter Try.func55, Try.ntmps55
 go_upto_if 7 with (first | ((with_reducible refine gate_dst (N := 2) rfl ?_); refine box_event ?hg (N := 2) ?hd (cs := #[.int .i64 0, .int .i64 0, .int .i64 0, .slice none 0 0, .slice none 0 0, .int .i64 0]) (t := 29) ?hr ?_; (case hd => rfl); (case hg => rfl); (case hr => first | (go_simp; done) | (go_simp; rfl)); intro gb324 hg w5 hbox hb; have _ := aM (IsS85.below sI85 hb); have _ := aM (KeepBut.trans (sG (w := w)) (KeepBut.of_below hb g none) (.inl rfl)); have _ := aM (below_step (sB85 (B := w0.heap.size) (w0 := w0)) hb); have _ := aM (hbox); have _ := aM ((by rw [hg]; exact (keep_size (w := w) (g := g) (row := none) (sG (w := w))) : w.heap.size ≤ gb324)); have _ := aM ((Nat.le_trans HW0.out (by rw [hg]; exact (keep_size (w := w) (g := g) (row := none) (sG (w := w))) : w.heap.size ≤ gb324) : w0.heap.size ≤ gb324)); have _ := aM ((by rw [hg]; exact Nat.ne_of_lt (IsS85.lt (show IsS85 w0 _ g s0_0 s0_1 s0_2 from sI85)) : g ≠ gb324)); have _ := aM ((by rw [hg]; exact Nat.ne_of_gt (IsS85.lt (show IsS85 w0 _ g s0_0 s0_1 s0_2 from sI85)) : gb324 ≠ g)); clear HI0 HK HB; rename_i HI0 HK HB BK324 GW324 GE324 NB0_324 NB324_0; clear hb hbox hg) | ((with_reducible refine gate_callee (f := 73) rfl ?_); refine gL (some 5) rfl rfl Try.func73 (by kernel_rfl) rfl #[.pointer (some ⟨g, 0, none⟩), .int .i64 0] rfl ?_; (with_reducible refine (spec_l3Draw.calls k g s0_0 s0_1 s0_2 0 t325 t326 t327 t328 t331 t334 t335 t336 w0 _ ?side1 ?side2 A2.out).mono ?_); (case side1 => exact sI85); (case side2 => exact (sB85 (B := w0.heap.size) (w0 := w0))); rintro e w6 ⟨v329, v332, rfl, ho0, ho1, hi, hb, hk⟩; refine ⟨_, rfl, ?_⟩; have _ := aM (KeepBut.blk hk (g' := gb324) (o := .cells #[.int .i64 0, .int .i64 0, .int .i64 0, .slice none 0 0, .slice none 0 0, .int .i64 0] 29 (0, 0)) (kA BK324.out) NB324_0.out (by simp)); have _ := aM (Kd.R_lower ho0 (keep_size (w := w) (g := g) (row := none) (sG (w := w)))); have _ := aM (Kd.R_lower ho1 (keep_size (w := w) (g := g) (row := none) (sG (w := w)))); have _ := aM (KeepBut.trans (sG (w := w)) hk (.inl rfl)); have _ := aM (hb); have _ := aM (hi); clear BK324 HK HB HI0; rename_i BK324 HO330 HO333 HK HB HI0; (try clear hb); (try clear hk); (try clear hi); (try clear ho0); (try clear ho1)) | ((with_reducible refine gate_dst (N := 3) rfl ?_); refine box_event ?hg (N := 3) ?hd (cs := #[.int .i64 0, .int .i64 0, .int .i64 0, .slice none 0 0, .slice none 0 0, .int .i64 0]) (t := 29) ?hr ?_; (case hd => rfl); (case hg => rfl); (case hr => first | (go_simp; done) | (go_simp; rfl)); intro gb337 hg w7 hbox hb; have _ := aM (rB HO330.out hb); have _ := aM (rB HO333.out hb); have _ := aM (IsS85.below sI85 hb); have _ := aM (kB BK324.out hb); have _ := aM (KeepBut.trans (sG (w := w)) (KeepBut.of_below hb g none) (.inl rfl)); have _ := aM (below_step (sB85 (B := w0.heap.size) (w0 := w0)) hb); have _ := aM (hbox); have _ := aM ((by rw [hg]; exact (keep_size (w := w) (g := g) (row := none) (sG (w := w))) : w.heap.size ≤ gb337)); have _ := aM ((Nat.le_trans HW0.out (by rw [hg]; exact (keep_size (w := w) (g := g) (row := none) (sG (w := w))) : w.heap.size ≤ gb337) : w0.heap.size ≤ gb337)); have _ := aM (neL hg (kA BK324.out)); have _ := aM (neG hg (kA BK324.out)); have _ := aM ((by rw [hg]; exact Nat.ne_of_lt (IsS85.lt (show IsS85 w0 _ g s0_0 t335 t336 from sI85)) : g ≠ gb337)); have _ := aM ((by rw [hg]; exact Nat.ne_of_gt (IsS85.lt (show IsS85 w0 _ g s0_0 t335 t336 from sI85)) : gb337 ≠ g)); clear HO330 HO333 HI0 BK324 HK HB; rename_i HO330 HO333 HI0 BK324 HK HB BK337 GW337 GE337 NB324_337 NB337_324 NB0_337 NB337_0; clear hb hbox hg; have hnb8 := NB337_324.out; have hnc8 := NB324_337.out; have hnb9 := NB337_0.out; have hnc9 := NB0_337.out; obtain ⟨hcz10_0, hfz10_0, hcz10_1, hfz10_1, hcz10_2, hfz10_2, hcz10_3, hfz10_3, hcz10_4, hfz10_4, hcz10_5, hfz10_5⟩ := bk6 BK337.out; obtain ⟨Ao11, co11, eo11⟩ := Kd.R_slice HO330.out; subst eo11; obtain ⟨Ao12, co12, eo12⟩ := Kd.R_slice HO333.out; subst eo12) | ((with_reducible refine gate_callee (f := 74) rfl ?_); refine gL (some 7) rfl rfl Try.func74 (by kernel_rfl) rfl #[.pointer (some ⟨g, 0, none⟩), .int .i64 4] rfl ?_; (with_reducible refine (spec_l1Once.calls g s0_0 t335 t336 4 t338 t339 t340 w0 _ ?side1 ?side2 A3.out).mono ?_); (case side1 => exact sI85); (case side2 => exact (sB85 (B := w0.heap.size) (w0 := w0))); rintro e w13 ⟨rfl, hi, hb, hk⟩; refine ⟨_, rfl, ?_⟩; have _ := aM (KeepBut.blk hk (g' := gb324) (o := .cells #[.int .i64 0, .int .i64 0, .int .i64 0, .slice none 0 0, .slice none 0 0, .int .i64 0] 29 (0, 0)) (kF6 BK324.out NB324_337.out) NB324_0.out (by simp)); have _ := aM (Kd.R_mono (Kd.R_keep (IsS85.apart (show IsS85 w0 _ g s0_0 t335 t336 from sI85) (rF6 HO330.out BK337.out) (by decide)) hk (fun _ h => h.2)) (fun _ h => h.1)); have _ := aM (Kd.R_mono (Kd.R_keep (IsS85.apart (show IsS85 w0 _ g s0_0 t335 t336 from sI85) (rF6 HO333.out BK337.out) (by decide)) hk (fun _ h => h.2)) (fun _ h => h.1)); have _ := aM (KeepBut.blk hk (g' := gb337) (o := .cells #[.int .i64 t325, .int .i64 t326, .int .i64 t327, .slice Ao11 t328.length co11, .slice Ao12 t331.length co12, .int .i64 t334] 29 (0, 0)) (kP6 BK337.out) NB337_0.out (by simp)); have _ := aM (KeepBut.trans (sG (w := w)) hk (.inl rfl)); have _ := aM (hb); have _ := aM (hi); clear BK324 HO330 HO333 BK337 HK HB HI0; rename_i BK324 HO330 HO333 BK337 HK HB HI0; (try clear hb); (try clear hk); (try clear hi)))
 (try simp only [Act.put, List.setIfInBounds_toArray, List.set_cons_zero, List.set_cons_succ])
 go_cut [] (fun wc => ∃ (kq : Nat) (x1001_3 : Int) (x1002_3 : Int) (x338000_3 : Int) (x338001_3 : Int) (x338002_3 : Int) (x338003_3 : List Int) (x338004_3 : List Bool) (x338005_3 : Int) (u338003 : Value) (u338004 : Value), Aside0 (spec_l3DrawAny.j0 kq s0_0 x1001_3 x1002_3 x338000_3 x338001_3 x338002_3 x338003_3 x338004_3 x338005_3 = some (r1, r2, r3, r4, r5, r6, r7, r8)) ∧ Aside0 (kq ≤ k) ∧ Aside0 (Kd.R (Kd.int .i64) 3 wc w.heap.size (fun _ => True) u338003 x338003_3) ∧ Aside0 (Kd.R Kd.bool 4 wc w.heap.size (fun _ => True) u338004 x338004_3) ∧ Aside0 (wc.heap[gb324]? = some (.cells #[.int .i64 0, .int .i64 0, .int .i64 0, (.slice none 0 0), (.slice none 0 0), .int .i64 0] 29 (0, 0))) ∧ Aside0 (wc.heap[gb337]? = some (.cells #[.int .i64 x338000_3, .int .i64 x338001_3, .int .i64 x338002_3, u338003, u338004, .int .i64 x338005_3] 29 (0, 0))) ∧ Aside0 (IsS85 w0 wc g s0_0 x1001_3 x1002_3) ∧ Aside0 (KeepBut w wc g none) ∧ Aside0 (Below w0.heap.size w0 wc))
 case first =>
  have H := HC4.out
  clear HC4
  by_cases c14 : t338 = true
  rotate_left
  ·replace c14 := Bool.eq_false_iff.mpr c14
   subst c14
   rw [if_neg (show ¬ (false = true) by decide)] at H
   (try dsimp only at H)
   have H' := aM H
   clear H
   go_wp2
   go_meet
   case rel => exact ⟨_, (t339), (t340), (t325), (t326), (t327), (t328), (t331), (t334), (.slice Ao11 t328.length co11), (.slice Ao12 t331.length co12), H', ⟨by first | omega | exact Nat.le_refl _⟩, ⟨by (with_reducible repeat (first | apply Kd.R_alloc | apply Kd.R_drewN | apply Kd.R_drew)); exact HO330.out⟩, ⟨by (with_reducible repeat (first | apply Kd.R_alloc | apply Kd.R_drewN | apply Kd.R_drew)); exact HO333.out⟩, ⟨kX BK324.out⟩, ⟨kX BK337.out⟩, ⟨sI85⟩, ⟨(sG (w := w))⟩, ⟨(sB85 (B := w0.heap.size) (w0 := w0))⟩⟩
  subst c14
  rw [if_pos rfl] at H
  (try dsimp only at H)
  replace H := Option.bind_eq_some_iff.mp H
  obtain ⟨⟨t341, t342, t343, t344, t347, t350, t351, t352⟩, A150, H⟩ := H
  (try dsimp only at H)
  have A15 := aM A150
  clear A150
  have H' := aM H
  clear H
  have hnb16 := NB337_324.out
  have hnc16 := NB324_337.out
  have hnb17 := NB337_0.out
  have hnc17 := NB0_337.out
  obtain ⟨hcz18_0, hfz18_0, hcz18_1, hfz18_1, hcz18_2, hfz18_2, hcz18_3, hfz18_3, hcz18_4, hfz18_4, hcz18_5, hfz18_5⟩ := bk6 BK337.out
  go_wp2_with (first | ((with_reducible refine gate_callee (f := 75) rfl ?_); refine gL (some 10) rfl rfl Try.func75 (by kernel_rfl) rfl #[.pointer (some ⟨g, 0, none⟩), .agg #[.int .i64 t325, .int .i64 t326, .int .i64 t327, .slice Ao11 t328.length co11, .slice Ao12 t331.length co12, .int .i64 t334]] rfl ?_; (with_reducible refine (spec_l3Bend.calls g s0_0 t339 t340 t325 t326 t327 (fun k_ => some k_ = (.slice Ao11 t328.length co11 : Value).ownBlock) (.slice Ao11 t328.length co11) t328 (fun k_ => some k_ = (.slice Ao12 t331.length co12 : Value).ownBlock) (.slice Ao12 t331.length co12) t331 t334 t341 t342 t343 t344 t347 t350 t351 t352 w0 _ ?side1 ?side2 ?side3 ?side4 A15.out).mono ?_); (case side1 => exact sI85); (case side2 => exact (sB85 (B := w0.heap.size) (w0 := w0))); (case side3 => exact Kd.R_lower (Kd.R_tight rfl HO330.out) HL.out); (case side4 => exact Kd.R_lower (Kd.R_tight rfl HO333.out) HL.out); rintro e w19 ⟨v345, v348, rfl, ho0, ho1, hi, hb, hkp⟩; refine ⟨_, rfl, ?_⟩; have _ := aM (hi); have _ := aM (blk_kept (kA BK324.out) hkp (fun hs_ => Or.elim hs_ (fun hs_ => Or.elim hs_ (fun e_ => (fun e_ => (Kd.R_ne HO330.out BK324.out (by decide)) e_) e_) (fun e_ => (fun e_ => (Kd.R_ne HO333.out BK324.out (by decide)) e_) e_)) (fun e_ => NB324_0.out e_))); have _ := aM (blk_kept (kA BK337.out) hkp (fun hs_ => Or.elim hs_ (fun hs_ => Or.elim hs_ (fun e_ => (fun e_ => (Kd.R_ne HO330.out BK337.out (by decide)) e_) e_) (fun e_ => (fun e_ => (Kd.R_ne HO333.out BK337.out (by decide)) e_) e_)) (fun e_ => NB337_0.out e_))); have _ := aM (Kd.R_mono (ok' := fun k_ => True) (Kd.R_raise (d := (Kd.int .i64)) (b := w0.heap.size) (b' := w.heap.size) (fun _ _ _ _ h_ => h_) ho0 (fun k_ e_ => Or.elim (ho0.1 k_ e_) (fun hs_ => Or.elim hs_ (fun e_ => (fun e_ => Kd.R_base HO330.out k_ e_.symm) e_) (fun e_ => (fun e_ => Kd.R_base HO333.out k_ e_.symm) e_)) (fun hn_ => Nat.le_trans (keep_size (w := w) (g := g) (row := none) (sG (w := w))) hn_))) (fun k_ hk_ => trivial)); have _ := aM (Kd.R_mono (ok' := fun k_ => True) (Kd.R_raise (d := Kd.bool) (b := w0.heap.size) (b' := w.heap.size) (fun _ _ _ _ h_ => h_) ho1 (fun k_ e_ => Or.elim (ho1.1 k_ e_) (fun hs_ => Or.elim hs_ (fun e_ => (fun e_ => Kd.R_base HO330.out k_ e_.symm) e_) (fun e_ => (fun e_ => Kd.R_base HO333.out k_ e_.symm) e_)) (fun hn_ => Nat.le_trans (keep_size (w := w) (g := g) (row := none) (sG (w := w))) hn_))) (fun k_ hk_ => trivial)); have _ := aM (Kept.keepG (sG (w := w)) hkp (fun k_ hs_ => Or.elim hs_ (fun hs_ => Or.elim hs_ (fun e_ => (fun e_ => .inr (Kd.R_base HO330.out k_ e_.symm)) e_) (fun e_ => (fun e_ => .inr (Kd.R_base HO333.out k_ e_.symm)) e_)) (fun e_ => .inl e_))); have _ := aM (hb); clear HI0 BK324 BK337 HK HB HO330 HO333; rename_i HI0 BK324 BK337 HO346 HO349 HK HB; (try clear hb); (try clear hkp); (try clear ho0); (try clear ho1); obtain ⟨hcz20_0, hfz20_0, hcz20_1, hfz20_1, hcz20_2, hfz20_2, hcz20_3, hfz20_3, hcz20_4, hfz20_4, hcz20_5, hfz20_5⟩ := bk6 BK337.out; obtain ⟨Ao21, co21, eo21⟩ := Kd.R_slice HO346.out; subst eo21; obtain ⟨Ao22, co22, eo22⟩ := Kd.R_slice HO349.out; subst eo22))
  go_meet
  case rel => exact ⟨_, (t351), (t352), (t341), (t342), (t343), (t344), (t347), (t350), (.slice Ao21 t344.length co21), (.slice Ao22 t347.length co22), H', ⟨by first | omega | exact Nat.le_refl _⟩, ⟨by (with_reducible repeat (first | apply Kd.R_alloc | apply Kd.R_drewN | apply Kd.R_drew)); exact Kd.R_mono (Kd.R_far (p := ⟨gb337, 5, none⟩) (Kd.R_far (p := ⟨gb337, 4, none⟩) (Kd.R_far (p := ⟨gb337, 3, none⟩) (Kd.R_far (p := ⟨gb337, 2, none⟩) (Kd.R_far (p := ⟨gb337, 1, none⟩) (Kd.R_far (p := ⟨gb337, 0, none⟩) (Kd.R_types HO346.out BK337.out (by decide)) (fun _ hk => hk.2) (.int .i64 t341)) (fun _ hk => hk.2) (.int .i64 t342)) (fun _ hk => hk.2) (.int .i64 t343)) (fun _ hk => hk.2) (.slice Ao21 t344.length co21)) (fun _ hk => hk.2) (.slice Ao22 t347.length co22)) (fun _ hk => hk.2) (.int .i64 t350)) (fun _ hk => trivial)⟩, ⟨by (with_reducible repeat (first | apply Kd.R_alloc | apply Kd.R_drewN | apply Kd.R_drew)); exact Kd.R_mono (Kd.R_far (p := ⟨gb337, 5, none⟩) (Kd.R_far (p := ⟨gb337, 4, none⟩) (Kd.R_far (p := ⟨gb337, 3, none⟩) (Kd.R_far (p := ⟨gb337, 2, none⟩) (Kd.R_far (p := ⟨gb337, 1, none⟩) (Kd.R_far (p := ⟨gb337, 0, none⟩) (Kd.R_types HO349.out BK337.out (by decide)) (fun _ hk => hk.2) (.int .i64 t341)) (fun _ hk => hk.2) (.int .i64 t342)) (fun _ hk => hk.2) (.int .i64 t343)) (fun _ hk => hk.2) (.slice Ao21 t344.length co21)) (fun _ hk => hk.2) (.slice Ao22 t347.length co22)) (fun _ hk => hk.2) (.int .i64 t350)) (fun _ hk => trivial)⟩, ⟨kX BK324.out⟩, ⟨kX BK337.out⟩, ⟨sI85⟩, ⟨(sG (w := w))⟩, ⟨(sB85 (B := w0.heap.size) (w0 := w0))⟩⟩
 case rest =>
  clear HC4
  try clear hcz10_0
  try clear hcz10_1
  try clear hcz10_2
  try clear hcz10_3
  try clear hcz10_4
  try clear hcz10_5
  try clear hfz10_0
  try clear hfz10_1
  try clear hfz10_2
  try clear hfz10_3
  try clear hfz10_4
  try clear hfz10_5
  obtain ⟨kq, x1001_3, x1002_3, x338000_3, x338001_3, x338002_3, x338003_3, x338004_3, x338005_3, u338003, u338004, HA, HJ3, HO_338003, HO_338004, BK324, BK337, HI0, HK, HB⟩ := hcut
  cases kq with
  | zero => exact absurd HA.out (by simp [spec_l3DrawAny.j0])
  | succ kj3 =>
   have H := HA.out
   clear HA
   simp only [spec_l3DrawAny.j0] at H
   replace H := Option.bind_eq_some_iff.mp H
   obtain ⟨⟨t353, t354, t355⟩, A230, H⟩ := H
   (try dsimp only at H)
   have A23 := aM A230
   clear A230
   have HC24 := aM H
   clear H
   go_upto_if 12 with (first | ((with_reducible refine gate_callee (f := 74) rfl ?_); refine gL (some 12) rfl rfl Try.func74 (by kernel_rfl) rfl #[.pointer (some ⟨g, 0, none⟩), .int .i64 40] rfl ?_; (with_reducible refine (spec_l1Once.calls g s0_0 x1001_3 x1002_3 40 t353 t354 t355 w0 _ ?side1 ?side2 A23.out).mono ?_); (case side1 => exact sI85); (case side2 => exact (sB85 (B := w0.heap.size) (w0 := w0))); rintro e w25 ⟨rfl, hi, hb, hk⟩; refine ⟨_, rfl, ?_⟩; have _ := aM (rK85 HO_338003.out hk); have _ := aM (rK85 HO_338004.out hk); have _ := aM (KeepBut.blk hk (g' := gb324) (o := .cells #[.int .i64 0, .int .i64 0, .int .i64 0, .slice none 0 0, .slice none 0 0, .int .i64 0] 29 (0, 0)) (kA BK324.out) NB324_0.out (by simp)); have _ := aM (KeepBut.blk hk (g' := gb337) (o := .cells #[.int .i64 x338000_3, .int .i64 x338001_3, .int .i64 x338002_3, u338003, u338004, .int .i64 x338005_3] 29 (0, 0)) (kA BK337.out) NB337_0.out (by simp)); have _ := aM (KeepBut.trans (sG (w := w)) hk (.inl rfl)); have _ := aM (hb); have _ := aM (hi); clear HO_338003 HO_338004 BK324 BK337 HK HB HI0; rename_i HO_338003 HO_338004 BK324 BK337 HK HB HI0; (try clear hb); (try clear hk); (try clear hi)))
   (try simp only [Act.put, List.setIfInBounds_toArray, List.set_cons_zero, List.set_cons_succ])
   go_cut [] (fun wc => ∃ (kq : Nat) (x1001_23 : Int) (x1002_23 : Int) (x338000_23 : Int) (x338001_23 : Int) (x338002_23 : Int) (x338003_23 : List Int) (x338004_23 : List Bool) (x338005_23 : Int) (u338003 : Value) (u338004 : Value), Aside0 (spec_l3DrawAny.j1 kq s0_0 x1001_23 x1002_23 x338000_23 x338001_23 x338002_23 x338003_23 x338004_23 x338005_23 = some (r1, r2, r3, r4, r5, r6, r7, r8)) ∧ Aside0 (kq ≤ kj3) ∧ Aside0 (Kd.R (Kd.int .i64) 3 wc w.heap.size (fun _ => True) u338003 x338003_23) ∧ Aside0 (Kd.R Kd.bool 4 wc w.heap.size (fun _ => True) u338004 x338004_23) ∧ Aside0 (wc.heap[gb324]? = some (.cells #[.int .i64 0, .int .i64 0, .int .i64 0, (.slice none 0 0), (.slice none 0 0), .int .i64 0] 29 (0, 0))) ∧ Aside0 (wc.heap[gb337]? = some (.cells #[.int .i64 x338000_23, .int .i64 x338001_23, .int .i64 x338002_23, u338003, u338004, .int .i64 x338005_23] 29 (0, 0))) ∧ Aside0 (IsS85 w0 wc g s0_0 x1001_23 x1002_23) ∧ Aside0 (KeepBut w wc g none) ∧ Aside0 (Below w0.heap.size w0 wc))
   case first =>
    have H := HC24.out
    clear HC24
    by_cases c26 : t353 = true
    rotate_left
    ·replace c26 := Bool.eq_false_iff.mpr c26
     subst c26
     rw [if_neg (show ¬ (false = true) by decide)] at H
     (try dsimp only at H)
     have H' := aM H
     clear H
     go_wp2
     go_meet
     case rel => exact ⟨_, (t354), (t355), (x338000_3), (x338001_3), (x338002_3), (x338003_3), (x338004_3), (x338005_3), (u338003), (u338004), H', ⟨by have := HJ3.out; first | omega | exact Nat.le_refl _⟩, ⟨by (with_reducible repeat (first | apply Kd.R_alloc | apply Kd.R_drewN | apply Kd.R_drew)); exact HO_338003.out⟩, ⟨by (with_reducible repeat (first | apply Kd.R_alloc | apply Kd.R_drewN | apply Kd.R_drew)); exact HO_338004.out⟩, ⟨kX BK324.out⟩, ⟨kX BK337.out⟩, ⟨sI85⟩, ⟨(sG (w := w))⟩, ⟨(sB85 (B := w0.heap.size) (w0 := w0))⟩⟩
    subst c26
    rw [if_pos rfl] at H
    (try dsimp only at H)
    replace H := Option.bind_eq_some_iff.mp H
    obtain ⟨⟨t356, t357, t358⟩, A270, H⟩ := H
    (try dsimp only at H)
    have A27 := aM A270
    clear A270
    obtain ⟨ji28, hji28⟩ : ∃ j_ : Int, (wrap64 (122 + t356)) = j_ := ⟨_, rfl⟩
    replace H : (if 0 ≤ (ji28) then (if (ji28 : Int).toNat ≤ 35184372088832 then (spec_l3DrawAny.j1 kj3 s0_0 t357 t358 16 0 0 (List.replicate (ji28 : Int).toNat 0) ([] : List Bool) 0) else (none)) else (none)) = some (r1, r2, r3, r4, r5, r6, r7, r8) := by first | (rw [hji28] at H; exact H) | (simp only [hji28] at H ⊢; exact H)
    (try rw [hji28] at A27)
    have hji28w : (IntKind.i64.wrap (122 + t356)) = ji28 := (i64_w _).trans hji28
    by_cases c29 : 0 ≤ (ji28)
    rotate_left
    ·rw [if_neg c29] at H
     exact absurd H (by simp)
    rw [if_pos c29] at H
    have c29b0 := eq_true c29
    have c29b1 : decide (0 ≤ (ji28)) = true := decide_eq_true c29
    clear c29
    by_cases c30 : (ji28 : Int).toNat ≤ 35184372088832
    rotate_left
    ·rw [if_neg c30] at H
     exact absurd H (by simp)
    rw [if_pos c30] at H
    have c30b0 := eq_true c30
    have c30b1 : decide ((ji28 : Int).toNat ≤ 35184372088832) = true := decide_eq_true c30
    clear c30
    obtain ⟨y359, hy359⟩ : ∃ y_ : List Int, y_ = (List.replicate (ji28 : Int).toNat 0) := ⟨_, rfl⟩
    replace H : (spec_l3DrawAny.j1 kj3 s0_0 t357 t358 16 0 0 y359 ([] : List Bool) 0) = some (r1, r2, r3, r4, r5, r6, r7, r8) := by first | (rw [hy359]; with_reducible exact H) | (have H2_ := (Option.bind_some _ _).symm.trans H; rw [hy359]; with_reducible exact H2_) | (have H2_ := (Option.bind_some _ _).symm.trans H; with_reducible exact H2_) | with_reducible exact H | (rw [hy359]; exact H) | exact H
    have Ny359 := aM hy359
    clear hy359
    have H' := aM H
    clear H
    go_wp2_with (first | ((with_reducible refine gate_callee (f := 76) rfl ?_); refine gL (some 14) rfl rfl Try.func76 (by kernel_rfl) rfl #[.pointer (some ⟨g, 0, none⟩), .int .i64 3] rfl ?_; (with_reducible refine (spec_l1Below.calls g s0_0 t354 t355 3 t356 t357 t358 w0 _ ?side1 ?side2 A27.out).mono ?_); (case side1 => exact sI85); (case side2 => exact (sB85 (B := w0.heap.size) (w0 := w0))); rintro e w31 ⟨rfl, hi, hb, hk⟩; refine ⟨_, rfl, ?_⟩; have _ := aM (rK85 HO_338003.out hk); have _ := aM (rK85 HO_338004.out hk); have _ := aM (KeepBut.blk hk (g' := gb324) (o := .cells #[.int .i64 0, .int .i64 0, .int .i64 0, .slice none 0 0, .slice none 0 0, .int .i64 0] 29 (0, 0)) (kA BK324.out) NB324_0.out (by simp)); have _ := aM (KeepBut.blk hk (g' := gb337) (o := .cells #[.int .i64 x338000_3, .int .i64 x338001_3, .int .i64 x338002_3, u338003, u338004, .int .i64 x338005_3] 29 (0, 0)) (kA BK337.out) NB337_0.out (by simp)); have _ := aM (KeepBut.trans (sG (w := w)) hk (.inl rfl)); have _ := aM (hb); have _ := aM (hi); clear HO_338003 HO_338004 BK324 BK337 HK HB HI0; rename_i HO_338003 HO_338004 BK324 BK337 HK HB HI0; (try clear hb); (try clear hk); (try clear hi)) | ((with_reducible refine gate_dst (N := 16) rfl ?_); refine Kd.R_make (Kd.int .i64) _ 3 rfl (N := 16) rfl 22 _ _ rfl ji28 rfl rfl Try.underlying22 (.int .i64 0) 8 info3 rfl (by decide) (by omega) 0 (ok := fun _ => True) (okp := fun _ => True) rfl (fun _ hk => hk) trivial (of_decide_eq_true (by first | (with_reducible assumption) | assumption)) (Nat.le_trans (Nat.mul_le_mul_right _ (of_decide_eq_true (by first | (with_reducible assumption) | assumption) : ji28.toNat ≤ 35184372088832)) (by omega)) (Below.refl _ _) (Nat.le_refl _) ?_; intro v360 w32 ho33 hb hg_ hnew_; clear hg_ hnew_; (first | rw [← Ny359.out] at ho33 | (simp only [Int.reduceToNat] at ho33; rw [← Ny359.out] at ho33)); have _ := aM (Kd.R_elder' (rA HO_338003.out) (Kd.R_base ho33) hb); have _ := aM (rB HO_338004.out hb); have _ := aM (Kd.R_lower (Kd.R_new' ho33 (Kd.R_lt (rA HO_338003.out))) (keep_size (w := w) (g := g) (row := none) (sG (w := w)))); have _ := aM (kB BK324.out hb); have _ := aM (kB BK337.out hb); have _ := aM (IsS85.below sI85 hb); have _ := aM (KeepBut.trans (sG (w := w)) (KeepBut.of_below hb g none) (.inl rfl)); have _ := aM (below_step (sB85 (B := w0.heap.size) (w0 := w0)) hb); clear HO_338003 HO_338004 BK324 BK337 HI0 HK HB; rename_i HO_338003 HO_338004 HO361 BK324 BK337 HI0 HK HB; clear hb ho33; obtain ⟨Ao34, co34, eo34⟩ := Kd.R_slice HO361.out; subst eo34; have hnb35 := NB337_324.out; have hnc35 := NB324_337.out; have hnb36 := NB337_0.out; have hnc36 := NB0_337.out; obtain ⟨hcz37_0, hfz37_0, hcz37_1, hfz37_1, hcz37_2, hfz37_2, hcz37_3, hfz37_3, hcz37_4, hfz37_4, hcz37_5, hfz37_5⟩ := bk6 BK337.out))
    go_meet
    case rel => exact ⟨_, (t357), (t358), (16), (0), (0), (y359), (([] : List Bool)), (0), (.slice Ao34 y359.length co34), (.slice none 0 0), H', ⟨by have := HJ3.out; first | omega | exact Nat.le_refl _⟩, ⟨by (with_reducible repeat (first | apply Kd.R_alloc | apply Kd.R_drewN | apply Kd.R_drew)); exact Kd.R_mono (Kd.R_far (p := ⟨gb337, 5, none⟩) (Kd.R_far (p := ⟨gb337, 4, none⟩) (Kd.R_far (p := ⟨gb337, 3, none⟩) (Kd.R_far (p := ⟨gb337, 2, none⟩) (Kd.R_far (p := ⟨gb337, 1, none⟩) (Kd.R_far (p := ⟨gb337, 0, none⟩) (Kd.R_types HO361.out BK337.out (by decide)) (fun _ hk => hk.2) (.int .i64 16)) (fun _ hk => hk.2) (.int .i64 0)) (fun _ hk => hk.2) (.int .i64 0)) (fun _ hk => hk.2) (.slice Ao34 y359.length co34)) (fun _ hk => hk.2) (.slice none 0 0)) (fun _ hk => hk.2) (.int .i64 0)) (fun _ hk => trivial)⟩, ⟨by first | exact Kd.R_nil _ _ _ _ _ | exact Kd.N_nil _ _ _ _ _ | exact Kd.V_nil _ _ _ _ _ | exact Kd.Q_nil _ _ _ _ _ | exact Kd.S_nil _ _ _ _ _⟩, ⟨kX BK324.out⟩, ⟨kX BK337.out⟩, ⟨sI85⟩, ⟨(sG (w := w))⟩, ⟨(sB85 (B := w0.heap.size) (w0 := w0))⟩⟩
   case rest =>
    clear HC24
    try clear c1
    try clear p2
    try clear c5
    try clear c7
    try clear c8
    try clear c9
    try clear c14
    try clear c16
    try clear c17
    try clear hcz10_0
    try clear hcz10_1
    try clear hcz10_2
    try clear hcz10_3
    try clear hcz10_4
    try clear hcz10_5
    try clear hcz18_0
    try clear hcz18_1
    try clear hcz18_2
    try clear hcz18_3
    try clear hcz18_4
    try clear hcz18_5
    try clear hcz20_0
    try clear hcz20_1
    try clear hcz20_2
    try clear hcz20_3
    try clear hcz20_4
    try clear hcz20_5
    try clear hfz10_0
    try clear hfz10_1
    try clear hfz10_2
    try clear hfz10_3
    try clear hfz10_4
    try clear hfz10_5
    try clear hfz18_0
    try clear hfz18_1
    try clear hfz18_2
    try clear hfz18_3
    try clear hfz18_4
    try clear hfz18_5
    try clear hfz20_0
    try clear hfz20_1
    try clear hfz20_2
    try clear hfz20_3
    try clear hfz20_4
    try clear hfz20_5
    try clear p2
    obtain ⟨kq, x1001_23, x1002_23, x338000_23, x338001_23, x338002_23, x338003_23, x338004_23, x338005_23, u338003, u338004, HA, HJ23, HO_338003, HO_338004, BK324, BK337, HI0, HK, HB⟩ := hcut
    cases kq with
    | zero => exact absurd HA.out (by simp [spec_l3DrawAny.j1])
    | succ kj23 =>
     have H := HA.out
     clear HA
     simp only [spec_l3DrawAny.j1] at H
     replace H := Option.bind_eq_some_iff.mp H
     obtain ⟨⟨t362, t363, t364⟩, A380, H⟩ := H
     (try dsimp only at H)
     have A38 := aM A380
     clear A380
     by_cases c39 : t362 = true
     rotate_left
     ·replace c39 := Bool.eq_false_iff.mpr c39
      subst c39
      rw [if_neg (show ¬ (false = true) by decide)] at H
      (try dsimp only at H)
      simp only [Option.some.injEq, Prod.mk.injEq] at H
      obtain ⟨rfl, rfl, rfl, rfl, rfl, rfl, rfl, rfl⟩ := H
      go_wp2_with (first | ((with_reducible refine gate_callee (f := 74) rfl ?_); refine gL (some 19) rfl rfl Try.func74 (by kernel_rfl) rfl #[.pointer (some ⟨g, 0, none⟩), .int .i64 40] rfl ?_; (with_reducible refine (spec_l1Once.calls g s0_0 x1001_23 x1002_23 40 false t363 t364 w0 _ ?side1 ?side2 A38.out).mono ?_); (case side1 => exact sI85); (case side2 => exact (sB85 (B := w0.heap.size) (w0 := w0))); rintro e w54 ⟨rfl, hi, hb, hk⟩; refine ⟨_, rfl, ?_⟩; have _ := aM (rK85 HO_338003.out hk); have _ := aM (rK85 HO_338004.out hk); have _ := aM (KeepBut.blk hk (g' := gb324) (o := .cells #[.int .i64 0, .int .i64 0, .int .i64 0, .slice none 0 0, .slice none 0 0, .int .i64 0] 29 (0, 0)) (kA BK324.out) NB324_0.out (by simp)); have _ := aM (KeepBut.blk hk (g' := gb337) (o := .cells #[.int .i64 x338000_23, .int .i64 x338001_23, .int .i64 x338002_23, u338003, u338004, .int .i64 x338005_23] 29 (0, 0)) (kA BK337.out) NB337_0.out (by simp)); have _ := aM (KeepBut.trans (sG (w := w)) hk (.inl rfl)); have _ := aM (hb); have _ := aM (hi); clear HO_338003 HO_338004 BK324 BK337 HK HB HI0; rename_i HO_338003 HO_338004 BK324 BK337 HK HB HI0; (try clear hb); (try clear hk); (try clear hi); have hnb55 := NB337_324.out; have hnc55 := NB324_337.out; have hnb56 := NB337_0.out; have hnc56 := NB0_337.out; obtain ⟨hcz57_0, hfz57_0, hcz57_1, hfz57_1, hcz57_2, hfz57_2, hcz57_3, hfz57_3, hcz57_4, hfz57_4, hcz57_5, hfz57_5⟩ := bk6 BK337.out; have hnb58 := NB324_0.out; have hnc58 := NB0_324.out; obtain ⟨hcz59_0, hfz59_0, hcz59_1, hfz59_1, hcz59_2, hfz59_2, hcz59_3, hfz59_3, hcz59_4, hfz59_4, hcz59_5, hfz59_5⟩ := bk6 BK324.out; obtain ⟨Ao60, co60, eo60⟩ := Kd.R_slice HO_338003.out; subst eo60; obtain ⟨Ao61, co61, eo61⟩ := Kd.R_slice HO_338004.out; subst eo61))
      refine bodyPost_ret (results_cell_row rfl _ _ gb324 29 #[.int .i64 x338000_23, .int .i64 x338001_23, .int .i64 x338002_23, .slice Ao60 x338003_23.length co60, .slice Ao61 x338004_23.length co61, .int .i64 x338005_23] (0, 0) _ rfl (kP6 BK324.out) Try.underlying29 rfl (by kernel_rfl)) rfl ?_
      exact ⟨_, _, by first | rfl | (simp [errW_none, errW_some] <;> rfl) | (simp [*, errW_none, errW_some] <;> rfl), by (with_reducible repeat (first | apply Kd.R_alloc | apply Kd.R_drewN | apply Kd.R_drew)); exact Kd.R_mono (Kd.R_far (p := ⟨gb324, 5, none⟩) (Kd.R_far (p := ⟨gb324, 4, none⟩) (Kd.R_far (p := ⟨gb324, 3, none⟩) (Kd.R_far (p := ⟨gb324, 2, none⟩) (Kd.R_far (p := ⟨gb324, 1, none⟩) (Kd.R_far (p := ⟨gb324, 0, none⟩) (Kd.R_types HO_338003.out BK324.out (by decide)) (fun _ hk => hk.2) (.int .i64 x338000_23)) (fun _ hk => hk.2) (.int .i64 x338001_23)) (fun _ hk => hk.2) (.int .i64 x338002_23)) (fun _ hk => hk.2) (.slice Ao60 x338003_23.length co60)) (fun _ hk => hk.2) (.slice Ao61 x338004_23.length co61)) (fun _ hk => hk.2) (.int .i64 x338005_23)) (fun _ hk => trivial), by (with_reducible repeat (first | apply Kd.R_alloc | apply Kd.R_drewN | apply Kd.R_drew)); exact Kd.R_mono (Kd.R_far (p := ⟨gb324, 5, none⟩) (Kd.R_far (p := ⟨gb324, 4, none⟩) (Kd.R_far (p := ⟨gb324, 3, none⟩) (Kd.R_far (p := ⟨gb324, 2, none⟩) (Kd.R_far (p := ⟨gb324, 1, none⟩) (Kd.R_far (p := ⟨gb324, 0, none⟩) (Kd.R_types HO_338004.out BK324.out (by decide)) (fun _ hk => hk.2) (.int .i64 x338000_23)) (fun _ hk => hk.2) (.int .i64 x338001_23)) (fun _ hk => hk.2) (.int .i64 x338002_23)) (fun _ hk => hk.2) (.slice Ao60 x338003_23.length co60)) (fun _ hk => hk.2) (.slice Ao61 x338004_23.length co61)) (fun _ hk => hk.2) (.int .i64 x338005_23)) (fun _ hk => trivial), sI85, (sB85 (B := w0.heap.size) (w0 := w0)), (sG (w := w))⟩

     subst c39
     rw [if_pos rfl] at H
     (try dsimp only at H)
     replace H := Option.bind_eq_some_iff.mp H
     obtain ⟨⟨t365, t366, t367⟩, A400, H⟩ := H
     (try dsimp only at H)
     have A40 := aM A400
     clear A400
     obtain ⟨ji41, hji41⟩ : ∃ j_ : Int, (wrap64 (1967 + t365)) = j_ := ⟨_, rfl⟩
     replace H : (if 0 ≤ (ji41) then (if (ji41 : Int).toNat ≤ 281474976710656 then (some (15, 0, 0, ([] : List Int), (List.replicate (ji41 : Int).toNat false), 0, t366, t367)) else (none)) else (none)) = some (r1, r2, r3, r4, r5, r6, r7, r8) := by first | (rw [hji41] at H; exact H) | (simp only [hji41] at H ⊢; exact H)
     (try rw [hji41] at A38)
     (try rw [hji41] at A40)
     have hji41w : (IntKind.i64.wrap (1967 + t365)) = ji41 := (i64_w _).trans hji41
     by_cases c42 : 0 ≤ (ji41)
     rotate_left
     ·rw [if_neg c42] at H
      exact absurd H (by simp)
     rw [if_pos c42] at H
     have c42b0 := eq_true c42
     have c42b1 : decide (0 ≤ (ji41)) = true := decide_eq_true c42
     clear c42
     by_cases c43 : (ji41 : Int).toNat ≤ 281474976710656
     rotate_left
     ·rw [if_neg c43] at H
      exact absurd H (by simp)
     rw [if_pos c43] at H
     have c43b0 := eq_true c43
     have c43b1 : decide ((ji41 : Int).toNat ≤ 281474976710656) = true := decide_eq_true c43
     clear c43
     obtain ⟨y368, hy368⟩ : ∃ y_ : List Bool, y_ = (List.replicate (ji41 : Int).toNat false) := ⟨_, rfl⟩
     replace H : (some (15, 0, 0, ([] : List Int), y368, 0, t366, t367)) = some (r1, r2, r3, r4, r5, r6, r7, r8) := by first | (rw [hy368]; with_reducible exact H) | (have H2_ := (Option.bind_some _ _).symm.trans H; rw [hy368]; with_reducible exact H2_) | (have H2_ := (Option.bind_some _ _).symm.trans H; with_reducible exact H2_) | with_reducible exact H | (rw [hy368]; exact H) | exact H
     have Ny368 := aM hy368
     clear hy368
     simp only [Option.some.injEq, Prod.mk.injEq] at H
     obtain ⟨rfl, rfl, rfl, rfl, rfl, rfl, rfl, rfl⟩ := H
     go_wp2_with (first | ((with_reducible refine gate_callee (f := 74) rfl ?_); refine gL (some 19) rfl rfl Try.func74 (by kernel_rfl) rfl #[.pointer (some ⟨g, 0, none⟩), .int .i64 40] rfl ?_; (with_reducible refine (spec_l1Once.calls g s0_0 x1001_23 x1002_23 40 true t363 t364 w0 _ ?side1 ?side2 A38.out).mono ?_); (case side1 => exact sI85); (case side2 => exact (sB85 (B := w0.heap.size) (w0 := w0))); rintro e w44 ⟨rfl, hi, hb, hk⟩; refine ⟨_, rfl, ?_⟩; have _ := aM (rK85 HO_338003.out hk); have _ := aM (rK85 HO_338004.out hk); have _ := aM (KeepBut.blk hk (g' := gb324) (o := .cells #[.int .i64 0, .int .i64 0, .int .i64 0, .slice none 0 0, .slice none 0 0, .int .i64 0] 29 (0, 0)) (kA BK324.out) NB324_0.out (by simp)); have _ := aM (KeepBut.blk hk (g' := gb337) (o := .cells #[.int .i64 x338000_23, .int .i64 x338001_23, .int .i64 x338002_23, u338003, u338004, .int .i64 x338005_23] 29 (0, 0)) (kA BK337.out) NB337_0.out (by simp)); have _ := aM (KeepBut.trans (sG (w := w)) hk (.inl rfl)); have _ := aM (hb); have _ := aM (hi); clear HO_338003 HO_338004 BK324 BK337 HK HB HI0; rename_i HO_338003 HO_338004 BK324 BK337 HK HB HI0; (try clear hb); (try clear hk); (try clear hi)) | ((with_reducible refine gate_callee (f := 76) rfl ?_); refine gL (some 21) rfl rfl Try.func76 (by kernel_rfl) rfl #[.pointer (some ⟨g, 0, none⟩), .int .i64 3] rfl ?_; (with_reducible refine (spec_l1Below.calls g s0_0 t363 t364 3 t365 t366 t367 w0 _ ?side1 ?side2 A40.out).mono ?_); (case side1 => exact sI85); (case side2 => exact (sB85 (B := w0.heap.size) (w0 := w0))); rintro e w45 ⟨rfl, hi, hb, hk⟩; refine ⟨_, rfl, ?_⟩; have _ := aM (rK85 HO_338003.out hk); have _ := aM (rK85 HO_338004.out hk); have _ := aM (KeepBut.blk hk (g' := gb324) (o := .cells #[.int .i64 0, .int .i64 0, .int .i64 0, .slice none 0 0, .slice none 0 0, .int .i64 0] 29 (0, 0)) (kA BK324.out) NB324_0.out (by simp)); have _ := aM (KeepBut.blk hk (g' := gb337) (o := .cells #[.int .i64 x338000_23, .int .i64 x338001_23, .int .i64 x338002_23, u338003, u338004, .int .i64 x338005_23] 29 (0, 0)) (kA BK337.out) NB337_0.out (by simp)); have _ := aM (KeepBut.trans (sG (w := w)) hk (.inl rfl)); have _ := aM (hb); have _ := aM (hi); clear HO_338003 HO_338004 BK324 BK337 HK HB HI0; rename_i HO_338003 HO_338004 BK324 BK337 HK HB HI0; (try clear hb); (try clear hk); (try clear hi)) | ((with_reducible refine gate_dst (N := 23) rfl ?_); refine Kd.R_make Kd.bool _ 4 rfl (N := 23) rfl 23 _ _ rfl ji41 rfl rfl Try.underlying23 (.bool false) 1 info4 rfl (by decide) (by omega) false (ok := fun _ => True) (okp := fun _ => True) rfl (fun _ hk => hk) trivial (of_decide_eq_true (by first | (with_reducible assumption) | assumption)) (Nat.le_trans (Nat.mul_le_mul_right _ (of_decide_eq_true (by first | (with_reducible assumption) | assumption) : ji41.toNat ≤ 281474976710656)) (by omega)) (Below.refl _ _) (Nat.le_refl _) ?_; intro v369 w46 ho47 hb hg_ hnew_; clear hg_ hnew_; (first | rw [← Ny368.out] at ho47 | (simp only [Int.reduceToNat] at ho47; rw [← Ny368.out] at ho47)); have _ := aM (rB HO_338003.out hb); have _ := aM (Kd.R_elder' (rA HO_338004.out) (Kd.R_base ho47) hb); have _ := aM (Kd.R_lower (Kd.R_new' ho47 (Kd.R_lt (rA HO_338004.out))) (keep_size (w := w) (g := g) (row := none) (sG (w := w)))); have _ := aM (kB BK324.out hb); have _ := aM (kB BK337.out hb); have _ := aM (IsS85.below sI85 hb); have _ := aM (KeepBut.trans (sG (w := w)) (KeepBut.of_below hb g none) (.inl rfl)); have _ := aM (below_step (sB85 (B := w0.heap.size) (w0 := w0)) hb); clear HO_338003 HO_338004 BK324 BK337 HI0 HK HB; rename_i HO_338003 HO_338004 HO370 BK324 BK337 HI0 HK HB; clear hb ho47; obtain ⟨Ao48, co48, eo48⟩ := Kd.R_slice HO370.out; subst eo48; have hnb49 := NB337_324.out; have hnc49 := NB324_337.out; have hnb50 := NB337_0.out; have hnc50 := NB0_337.out; obtain ⟨hcz51_0, hfz51_0, hcz51_1, hfz51_1, hcz51_2, hfz51_2, hcz51_3, hfz51_3, hcz51_4, hfz51_4, hcz51_5, hfz51_5⟩ := bk6 BK337.out; have hnb52 := NB324_0.out; have hnc52 := NB0_324.out; obtain ⟨hcz53_0, hfz53_0, hcz53_1, hfz53_1, hcz53_2, hfz53_2, hcz53_3, hfz53_3, hcz53_4, hfz53_4, hcz53_5, hfz53_5⟩ := bk6 BK324.out))
     refine bodyPost_ret (results_cell_row rfl _ _ gb324 29 #[.int .i64 15, .int .i64 0, .int .i64 0, .slice none 0 0, .slice Ao48 y368.length co48, .int .i64 0] (0, 0) _ rfl (kX BK324.out) Try.underlying29 rfl (by kernel_rfl)) rfl ?_
     exact ⟨_, _, by first | rfl | (simp [errW_none, errW_some] <;> rfl) | (simp only [← hji41]; first | rfl | (simp [errW_none, errW_some] <;> rfl)) | (simp [*, errW_none, errW_some] <;> rfl), by first | exact Kd.R_nil _ _ _ _ _ | exact Kd.N_nil _ _ _ _ _ | exact Kd.V_nil _ _ _ _ _ | exact Kd.Q_nil _ _ _ _ _ | exact Kd.S_nil _ _ _ _ _, by (with_reducible repeat (first | apply Kd.R_alloc | apply Kd.R_drewN | apply Kd.R_drew)); exact Kd.R_mono (Kd.R_far (p := ⟨gb324, 5, none⟩) (Kd.R_far (p := ⟨gb324, 4, none⟩) (Kd.R_far (p := ⟨gb324, 3, none⟩) (Kd.R_far (p := ⟨gb324, 2, none⟩) (Kd.R_far (p := ⟨gb324, 1, none⟩) (Kd.R_far (p := ⟨gb324, 0, none⟩) (Kd.R_far (p := ⟨gb337, 5, none⟩) (Kd.R_far (p := ⟨gb337, 4, none⟩) (Kd.R_far (p := ⟨gb337, 3, none⟩) (Kd.R_far (p := ⟨gb337, 2, none⟩) (Kd.R_far (p := ⟨gb337, 1, none⟩) (Kd.R_far (p := ⟨gb337, 0, none⟩) (Kd.R_types (Kd.R_types HO370.out BK337.out (by decide)) BK324.out (by decide)) (fun _ hk => hk.1.2) (.int .i64 15)) (fun _ hk => hk.1.2) (.int .i64 0)) (fun _ hk => hk.1.2) (.int .i64 0)) (fun _ hk => hk.1.2) (.slice none 0 0)) (fun _ hk => hk.1.2) (.slice Ao48 y368.length co48)) (fun _ hk => hk.1.2) (.int .i64 0)) (fun _ hk => hk.2) (.int .i64 15)) (fun _ hk => hk.2) (.int .i64 0)) (fun _ hk => hk.2) (.int .i64 0)) (fun _ hk => hk.2) (.slice none 0 0)) (fun _ hk => hk.2) (.slice Ao48 y368.length co48)) (fun _ hk => hk.2) (.int .i64 0)) (fun _ hk => trivial), sI85, (sB85 (B := w0.heap.size) (w0 := w0)), (sG (w := w))⟩
/-! ### spec_DrawPutReq: function 23 -/
def spec_DrawPutReq.f (k : Nat) (l0 : List Int) : Option (Int × Int × Int × List Int × List Bool × Int) := (spec_l1New.f k l0).bind fun bt372 => ((spec_l3DrawAny.f k bt372.1 bt372.2.1 bt372.2.2).bind fun bt376 => (some (bt376.1, bt376.2.1, bt376.2.2.1, bt376.2.2.2.1, bt376.2.2.2.2.1, bt376.2.2.2.2.2.1)))
theorem spec_DrawPutReq.mono : ∀ a0 k, LeO (spec_DrawPutReq.f k a0) (spec_DrawPutReq.f (k + 1) a0) := by
 intro a0 k
 unfold spec_DrawPutReq.f
 repeat' first
   | (with_reducible exact spec_l1New.mono _ _)
   | (with_reducible exact spec_l3DrawAny.mono _ _ _ _)
   | (with_reducible exact LeO.refl _)
   | (with_reducible exact LeO.none _)
   | (with_reducible refine LeO.ite ?_ ?_)
   | (with_reducible refine LeO.bind ?_ (fun _ => ?_))
   | exact spec_l1New.mono _ _
   | exact spec_l3DrawAny.mono _ _ _ _
   | exact LeO.none _
   | refine LeO.ite ?_ ?_
   | refine LeO.bind ?_ (fun _ => ?_)
set_option maxHeartbeats 8000000 in
set_option maxRecDepth 100000 in
theorem spec_DrawPutReq.calls (k : Nat) (A0 : Option Addr) (c0 : Nat) (l0 : List Int) (r1 : Int) (r2 : Int) (r3 : Int) (r4 : List Int) (r5 : List Bool) (r6 : Int) (w : World) (hr0 : Kd.C (Kd.int .u8) w A0 l0.length l0) (hc0 : l0.length ≤ c0) (h : spec_DrawPutReq.f k l0 = some (r1, r2, r3, r4, r5, r6)) :
  Calls Try.prog 23 #[.slice A0 l0.length c0] w fun e w' => ∃ v3_ v4_ : Value, e = .returned (.agg #[.int .i64 r1, .int .i64 r2, .int .i64 r3, v3_, v4_, .int .i64 r6]) ∧ Kd.R (Kd.int .i64) 3 w' w.heap.size (fun _ => True) v3_ r4 ∧ Kd.R Kd.bool 4 w' w.heap.size (fun _ => True) v4_ r5 ∧ Below w.heap.size w w' := by
 have hu29 := Try.underlying29
 have HR0 := aM hr0
 have HC0 := aM hc0
 clear hr0 hc0
 have HB := aM (Below.refl w.heap.size w)
 have H : ((spec_l1New.f k l0).bind fun bt372 => ((spec_l3DrawAny.f k bt372.1 bt372.2.1 bt372.2.2).bind fun bt376 => (some (bt376.1, bt376.2.1, bt376.2.2.1, bt376.2.2.2.1, bt376.2.2.2.2.1, bt376.2.2.2.2.2.1)))) = some (r1, r2, r3, r4, r5, r6) := h
 clear h
 replace H := Option.bind_eq_some_iff.mp H
 obtain ⟨⟨t372, t373, t374⟩, A20, H⟩ := H
 (try dsimp only at H)
 have A2 := aM A20
 clear A20
 replace H := Option.bind_eq_some_iff.mp H
 obtain ⟨⟨t376, t377, t378, t379, t382, t385, t386, t387⟩, A30, H⟩ := H
 (try dsimp only at H)
 have A3 := aM A30
 clear A30
 simp only [Option.some.injEq, Prod.mk.injEq] at H
 obtain ⟨rfl, rfl, rfl, rfl, rfl, rfl⟩ := H
 go_enter Try.func23, Try.ntmps23
 go_wp2_with (first | ((with_reducible refine gate_dst (N := 2) rfl ?_); refine box_event ?hg (N := 2) ?hd (cs := #[.int .i64 0, .int .i64 0, .int .i64 0, .slice none 0 0, .slice none 0 0, .int .i64 0]) (t := 29) ?hr ?_; (case hd => rfl); (case hg => rfl); (case hr => first | (go_simp; done) | (go_simp; rfl)); intro gb371 hg w4 hbox hb; have _ := aM (below_step (bS HB.out) hb); have _ := aM (hbox); have _ := aM (leG hg (bS HB.out)); have _ := aM (leG hg (bS HB.out)); clear HB; rename_i HB BK371 GW371 GE371; clear hb hbox hg) | ((with_reducible refine gate_callee (f := 54) rfl ?_); refine gL (some 5) rfl rfl Try.func54 (by kernel_rfl) rfl #[.slice A0 l0.length c0] rfl ?_; (with_reducible refine (spec_l1New.calls k _ _ l0 t372 t373 t374 w _ ?side1 ?side2 ?side3 A2.out).mono ?_); (case side1 => exact (sB (B := w.heap.size) (w0 := w))); (case side2 => exact HR0.out); (case side3 => exact HC0.out); rintro e w5 ⟨g375, rfl, hi, hb, hb2⟩; refine ⟨_, rfl, ?_⟩; have _ := aM (blk_below (kA BK371.out) hb2); have _ := aM (hb); have _ := aM (hi); have _ := aM (IsS85.ne_blk hi (blk_below (kA BK371.out) hb2) (by decide)); have _ := aM (Ne.symm (IsS85.ne_blk hi (blk_below (kA BK371.out) hb2) (by decide))); clear BK371 HB; rename_i BK371 HB HI375 NB375_371 NB371_375; (try clear hb); (try clear hi)) | ((with_reducible refine gate_callee (f := 55) rfl ?_); refine gL (some 7) rfl rfl Try.func55 (by kernel_rfl) rfl #[.pointer (some ⟨g375, 0, none⟩)] rfl ?_; (with_reducible refine (spec_l3DrawAny.calls k g375 t372 t373 t374 t376 t377 t378 t379 t382 t385 t386 t387 w _ ?side1 ?side2 A3.out).mono ?_); (case side1 => exact sI85); (case side2 => exact (sB85 (B := w.heap.size) (w0 := w))); rintro e w6 ⟨v380, v383, rfl, ho0, ho1, hi, hb, hk⟩; refine ⟨_, rfl, ?_⟩; have _ := aM (KeepBut.blk hk (g' := gb371) (o := .cells #[.int .i64 0, .int .i64 0, .int .i64 0, .slice none 0 0, .slice none 0 0, .int .i64 0] 29 (0, 0)) (kA BK371.out) NB371_375.out (by simp)); have _ := aM (Kd.R_lower ho0 (below_size (sB85 (B := w.heap.size) (w0 := w)))); have _ := aM (Kd.R_lower ho1 (below_size (sB85 (B := w.heap.size) (w0 := w)))); have _ := aM (hb); have _ := aM (hi); clear BK371 HB HI375; rename_i BK371 HO381 HO384 HB HI375; (try clear hb); (try clear hk); (try clear hi); (try clear ho0); (try clear ho1); have hnb7 := NB371_375.out; have hnc7 := NB375_371.out; obtain ⟨hcz8_0, hfz8_0, hcz8_1, hfz8_1, hcz8_2, hfz8_2, hcz8_3, hfz8_3, hcz8_4, hfz8_4, hcz8_5, hfz8_5⟩ := bk6 BK371.out; obtain ⟨Ao9, co9, eo9⟩ := Kd.R_slice HO381.out; subst eo9; obtain ⟨Ao10, co10, eo10⟩ := Kd.R_slice HO384.out; subst eo10))
 refine bodyPost_ret (results_cell_row rfl _ _ gb371 29 #[.int .i64 t376, .int .i64 t377, .int .i64 t378, .slice Ao9 t379.length co9, .slice Ao10 t382.length co10, .int .i64 t385] (0, 0) _ rfl (kP6 BK371.out) Try.underlying29 rfl (by kernel_rfl)) rfl ?_
 exact ⟨_, _, by first | rfl | (simp [errW_none, errW_some] <;> rfl) | (simp [*, errW_none, errW_some] <;> rfl), by (with_reducible repeat (first | apply Kd.R_alloc | apply Kd.R_drewN | apply Kd.R_drew)); exact Kd.R_mono (Kd.R_far (p := ⟨gb371, 5, none⟩) (Kd.R_far (p := ⟨gb371, 4, none⟩) (Kd.R_far (p := ⟨gb371, 3, none⟩) (Kd.R_far (p := ⟨gb371, 2, none⟩) (Kd.R_far (p := ⟨gb371, 1, none⟩) (Kd.R_far (p := ⟨gb371, 0, none⟩) (Kd.R_types HO381.out BK371.out (by decide)) (fun _ hk => hk.2) (.int .i64 t376)) (fun _ hk => hk.2) (.int .i64 t377)) (fun _ hk => hk.2) (.int .i64 t378)) (fun _ hk => hk.2) (.slice Ao9 t379.length co9)) (fun _ hk => hk.2) (.slice Ao10 t382.length co10)) (fun _ hk => hk.2) (.int .i64 t385)) (fun _ hk => trivial), by (with_reducible repeat (first | apply Kd.R_alloc | apply Kd.R_drewN | apply Kd.R_drew)); exact Kd.R_mono (Kd.R_far (p := ⟨gb371, 5, none⟩) (Kd.R_far (p := ⟨gb371, 4, none⟩) (Kd.R_far (p := ⟨gb371, 3, none⟩) (Kd.R_far (p := ⟨gb371, 2, none⟩) (Kd.R_far (p := ⟨gb371, 1, none⟩) (Kd.R_far (p := ⟨gb371, 0, none⟩) (Kd.R_types HO384.out BK371.out (by decide)) (fun _ hk => hk.2) (.int .i64 t376)) (fun _ hk => hk.2) (.int .i64 t377)) (fun _ hk => hk.2) (.int .i64 t378)) (fun _ hk => hk.2) (.slice Ao9 t379.length co9)) (fun _ hk => hk.2) (.slice Ao10 t382.length co10)) (fun _ hk => hk.2) (.int .i64 t385)) (fun _ hk => trivial), (sB85 (B := w.heap.size) (w0 := w))⟩

/-! ### spec_l1In: function 57 -/
def spec_l1In.f (a0 : Int) (a1 : Int) (a2 : Int) : Option (Bool) := if a0 ≥ a1 then (some (decide (a0 ≤ a2))) else (some false)
set_option maxHeartbeats 8000000 in
set_option maxRecDepth 100000 in
theorem spec_l1In.calls (a0 : Int) (a1 : Int) (a2 : Int) (r : Bool) (w : World) (h : spec_l1In.f a0 a1 a2 = some r) :
  Calls Try.prog 57 #[.int .i64 a0, .int .i64 a1, .int .i64 a2] w fun e w' => e = .returned (.bool r) ∧ Drawn0 w w' := by
 have H : (if a0 ≥ a1 then (some (decide (a0 ≤ a2))) else (some false)) = some r := h
 clear h
 by_cases c4 : a0 ≥ a1
 rotate_left
 ·rw [if_neg c4] at H
  have c4b0 : decide (a1 ≤ a0) = false := decide_eq_false c4
  clear c4
  obtain rfl := Option.some.inj H
  go_enter Try.func57, Try.ntmps57
  go_wp2
  go_ret
  exact ⟨by first | rfl | (simp; done) | (simp [*]; done), by repeat (first | exact Drawn0.refl _ | apply Drawn0.step)⟩

 rw [if_pos c4] at H
 have c4b0 : decide (a1 ≤ a0) = true := decide_eq_true c4
 clear c4
 obtain rfl := Option.some.inj H
 go_enter Try.func57, Try.ntmps57
 go_wp2
 go_ret
 exact ⟨by first | rfl | (simp; done) | (simp [*]; done), by repeat (first | exact Drawn0.refl _ | apply Drawn0.step)⟩
/-! ### spec_l3Words: function 56 -/
def spec_l3Words.l0 : Nat → List Int → Int → Option (Bool)
 | 0, _, _ => none
 | k + 1, x0, x3 => if x3 < (x0.length : Int) then (if 0 ≤ x3 then ((spec_l1In.f (rd x0 x3) 0 65535).bind fun t389 => (if t389 = true then (spec_l3Words.l0 k x0 (wrap64 (x3 + 1))) else (some false))) else (none)) else (some true)
def spec_l3Words.f (k : Nat) (l0 : List Int) : Option (Bool) := spec_l3Words.l0 k l0 0
theorem spec_l3Words.mono_l : ∀ k, (∀ y0 y1, LeO (spec_l3Words.l0 k y0 y1) (spec_l3Words.l0 (k + 1) y0 y1))
 | 0 => fun _ _ r h => by simp [spec_l3Words.l0] at h
 | k + 1 => by
  have ih0 := spec_l3Words.mono_l k
  ·intro y0 y1
   unfold spec_l3Words.l0
   repeat' first
   | (with_reducible exact ih0 _ _)
   | (with_reducible exact LeO.refl _)
   | (with_reducible exact LeO.none _)
   | (with_reducible refine LeO.ite ?_ ?_)
   | (with_reducible refine LeO.bind ?_ (fun _ => ?_))
   | exact ih0 _ _
   | exact LeO.none _
   | refine LeO.ite ?_ ?_
   | refine LeO.bind ?_ (fun _ => ?_)
theorem spec_l3Words.mono : ∀ a0 k, LeO (spec_l3Words.f k a0) (spec_l3Words.f (k + 1) a0) := by
 intro a0 k
 have ih0 := spec_l3Words.mono_l k
 unfold spec_l3Words.f
 repeat' first
   | (with_reducible exact ih0 _ _)
   | (with_reducible exact LeO.refl _)
   | (with_reducible exact LeO.none _)
   | (with_reducible refine LeO.ite ?_ ?_)
   | (with_reducible refine LeO.bind ?_ (fun _ => ?_))
   | exact ih0 _ _
   | exact LeO.none _
   | refine LeO.ite ?_ ?_
   | refine LeO.bind ?_ (fun _ => ?_)
set_option maxHeartbeats 8000000 in
set_option maxRecDepth 100000 in
theorem spec_l3Words.calls (k : Nat) (A0 : Option Addr) (c0 : Nat) (l0 : List Int) (r : Bool) (w : World) (hr0 : Kd.C (Kd.int .i64) w A0 l0.length l0) (hc0 : l0.length ≤ c0) (h : spec_l3Words.f k l0 = some r) :
  Calls Try.prog 56 #[.slice A0 l0.length c0] w fun e w' => e = .returned (.bool r) ∧ Drawn0 w w' := by
 have HR0 := aM hr0
 have HC0 := aM hc0
 clear hr0 hc0
 have H : (spec_l3Words.l0 k l0 0) = some r := h
 clear h
 have H' := aM H
 clear H
 go_enter Try.func56, Try.ntmps56
 go_wp2
 go_loopg [3] k (fun kq v3 w' => ∃ (x3_1 : Int), v3 = .int .i64 x3_1 ∧ Aside0 (spec_l3Words.l0 kq l0 x3_1 = some r) ∧ Aside0 (kq ≤ k) ∧ Drawn0 w w')
 case atStart => exact ⟨(0), (by first | rfl | (simp; done) | (simp [*]; done)), H', ⟨Nat.le_refl _⟩, by repeat (first | exact Drawn0.refl _ | apply Drawn0.step)⟩
 case round =>
  clear H'
  obtain ⟨x3_1, rfl, HA, HK1, ⟨m1, rfl⟩⟩ := hrel
  cases gk with
  | zero => exact absurd HA.out (by simp [spec_l3Words.l0])
  | succ k1 =>
   have H := HA.out
   clear HA
   simp only [spec_l3Words.l0] at H
   by_cases c2 : x3_1 < (l0.length : Int)
   rotate_left
   ·rw [if_neg c2] at H
    have c2b0 : decide (x3_1 < (l0.length : Int)) = false := decide_eq_false c2
    clear c2
    obtain rfl := Option.some.inj H
    go_wp2
    go_ret
    exact ⟨by first | rfl | (simp; done) | (simp [*]; done), by repeat (first | exact Drawn0.refl _ | apply Drawn0.step)⟩

   rw [if_pos c2] at H
   have c2b0 : decide (x3_1 < (l0.length : Int)) = true := decide_eq_true c2
   clear c2
   by_cases c3 : 0 ≤ x3_1
   rotate_left
   ·rw [if_neg c3] at H
    exact absurd H (by simp)
   rw [if_pos c3] at H
   have c3b0 : decide (0 ≤ x3_1) = true := decide_eq_true c3
   clear c3
   replace H := Option.bind_eq_some_iff.mp H
   obtain ⟨t389, A40, H⟩ := H
   (try dsimp only at H)
   have A4 := aM A40
   clear A40
   by_cases c5 : t389 = true
   rotate_left
   ·replace c5 := Bool.eq_false_iff.mpr c5
    subst c5
    rw [if_neg (show ¬ (false = true) by decide)] at H
    (try dsimp only at H)
    obtain rfl := Option.some.inj H
    have p388 : 0 ≤ (x3_1 : Int) := of_decide_eq_true (by first | (with_reducible assumption) | assumption)
    have q388 : x3_1 < (l0.length : Int) := of_decide_eq_true (by first | (with_reducible assumption) | assumption)
    obtain ⟨ad388, e388, hx388_0⟩ := Kd.at_int HR0.out x3_1 p388 q388
    cases e388
    replace p388 := eq_true p388
    replace q388 := eq_true q388
    go_wp2_with (first | ((with_reducible refine gate_callee (f := 57) rfl ?_); refine gL (some 14) rfl rfl Try.func57 (by kernel_rfl) rfl #[.int .i64 (rd l0 x3_1), .int .i64 0, .int .i64 65535] rfl ?_; (with_reducible refine (spec_l1In.calls (rd l0 x3_1) 0 65535 false _ A4.out).mono ?_); rintro e w' ⟨rfl, ⟨nd, rfl⟩⟩; refine ⟨_, rfl, ?_⟩))
    go_ret
    exact ⟨by first | rfl | (simp; done) | (simp [*]; done), by repeat (first | exact Drawn0.refl _ | apply Drawn0.step)⟩
   subst c5
   rw [if_pos rfl] at H
   (try dsimp only at H)
   have H' := aM H
   clear H
   have p388 : 0 ≤ (x3_1 : Int) := of_decide_eq_true (by first | (with_reducible assumption) | assumption)
   have q388 : x3_1 < (l0.length : Int) := of_decide_eq_true (by first | (with_reducible assumption) | assumption)
   obtain ⟨ad388, e388, hx388_0⟩ := Kd.at_int HR0.out x3_1 p388 q388
   cases e388
   replace p388 := eq_true p388
   replace q388 := eq_true q388
   go_wp2_with (first | ((with_reducible refine gate_callee (f := 57) rfl ?_); refine gL (some 14) rfl rfl Try.func57 (by kernel_rfl) rfl #[.int .i64 (rd l0 x3_1), .int .i64 0, .int .i64 65535] rfl ?_; (with_reducible refine (spec_l1In.calls (rd l0 x3_1) 0 65535 true _ A4.out).mono ?_); rintro e w' ⟨rfl, ⟨nd, rfl⟩⟩; refine ⟨_, rfl, ?_⟩))
   go_roundg k1
   case measure => have := HK1.out; omega
   case rel => exact ⟨(wrap64 (x3_1 + 1)), (by first | rfl | (simp; done) | (simp [*]; done)), H', ⟨by have := HK1.out; omega⟩, by repeat (first | exact Drawn0.refl _ | apply Drawn0.step)⟩
end Go.Proofs.Yteoghpcgompajaa.PFnAsked
