/- Functions and contracts of the law FnExactPutReq: what the Go text computes, step by step. -/
import Derived.Test.YteoghpcgompajaaL
import Derived.Test.YteoghpcgompajaaQFnExactPutReqx0
import Derived.Test.YteoghpcgompajaaQFnExactPutReqx9
import Derived.Test.YteoghpcgompajaaQFnExactPutReqx10
namespace Go.Proofs.Yteoghpcgompajaa.PFnExactPutReq
open Go.Proofs.Yteoghpcgompajaa.K Go.Proofs.Yteoghpcgompajaa.G Go.RowKit Go.Proofs.YteoghpcgompajaaW.PrintWords Go.Proofs.YteoghpcgompajaaW.PrintLast Go.Proofs.YteoghpcgompajaaW.PrintMore
attribute [local go_sem] max2_int min2_int max_two min_two max_three min_three max_four min_four   -- for this text's walks alone
set_option linter.unusedVariables false
set_option linter.unusedSimpArgs false

/-! ### impl_PutReq: function 13 -/
def impl_PutReq.j0 : Nat → List Int → Int → Bool → Int → Int → Int → List Int → List Bool → Int → Option (List Int)
 | 0, _, _, _, _, _, _, _, _, _ => none
 | k + 1, x3, x12, x13, x292000, x292001, x292002, x292003, x292004, x292005 => if x13 = true then ((impl_putWords.f x3 (([x292001, x292002] : List Int))).bind fun t299 => (some t299)) else (if x12 = 5 then (if 0 < (x292004.length : Int) then ((impl_bitWord.f (rdOf false x292004 0)).bind fun t303 => ((impl_putWords.f x3 (([x292001, t303] : List Int))).bind fun t307 => (some t307))) else (none)) else (if x12 = 15 then ((impl_putWords.f x3 (([x292001, (x292004.length : Int)] : List Int))).bind fun t313 => ((impl_PackBits.f k x292004).bind fun t316 => ((impl_putCounted.f t313 t316).bind fun t319 => (some t319)))) else (if x12 = 16 then ((impl_putWords.f x3 (([x292001, (x292003.length : Int)] : List Int))).bind fun t325 => ((impl_putWords.f ([] : List Int) x292003).bind fun t328 => ((impl_putCounted.f t325 t328).bind fun t331 => (some t331)))) else (if x12 = 23 then ((impl_putWords.f x3 (([x292001, x292002, x292005, (x292003.length : Int)] : List Int))).bind fun t337 => ((impl_putWords.f ([] : List Int) x292003).bind fun t340 => ((impl_putCounted.f t337 t340).bind fun t343 => (some t343)))) else ((impl_putWords.f x3 (([x292001] : List Int))).bind fun t349 => ((impl_putWords.f t349 x292003).bind fun t352 => (some t352)))))))
def impl_PutReq.f (k : Nat) (a0_0 : Int) (a0_1 : Int) (a0_2 : Int) (l0_3 : List Int) (l0_4 : List Bool) (a0_5 : Int) : Option (List Int) := (impl_ReqOk.f k a0_0 a0_1 a0_2 l0_3 l0_4 a0_5).bind fun t292 => (if t292 = true then ((some (([(a0_0) % 256] : List Int) : List Int)).bind fun y293 => (if a0_0 = 1 then (impl_PutReq.j0 k y293 a0_0 (a0_0 == 1) a0_0 a0_1 a0_2 l0_3 l0_4 a0_5) else (if a0_0 = 2 then (impl_PutReq.j0 k y293 a0_0 (a0_0 == 2) a0_0 a0_1 a0_2 l0_3 l0_4 a0_5) else (if a0_0 = 3 then (impl_PutReq.j0 k y293 a0_0 (a0_0 == 3) a0_0 a0_1 a0_2 l0_3 l0_4 a0_5) else (impl_PutReq.j0 k y293 a0_0 (a0_0 == 4) a0_0 a0_1 a0_2 l0_3 l0_4 a0_5))))) else (some ([] : List Int)))
theorem impl_PutReq.mono_l : ∀ k, (∀ y0 y1 y2 y3 y4 y5 y6 y7 y8, LeO (impl_PutReq.j0 k y0 y1 y2 y3 y4 y5 y6 y7 y8) (impl_PutReq.j0 (k + 1) y0 y1 y2 y3 y4 y5 y6 y7 y8))
 | 0 => fun _ _ _ _ _ _ _ _ _ r h => by simp [impl_PutReq.j0] at h
 | k + 1 => by
  have ih0 := impl_PutReq.mono_l k
  ·intro y0 y1 y2 y3 y4 y5 y6 y7 y8
   unfold impl_PutReq.j0
   repeat' first
   | (with_reducible exact ih0 _ _ _ _ _ _ _ _ _)
   | (with_reducible exact impl_PackBits.mono _ _)
   | (with_reducible exact impl_ReqOk.mono _ _ _ _ _ _ _)
   | (with_reducible exact LeO.refl _)
   | (with_reducible exact LeO.none _)
   | (with_reducible refine LeO.ite ?_ ?_)
   | (with_reducible refine LeO.bind ?_ (fun _ => ?_))
   | exact ih0 _ _ _ _ _ _ _ _ _
   | exact impl_PackBits.mono _ _
   | exact impl_ReqOk.mono _ _ _ _ _ _ _
   | exact LeO.none _
   | refine LeO.ite ?_ ?_
   | refine LeO.bind ?_ (fun _ => ?_)
theorem impl_PutReq.mono : ∀ a0 a1 a2 a3 a4 a5 k, LeO (impl_PutReq.f k a0 a1 a2 a3 a4 a5) (impl_PutReq.f (k + 1) a0 a1 a2 a3 a4 a5) := by
 intro a0 a1 a2 a3 a4 a5 k
 have ih0 := impl_PutReq.mono_l k
 unfold impl_PutReq.f
 repeat' first
   | (with_reducible exact ih0 _ _ _ _ _ _ _ _ _)
   | (with_reducible exact impl_PackBits.mono _ _)
   | (with_reducible exact impl_ReqOk.mono _ _ _ _ _ _ _)
   | (with_reducible exact LeO.refl _)
   | (with_reducible exact LeO.none _)
   | (with_reducible refine LeO.ite ?_ ?_)
   | (with_reducible refine LeO.bind ?_ (fun _ => ?_))
   | exact ih0 _ _ _ _ _ _ _ _ _
   | exact impl_PackBits.mono _ _
   | exact impl_ReqOk.mono _ _ _ _ _ _ _
   | exact LeO.none _
   | refine LeO.ite ?_ ?_
   | refine LeO.bind ?_ (fun _ => ?_)
def impl_PutReq.T11 : Bool × List (List Nat × List Nat) := (true, [([], []), ([], []), ([1], [1]), ([], []), ([3], [3]), ([4], [4]), ([5], [5]), ([6], [6]), ([2, 7], [2, 7]), ([0, 8, 7], [0, 8]), ([9, 9, 0, 1, 2, 3, 4, 5, 6, 7, 8, 9], [9])])
def impl_PutReq.B11 : List Nat := [0, 0, 2, 0, 8, 24, 56, 120, 254, 511, 1023]
theorem impl_PutReq.tab11 : rtab .any (opsOf Try.f13 11) = impl_PutReq.T11 := by kernel_rfl
theorem impl_PutReq.bits11 : waitsOk impl_PutReq.T11.2 impl_PutReq.B11 = true := by kernel_rfl
def impl_PutReq.T13 : Bool × List (List Nat × List Nat) := (true, [([], []), ([], []), ([1], [1]), ([], []), ([3], [3]), ([4], [4]), ([2, 5], [2, 5]), ([0, 6], [0, 6]), ([], []), ([8], [8]), ([9, 7], [9]), ([7, 10, 10], [7, 10]), ([11, 11, 0, 1, 2, 3, 4, 5, 6, 7, 8, 9, 10, 11], [11])])
def impl_PutReq.B13 : List Nat := [0, 0, 2, 0, 8, 24, 62, 127, 0, 256, 1023, 2047, 4095]
theorem impl_PutReq.tab13 : rtab .any (opsOf Try.f13 13) = impl_PutReq.T13 := by kernel_rfl
theorem impl_PutReq.bits13 : waitsOk impl_PutReq.T13.2 impl_PutReq.B13 = true := by kernel_rfl
def impl_PutReq.T15 : Bool × List (List Nat × List Nat) := (true, [([], []), ([], []), ([1], [1]), ([], []), ([3], [3]), ([4], [4]), ([2, 5], [2, 5]), ([0, 6], [0, 6]), ([], []), ([8], [8]), ([9, 7], [9]), ([7, 10, 10], [7, 10]), ([11, 11, 0, 1, 2, 3, 4, 5, 6, 7, 8, 9, 10, 11], [11])])
def impl_PutReq.B15 : List Nat := [0, 0, 2, 0, 8, 24, 62, 127, 0, 256, 1023, 2047, 4095]
theorem impl_PutReq.tab15 : rtab .any (opsOf Try.f13 15) = impl_PutReq.T15 := by kernel_rfl
theorem impl_PutReq.bits15 : waitsOk impl_PutReq.T15.2 impl_PutReq.B15 = true := by kernel_rfl
def impl_PutReq.T17 : Bool × List (List Nat × List Nat) := (true, [([], []), ([], []), ([1], [1]), ([], []), ([3], [3]), ([], []), ([5], [5]), ([], []), ([7], [7]), ([8], [8]), ([2, 4, 6, 9], [2, 4, 6, 9]), ([0, 10], [0, 10]), ([], []), ([12], [12]), ([13, 11], [13]), ([11, 14, 14], [11, 14]), ([15, 15, 0, 1, 2, 3, 4, 5, 6, 7, 8, 9, 10, 11, 12, 13, 14, 15], [15])])
def impl_PutReq.B17 : List Nat := [0, 0, 2, 0, 8, 0, 32, 0, 128, 384, 1022, 2047, 0, 4096, 16383, 32767, 65535]
theorem impl_PutReq.tab17 : rtab .any (opsOf Try.f13 17) = impl_PutReq.T17 := by kernel_rfl
theorem impl_PutReq.bits17 : waitsOk impl_PutReq.T17.2 impl_PutReq.B17 = true := by kernel_rfl
def impl_PutReq.T18 : Bool × List (List Nat × List Nat) := (true, [([], []), ([], []), ([1], [1]), ([2], [2]), ([0, 3], [0, 3]), ([], []), ([5], [5]), ([4, 6, 4], [4, 6]), ([7, 7, 0, 1, 2, 3, 4, 5, 6, 7], [7])])
def impl_PutReq.B18 : List Nat := [0, 0, 2, 6, 15, 0, 32, 127, 255]
theorem impl_PutReq.tab18 : rtab .any (opsOf Try.f13 18) = impl_PutReq.T18 := by kernel_rfl
theorem impl_PutReq.bits18 : waitsOk impl_PutReq.T18.2 impl_PutReq.B18 = true := by kernel_rfl
set_option maxHeartbeats 8000000 in
set_option maxRecDepth 100000 in
theorem impl_PutReq.calls (k : Nat) (a0_0 : Int) (a0_1 : Int) (a0_2 : Int) (A0_3 : Option Addr) (c0_3 : Nat) (l0_3 : List Int) (A0_4 : Option Addr) (c0_4 : Nat) (l0_4 : List Bool) (a0_5 : Int) (r : List Int) (w : World) (hr0_3 : Kd.C (Kd.int .i64) w A0_3 l0_3.length l0_3) (hc0_3 : l0_3.length ≤ c0_3) (hr0_4 : Kd.C Kd.bool w A0_4 l0_4.length l0_4) (hc0_4 : l0_4.length ≤ c0_4) (h : impl_PutReq.f k a0_0 a0_1 a0_2 l0_3 l0_4 a0_5 = some r) :
  Calls Try.prog 13 #[.agg #[.int .i64 a0_0, .int .i64 a0_1, .int .i64 a0_2, .slice A0_3 l0_3.length c0_3, .slice A0_4 l0_4.length c0_4, .int .i64 a0_5]] w fun e w' => ∃ v0_ : Value, e = .returned (v0_) ∧ Kd.R (Kd.int .u8) 5 w' w.heap.size (fun _ => True) v0_ r ∧ Below w.heap.size w w' := by
 have hu29 := Try.underlying29
 have HR0_3 := aM hr0_3
 have HC0_3 := aM hc0_3
 clear hr0_3 hc0_3
 have HR0_4 := aM hr0_4
 have HC0_4 := aM hc0_4
 clear hr0_4 hc0_4
 have HB := aM (Below.refl w.heap.size w)
 have H : ((impl_ReqOk.f k a0_0 a0_1 a0_2 l0_3 l0_4 a0_5).bind fun t292 => (if t292 = true then ((some (([(a0_0) % 256] : List Int) : List Int)).bind fun y293 => (if a0_0 = 1 then (impl_PutReq.j0 k y293 a0_0 (a0_0 == 1) a0_0 a0_1 a0_2 l0_3 l0_4 a0_5) else (if a0_0 = 2 then (impl_PutReq.j0 k y293 a0_0 (a0_0 == 2) a0_0 a0_1 a0_2 l0_3 l0_4 a0_5) else (if a0_0 = 3 then (impl_PutReq.j0 k y293 a0_0 (a0_0 == 3) a0_0 a0_1 a0_2 l0_3 l0_4 a0_5) else (impl_PutReq.j0 k y293 a0_0 (a0_0 == 4) a0_0 a0_1 a0_2 l0_3 l0_4 a0_5))))) else (some ([] : List Int)))) = some r := h
 clear h
 replace H := Option.bind_eq_some_iff.mp H
 obtain ⟨t292, A20, H⟩ := H
 replace H : (if t292 = true then ((some (([(a0_0) % 256] : List Int) : List Int)).bind fun y293 => (if a0_0 = 1 then (impl_PutReq.j0 k y293 a0_0 (a0_0 == 1) a0_0 a0_1 a0_2 l0_3 l0_4 a0_5) else (if a0_0 = 2 then (impl_PutReq.j0 k y293 a0_0 (a0_0 == 2) a0_0 a0_1 a0_2 l0_3 l0_4 a0_5) else (if a0_0 = 3 then (impl_PutReq.j0 k y293 a0_0 (a0_0 == 3) a0_0 a0_1 a0_2 l0_3 l0_4 a0_5) else (impl_PutReq.j0 k y293 a0_0 (a0_0 == 4) a0_0 a0_1 a0_2 l0_3 l0_4 a0_5))))) else (some ([] : List Int))) = some r := H
 have A2 := aM A20
 clear A20
 by_cases c3 : t292 = true
 ·subst c3
  have H1 : ((some (([(a0_0) % 256] : List Int) : List Int)).bind fun y293 => (if a0_0 = 1 then (impl_PutReq.j0 k y293 a0_0 (a0_0 == 1) a0_0 a0_1 a0_2 l0_3 l0_4 a0_5) else (if a0_0 = 2 then (impl_PutReq.j0 k y293 a0_0 (a0_0 == 2) a0_0 a0_1 a0_2 l0_3 l0_4 a0_5) else (if a0_0 = 3 then (impl_PutReq.j0 k y293 a0_0 (a0_0 == 3) a0_0 a0_1 a0_2 l0_3 l0_4 a0_5) else (impl_PutReq.j0 k y293 a0_0 (a0_0 == 4) a0_0 a0_1 a0_2 l0_3 l0_4 a0_5))))) = some r := by rw [if_pos rfl] at H; exact H
  clear H
  have H := H1
  clear H1
  obtain ⟨y293, hy293⟩ : ∃ y_ : List Int, y_ = (([(a0_0) % 256] : List Int)) := ⟨_, rfl⟩
  replace H : (if a0_0 = 1 then (impl_PutReq.j0 k y293 a0_0 (a0_0 == 1) a0_0 a0_1 a0_2 l0_3 l0_4 a0_5) else (if a0_0 = 2 then (impl_PutReq.j0 k y293 a0_0 (a0_0 == 2) a0_0 a0_1 a0_2 l0_3 l0_4 a0_5) else (if a0_0 = 3 then (impl_PutReq.j0 k y293 a0_0 (a0_0 == 3) a0_0 a0_1 a0_2 l0_3 l0_4 a0_5) else (impl_PutReq.j0 k y293 a0_0 (a0_0 == 4) a0_0 a0_1 a0_2 l0_3 l0_4 a0_5)))) = some r := by first | (rw [hy293]; with_reducible exact H) | (have H2_ := (Option.bind_some _ _).symm.trans H; rw [hy293]; with_reducible exact H2_) | (have H2_ := (Option.bind_some _ _).symm.trans H; with_reducible exact H2_) | with_reducible exact H | (rw [hy293]; exact H) | exact H
  have Ny293 := aM hy293
  clear hy293
  have HC4 := aM H
  clear H
  go_enter Try.func13, Try.ntmps13
  go_upto_if 13 with (first | ((with_reducible refine gate_dst (N := 1) rfl ?_); refine box_event ?hg (N := 1) ?hd (cs := #[.int .i64 a0_0, .int .i64 a0_1, .int .i64 a0_2, .slice A0_3 l0_3.length c0_3, .slice A0_4 l0_4.length c0_4, .int .i64 a0_5]) (t := 29) ?hr ?_; (case hd => rfl); (case hg => rfl); (case hr => first | (go_simp; done) | (go_simp; rfl)); intro gb291 hg w5 hbox hb; have _ := aM (below_step (bS HB.out) hb); have _ := aM (hbox); have _ := aM (leG hg (bS HB.out)); have _ := aM (leG hg (bS HB.out)); clear HB; rename_i HB BK291 GW291 GE291; clear hb hbox hg; obtain ⟨hcz6_0, hfz6_0, hcz6_1, hfz6_1, hcz6_2, hfz6_2, hcz6_3, hfz6_3, hcz6_4, hfz6_4, hcz6_5, hfz6_5⟩ := bk6 BK291.out) | ((with_reducible refine gate_callee (f := 25) rfl ?_); refine gL (some 5) rfl rfl Try.func25 (by kernel_rfl) rfl #[.agg #[.int .i64 a0_0, .int .i64 a0_1, .int .i64 a0_2, .slice A0_3 l0_3.length c0_3, .slice A0_4 l0_4.length c0_4, .int .i64 a0_5]] rfl ?_; (with_reducible refine (impl_ReqOk.calls k a0_0 a0_1 a0_2 _ _ l0_3 _ _ l0_4 a0_5 true _ ?side1 ?side2 ?side3 ?side4 A2.out).mono ?_); (case side1 => exact cB HR0_3.out HB.out); (case side2 => exact HC0_3.out); (case side3 => exact cB HR0_4.out HB.out); (case side4 => exact HC0_4.out); rintro e w7 ⟨rfl, hb⟩; refine ⟨_, rfl, ?_⟩; have _ := aM (kB BK291.out hb); have _ := aM (below_step (bS HB.out) hb); clear BK291 HB; rename_i BK291 HB; (try clear hb); obtain ⟨hcz8_0, hfz8_0, hcz8_1, hfz8_1, hcz8_2, hfz8_2, hcz8_3, hfz8_3, hcz8_4, hfz8_4, hcz8_5, hfz8_5⟩ := bk6 BK291.out) | ((with_reducible refine gate_dst (N := 10) rfl ?_); refine Kd.R_lit (Kd.int .u8) _ 5 ?hg (N := 10) ?hd (xs := ([(a0_0) % 256] : List Int)) (inner := [.int .u8 ((a0_0) % 256)]) (ok := fun _ => True) (okp := fun _ => True) ?hr ?hp (fun _ hk => hk) trivial (Below.refl _ _) (Nat.le_refl _) (by simp) ?_; (case hd => rfl); (case hg => rfl); (case hr => first | (go_simp; done) | (go_simp; rfl)); (case hp => exact (Reps.one (show Kd.M (Kd.int .u8) _ _ _ ((a0_0) % 256) [.int .u8 ((a0_0) % 256)] from rfl) (Reps.none _ _))); intro v294 w9 ho10 hb hg_ hnew_; clear hg_ hnew_; (first | rw [← Ny293.out] at ho10 | (simp only [Int.reduceToNat] at ho10; rw [← Ny293.out] at ho10)); have _ := aM (Kd.R_lower ho10 (below_size (bS HB.out))); have _ := aM (kB BK291.out hb); have _ := aM (below_step (bS HB.out) hb); clear BK291 HB; rename_i HO295 BK291 HB; clear hb ho10; obtain ⟨hcz11_0, hfz11_0, hcz11_1, hfz11_1, hcz11_2, hfz11_2, hcz11_3, hfz11_3, hcz11_4, hfz11_4, hcz11_5, hfz11_5⟩ := bk6 BK291.out))
  (try simp only [Act.put, List.setIfInBounds_toArray, List.set_cons_zero, List.set_cons_succ])
  go_cut [13] (fun v13 wc => ∃ (kq : Nat) (x13_3 : Bool), v13 = .bool x13_3 ∧ Aside0 (impl_PutReq.j0 kq y293 a0_0 x13_3 a0_0 a0_1 a0_2 l0_3 l0_4 a0_5 = some r) ∧ Aside0 (kq ≤ k) ∧ Aside0 (Kd.R (Kd.int .u8) 5 wc w.heap.size (fun _ => True) v294 y293) ∧ Aside0 (wc.heap[gb291]? = some (.cells #[.int .i64 a0_0, .int .i64 a0_1, .int .i64 a0_2, (.slice A0_3 l0_3.length c0_3), (.slice A0_4 l0_4.length c0_4), .int .i64 a0_5] 29 (0, 0))) ∧ Aside0 (Below w.heap.size w wc))
  case first =>
   have H := HC4.out
   clear HC4
   by_cases c12 : a0_0 = 1
   ·rw [if_pos c12] at H
    have c12b0 : (a0_0 == 1) = true := beq_iff_eq.mpr c12
    have c12b1 : (a0_0 != 1) = false := bne_eq_false_iff_eq.mpr c12
    clear c12
    (first | rw [c12b0] | (simp only [i64_w, i32_w]; rw [c12b0]) | skip)
    have H' := aM H
    clear H
    go_wp2
    go_meet
    case rel => exact ⟨_, ((a0_0 == 1)), (by first | rfl | (simp; done) | (simp [*]; done)), H', ⟨by first | omega | exact Nat.le_refl _⟩, ⟨by (with_reducible repeat (first | apply Kd.R_alloc | apply Kd.R_drewN | apply Kd.R_drew)); exact HO295.out⟩, ⟨kX BK291.out⟩, ⟨bS HB.out⟩⟩
   ·rw [if_neg c12] at H
    have c12b0 : (a0_0 == 1) = false := beq_eq_false_iff_ne.mpr c12
    have c12b1 : (a0_0 != 1) = true := bne_iff_ne.mpr c12
    (first | rw [c12b0] | (simp only [i64_w, i32_w]; rw [c12b0]) | skip)
    by_cases c13 : a0_0 = 2
    ·rw [if_pos c13] at H
     have c13b0 : (a0_0 == 2) = true := beq_iff_eq.mpr c13
     have c13b1 : (a0_0 != 2) = false := bne_eq_false_iff_eq.mpr c13
     clear c13
     have H' := aM H
     clear H
     go_wp2
     go_meet
     case rel => exact ⟨_, ((a0_0 == 2)), (by first | rfl | (simp; done) | (simp [*]; done)), H', ⟨by first | omega | exact Nat.le_refl _⟩, ⟨by (with_reducible repeat (first | apply Kd.R_alloc | apply Kd.R_drewN | apply Kd.R_drew)); exact HO295.out⟩, ⟨kX BK291.out⟩, ⟨bS HB.out⟩⟩
    ·rw [if_neg c13] at H
     have c13b0 : (a0_0 == 2) = false := beq_eq_false_iff_ne.mpr c13
     have c13b1 : (a0_0 != 2) = true := bne_iff_ne.mpr c13
     by_cases c14 : a0_0 = 3
     ·rw [if_pos c14] at H
      have c14b0 : (a0_0 == 3) = true := beq_iff_eq.mpr c14
      have c14b1 : (a0_0 != 3) = false := bne_eq_false_iff_eq.mpr c14
      clear c14
      have H' := aM H
      clear H
      go_wp2
      go_meet
      case rel => exact ⟨_, ((a0_0 == 3)), (by first | rfl | (simp; done) | (simp [*]; done)), H', ⟨by first | omega | exact Nat.le_refl _⟩, ⟨by (with_reducible repeat (first | apply Kd.R_alloc | apply Kd.R_drewN | apply Kd.R_drew)); exact HO295.out⟩, ⟨kX BK291.out⟩, ⟨bS HB.out⟩⟩
     ·rw [if_neg c14] at H
      have c14b0 : (a0_0 == 3) = false := beq_eq_false_iff_ne.mpr c14
      have c14b1 : (a0_0 != 3) = true := bne_iff_ne.mpr c14
      have H' := aM H
      clear H
      go_wp2
      go_meet
      case rel => exact ⟨_, ((a0_0 == 4)), (by first | rfl | (simp; done) | (simp [*]; done)), H', ⟨by first | omega | exact Nat.le_refl _⟩, ⟨by (with_reducible repeat (first | apply Kd.R_alloc | apply Kd.R_drewN | apply Kd.R_drew)); exact HO295.out⟩, ⟨kX BK291.out⟩, ⟨bS HB.out⟩⟩
  case rest =>
   clear HC4
   try clear c3
   try clear hcz11_0
   try clear hcz11_1
   try clear hcz11_2
   try clear hcz11_3
   try clear hcz11_4
   try clear hcz11_5
   try clear hcz6_0
   try clear hcz6_1
   try clear hcz6_2
   try clear hcz6_3
   try clear hcz6_4
   try clear hcz6_5
   try clear hcz8_0
   try clear hcz8_1
   try clear hcz8_2
   try clear hcz8_3
   try clear hcz8_4
   try clear hcz8_5
   try clear hfz11_0
   try clear hfz11_1
   try clear hfz11_2
   try clear hfz11_3
   try clear hfz11_4
   try clear hfz11_5
   try clear hfz6_0
   try clear hfz6_1
   try clear hfz6_2
   try clear hfz6_3
   try clear hfz6_4
   try clear hfz6_5
   try clear hfz8_0
   try clear hfz8_1
   try clear hfz8_2
   try clear hfz8_3
   try clear hfz8_4
   try clear hfz8_5
   obtain ⟨kq, x13_3, rfl, HA, HJ3, HO_3, BK291, HB⟩ := hcut
   cases kq with
   | zero => exact absurd HA.out (by simp [impl_PutReq.j0])
   | succ kj3 =>
    have H := HA.out
    clear HA
    simp only [impl_PutReq.j0] at H
    by_cases c15 : x13_3 = true
    ·subst c15
     have H1 : ((impl_putWords.f y293 (([a0_1, a0_2] : List Int))).bind fun t299 => (some t299)) = some r := by rw [if_pos rfl] at H; exact H
     clear H
     have H := H1
     clear H1
     obtain ⟨y296, hy296⟩ : ∃ y_ : List Int, y_ = (([a0_1, a0_2] : List Int)) := ⟨_, rfl⟩
     replace H : ((impl_putWords.f y293 y296).bind fun t299 => (some t299)) = some r := by first | (rw [hy296]; with_reducible exact H) | (have H2_ := (Option.bind_some _ _).symm.trans H; rw [hy296]; with_reducible exact H2_) | (have H2_ := (Option.bind_some _ _).symm.trans H; with_reducible exact H2_) | with_reducible exact H | (rw [hy296]; exact H) | exact H
     have Ny296 := aM hy296
     clear hy296
     replace H := Option.bind_eq_some_iff.mp H
     obtain ⟨t299, A160, H⟩ := H
     replace H : (some t299) = some r := H
     have A16 := aM A160
     clear A160
     obtain rfl := Option.some.inj H
     obtain ⟨hcz17_0, hfz17_0, hcz17_1, hfz17_1, hcz17_2, hfz17_2, hcz17_3, hfz17_3, hcz17_4, hfz17_4, hcz17_5, hfz17_5⟩ := bk6 BK291.out
     go_wp2_with (first | ((with_reducible refine gate_dst (N := 23) rfl ?_); refine Kd.R_lit (Kd.int .i64) _ 3 ?hg (N := 23) ?hd (xs := ([a0_1, a0_2] : List Int)) (inner := [.int .i64 a0_1, .int .i64 a0_2]) (ok := fun _ => True) (okp := fun _ => True) ?hr ?hp (fun _ hk => hk) trivial (Below.refl _ _) (Nat.le_refl _) (by simp) ?_; (case hd => rfl); (case hg => rfl); (case hr => first | (go_simp; done) | (go_simp; rfl)); (case hp => exact (Reps.one (show Kd.M (Kd.int .i64) _ _ _ a0_1 [.int .i64 a0_1] from rfl) (Reps.one (show Kd.M (Kd.int .i64) _ _ _ a0_2 [.int .i64 a0_2] from rfl) (Reps.none _ _)))); intro v297 w18 ho19 hb hg_ hnew_; clear hg_ hnew_; (first | rw [← Ny296.out] at ho19 | (simp only [Int.reduceToNat] at ho19; rw [← Ny296.out] at ho19)); have _ := aM (rB HO_3.out hb); have _ := aM (Kd.R_lower ho19 (below_size (bS HB.out))); have _ := aM (kB BK291.out hb); have _ := aM (below_step (bS HB.out) hb); clear HO_3 BK291 HB; rename_i HO_3 HO298 BK291 HB; clear hb ho19; obtain ⟨Ao20, co20, eo20⟩ := Kd.R_slice HO_3.out; subst eo20; obtain ⟨Ao21, co21, eo21⟩ := Kd.R_slice HO298.out; subst eo21) | ((with_reducible refine gate_callee (f := 39) rfl ?_); refine gL (some 24) rfl rfl Try.func39 (by kernel_rfl) rfl #[.slice Ao20 y293.length co20, .slice Ao21 y296.length co21] rfl ?_; (with_reducible refine (impl_putWords.calls _ _ y293 _ _ y296 t299 _ ?side1 ?side2 ?side3 ?side4 A16.out).mono ?_); (case side1 => exact cR HO_3.out); (case side2 => exact (Kd.R_reads' HO_3.out).2.1); (case side3 => exact cR HO298.out); (case side4 => exact (Kd.R_reads' HO298.out).2.1); rintro e w22 ⟨v300, rfl, ho0, hb⟩; refine ⟨_, rfl, ?_⟩; have _ := aM (Kd.R_elder' (rA HO_3.out) (Kd.R_base ho0) hb); have _ := aM (rB HO298.out hb); have _ := aM (Kd.R_lower (Kd.R_new' ho0 (Kd.R_lt (rA HO_3.out))) (below_size (bS HB.out))); have _ := aM (kB BK291.out hb); have _ := aM (below_step (bS HB.out) hb); clear HO_3 HO298 BK291 HB; rename_i HO_3 HO298 HO301 BK291 HB; (try clear hb); (try clear ho0)))
     go_ret
     exact ⟨_, by first | rfl | (simp [errW_none, errW_some] <;> rfl) | (simp [*, errW_none, errW_some] <;> rfl), by (with_reducible repeat (first | apply Kd.R_alloc | apply Kd.R_drewN | apply Kd.R_drew)); exact Kd.R_mono HO301.out (fun _ hk => trivial), bS HB.out⟩
    ·replace c15 := Bool.eq_false_iff.mpr c15
     subst c15
     have H1 : (if a0_0 = 5 then (if 0 < (l0_4.length : Int) then ((impl_bitWord.f (rdOf false l0_4 0)).bind fun t303 => ((impl_putWords.f y293 (([a0_1, t303] : List Int))).bind fun t307 => (some t307))) else (none)) else (if a0_0 = 15 then ((impl_putWords.f y293 (([a0_1, (l0_4.length : Int)] : List Int))).bind fun t313 => ((impl_PackBits.f kj3 l0_4).bind fun t316 => ((impl_putCounted.f t313 t316).bind fun t319 => (some t319)))) else (if a0_0 = 16 then ((impl_putWords.f y293 (([a0_1, (l0_3.length : Int)] : List Int))).bind fun t325 => ((impl_putWords.f ([] : List Int) l0_3).bind fun t328 => ((impl_putCounted.f t325 t328).bind fun t331 => (some t331)))) else (if a0_0 = 23 then ((impl_putWords.f y293 (([a0_1, a0_2, a0_5, (l0_3.length : Int)] : List Int))).bind fun t337 => ((impl_putWords.f ([] : List Int) l0_3).bind fun t340 => ((impl_putCounted.f t337 t340).bind fun t343 => (some t343)))) else ((impl_putWords.f y293 (([a0_1] : List Int))).bind fun t349 => ((impl_putWords.f t349 l0_3).bind fun t352 => (some t352))))))) = some r := by rw [if_neg (show ¬ (false = true) by decide)] at H; exact H
     clear H
     have H := H1
     clear H1
     by_cases c23 : a0_0 = 5
     ·rw [if_pos c23] at H
      have c23b0 : (a0_0 == 5) = true := beq_iff_eq.mpr c23
      have c23b1 : (a0_0 != 5) = false := bne_eq_false_iff_eq.mpr c23
      clear c23
      by_cases c24 : 0 < (l0_4.length : Int)
      ·rw [if_pos c24] at H
       have c24b0 : decide (0 < (l0_4.length : Int)) = true := decide_eq_true c24
       have c24b1 : decide (0 < l0_4.length) = true := decide_eq_true (by omega)
       clear c24
       replace H := Option.bind_eq_some_iff.mp H
       obtain ⟨t303, A250, H⟩ := H
       replace H : ((impl_putWords.f y293 (([a0_1, t303] : List Int))).bind fun t307 => (some t307)) = some r := H
       have A25 := aM A250
       clear A250
       obtain ⟨y304, hy304⟩ : ∃ y_ : List Int, y_ = (([a0_1, t303] : List Int)) := ⟨_, rfl⟩
       replace H : ((impl_putWords.f y293 y304).bind fun t307 => (some t307)) = some r := by first | (rw [hy304]; with_reducible exact H) | (have H2_ := (Option.bind_some _ _).symm.trans H; rw [hy304]; with_reducible exact H2_) | (have H2_ := (Option.bind_some _ _).symm.trans H; with_reducible exact H2_) | with_reducible exact H | (rw [hy304]; exact H) | exact H
       have Ny304 := aM hy304
       clear hy304
       replace H := Option.bind_eq_some_iff.mp H
       obtain ⟨t307, A260, H⟩ := H
       replace H : (some t307) = some r := H
       have A26 := aM A260
       clear A260
       obtain rfl := Option.some.inj H
       try go_wp2
       have n0_ := aM (Kd.R_drew HO_3.out)
       have n1_ := aM (blk_drew BK291.out)
       have n2_ := aM (below_drew1 HB.out)
       clear HO_3
       clear BK291
       clear HB
       have HO_3 := n0_
       have BK291 := n1_
       have HB := n2_
       clear n0_ n1_ n2_
       have p302 : 0 ≤ (0 : Int) := (by omega)
       have q302 : 0 < (l0_4.length : Int) := of_decide_eq_true (by first | (with_reducible assumption) | assumption)
       obtain ⟨ad302, e302, hx302_0⟩ := Kd.at_bool HR0_4.out 0 p302 q302
       have hw302_0 := hx302_0
       (try rw [show ((0 : Int)).toNat = 0 from rfl] at hw302_0)
       (try rw [show 0 * 1 = 0 from rfl] at hw302_0)
       (try rw [Addr.add_zero'] at hw302_0)
       cases e302
       have qi302 : (0 < l0_4.length) = True := eq_true (by omega)
       (try rw [show ((0 : Int)).toNat = 0 from rfl] at hx302_0)
       (try rw [Addr.add_zero'] at hx302_0)
       replace hx302_0 := (HB.out.cell (World.block_lt_of_cell? w _ hx302_0)).trans hx302_0
       replace p302 := eq_true p302
       replace q302 := eq_true q302
       refine start_ (n := 11) (S := fun w' => w'.cell? ⟨gb291, 0, none⟩ = some (.int .i64 a0_0) ∧ w'.cell? ⟨gb291, 1, none⟩ = some (.int .i64 a0_1) ∧ w'.cell? ⟨gb291, 2, none⟩ = some (.int .i64 a0_2) ∧ w'.cell? ⟨gb291, 3, none⟩ = some (.slice A0_3 l0_3.length c0_3) ∧ w'.cell? ⟨gb291, 4, none⟩ = some (.slice (some ad302) l0_4.length c0_4) ∧ w'.cell? ⟨gb291, 5, none⟩ = some (.int .i64 a0_5) ∧ w'.cell? ad302 = some (.bool (rdOf false l0_4 0))) (ds := []) #[false, false, false, false, false, false, false, false, false, false, false] (by kernel_rfl) rfl rfl ⟨(blk_cell BK291.out 0).trans rfl, (blk_cell BK291.out 1).trans rfl, (blk_cell BK291.out 2).trans rfl, (blk_cell BK291.out 3).trans rfl, (blk_cell BK291.out 4).trans rfl, (blk_cell BK291.out 5).trans rfl, ((HB.out.cell (World.block_lt_of_cell? w _ hw302_0)).trans hw302_0)⟩ (fun hHeld => ?_); refine with_tabW impl_PutReq.tab11 impl_PutReq.bits11 (fun HT_ HW_ => ?_)
       generalize wc.drew = w27 at HO_3 BK291 HB hx302_0 hHeld ⊢
       refine pure_ (i := 0) (N := some 27) (v := ?_) (a' := ?_) #[true, false, false, false, false, false, false, false, false, false, false] rfl rfl (any_of HT_.out (by kernel_rfl)) (fun _ _ _ h => h) (Or.inl ⟨by rfl, ?_⟩) ?_ ?_
       rotate_left
       ·intro w'
        go_simp
        with_reducible rfl
       rotate_left
       ·simp only [Act.put, List.setIfInBounds_toArray, List.set_cons_zero, List.set_cons_succ, i64_w, i32_w]
        rfl
       refine pure_ (i := 1) (N := some 28) (v := ?_) (a' := ?_) #[true, true, false, false, false, false, false, false, false, false, false] rfl rfl (any_of HT_.out (by kernel_rfl)) (fun _ _ _ h => h) (Or.inl ⟨by rfl, ?_⟩) ?_ ?_
       rotate_left
       ·intro w'
        go_simp
        with_reducible rfl
       rotate_left
       ·simp only [Act.put, List.setIfInBounds_toArray, List.set_cons_zero, List.set_cons_succ, i64_w, i32_w]
        rfl
       refine pure_ (i := 3) (N := some 30) (v := ?_) (a' := ?_) #[true, true, false, true, false, false, false, false, false, false, false] rfl rfl (any_of HT_.out (by kernel_rfl)) (fun _ _ _ h => h) (Or.inl ⟨by rfl, ?_⟩) ?_ ?_
       rotate_left
       ·intro w'
        go_simp
        with_reducible rfl
       rotate_left
       ·simp only [Act.put, List.setIfInBounds_toArray, List.set_cons_zero, List.set_cons_succ, i64_w, i32_w]
        rfl
       refine take_ (i := 2) (N := some 29) (v := ?_) (a' := ?_) #[true, true, true, true, false, false, false, false, false, false, false] rfl rfl (take_ofW HT_.out HW_.out (by kernel_rfl)) (fun _ _ _ h => h) (Or.inl ⟨by rfl, ?_⟩) hHeld ?_ ?_
       rotate_left
       ·rintro w' ⟨s0, s1, s2, s3, s4, s5, s6⟩
        go_simp
        with_reducible rfl
       rotate_left
       ·simp only [Act.put, List.setIfInBounds_toArray, List.set_cons_zero, List.set_cons_succ, i64_w, i32_w]
        rfl
       refine take_ (i := 4) (N := some 31) (v := ?_) (a' := ?_) #[true, true, true, true, true, false, false, false, false, false, false] rfl rfl (take_ofW HT_.out HW_.out (by kernel_rfl)) (fun _ _ _ h => h) (Or.inl ⟨by rfl, ?_⟩) hHeld ?_ ?_
       rotate_left
       ·rintro w' ⟨s0, s1, s2, s3, s4, s5, s6⟩
        go_simp
        with_reducible rfl
       rotate_left
       ·simp only [Act.put, List.setIfInBounds_toArray, List.set_cons_zero, List.set_cons_succ, i64_w, i32_w]
        rfl
       refine pure_ (i := 5) (N := some 32) (v := ?_) (a' := ?_) #[true, true, true, true, true, true, false, false, false, false, false] rfl rfl (any_of HT_.out (by kernel_rfl)) (fun _ _ _ h => h) (Or.inl ⟨by rfl, ?_⟩) ?_ ?_
       rotate_left
       ·intro w'
        go_simp
        with_reducible rfl
       rotate_left
       ·simp only [Act.put, List.setIfInBounds_toArray, List.set_cons_zero, List.set_cons_succ, i64_w, i32_w]
        rfl
       refine take_ (i := 6) (N := some 33) (v := ?_) (a' := ?_) #[true, true, true, true, true, true, true, false, false, false, false] rfl rfl (take_ofW HT_.out HW_.out (by kernel_rfl)) (fun _ _ _ h => h) (Or.inl ⟨by rfl, ?_⟩) hHeld ?_ ?_
       rotate_left
       ·rintro w' ⟨s0, s1, s2, s3, s4, s5, s6⟩
        go_simp
        with_reducible rfl
       rotate_left
       ·simp only [Act.put, List.setIfInBounds_toArray, List.set_cons_zero, List.set_cons_succ, i64_w, i32_w]
        rfl
       refine one_ (i := 7) (N := some 34) #[true, true, true, true, true, true, true, true, false, false, false] rfl rfl (one_of HT_.out (by kernel_rfl)) (by decide) (fun K hK => ?_)
       refine goes_ Try.func40 (by kernel_rfl) rfl #[.bool (rdOf false l0_4 0)] (by rfl) rfl rfl (by (try simp only [List.map_toArray, List.map_cons, List.map_nil]); first | done | rfl | (simp only [List.length_drop, List.length_take]; rfl)) ?_
       with_reducible refine (impl_bitWord.calls (rdOf false l0_4 0) t303 _ A25.out).mono ?_
       rintro e w' ⟨rfl, ⟨nd, rfl⟩⟩
       refine ⟨_, rfl, ?_⟩
       refine hK.out _ _ ⟨(blk_cell BK291.out 0).trans rfl, (blk_cell BK291.out 1).trans rfl, (blk_cell BK291.out 2).trans rfl, (blk_cell BK291.out 3).trans rfl, (blk_cell BK291.out 4).trans rfl, (blk_cell BK291.out 5).trans rfl, ((HB.out.cell (World.block_lt_of_cell? w _ hw302_0)).trans hw302_0)⟩ (fun hHeld => ?_)
       clear hK K
       refine norm_ (a' := ?_) ?_ ?_
       rotate_left
       ·show Act.put _ (some 34) _ = _
        simp only [Act.put, List.setIfInBounds_toArray, List.set_cons_zero, List.set_cons_succ, i64_w, i32_w]
        rfl
       refine one_ (i := 8) (N := some 35) #[true, true, true, true, true, true, true, true, true, false, false] rfl rfl (one_of HT_.out (by kernel_rfl)) (by decide) (fun K hK => ?_)
       refine Kd.R_lit_step (Kd.int .i64) _ 3 ?hg (N := 35) ?hd (xs := ([a0_1, t303] : List Int)) (inner := [.int .i64 a0_1, .int .i64 t303]) (ok := fun _ => True) (okp := fun _ => True) ?hr ?hp (fun _ hk => hk) trivial (Below.refl _ _) (Nat.le_refl _) (by simp) ?_; (case hd => rfl); (case hg => rfl); (case hr => first | (go_simp; done) | (go_simp; rfl)); (case hp => exact (Reps.one (show Kd.M (Kd.int .i64) _ _ _ a0_1 [.int .i64 a0_1] from rfl) (Reps.one (show Kd.M (Kd.int .i64) _ _ _ t303 [.int .i64 t303] from rfl) (Reps.none _ _))))
       intro v305 w28 ho29 hb hg_ hnew_
       clear hg_ hnew_
       (first | rw [← Ny304.out] at ho29 | (simp only [Int.reduceToNat] at ho29; rw [← Ny304.out] at ho29))
       have n0_ := aM (rB HO_3.out hb)
       have n1_ := aM (Kd.R_lower ho29 (below_size (bS HB.out)))
       have n2_ := aM (kB BK291.out hb)
       have n3_ := aM (below_step (bS HB.out) hb)
       clear HO_3
       clear BK291
       clear HB
       have HO_3 := n0_
       have HO306 := n1_
       have BK291 := n2_
       have HB := n3_
       clear n0_ n1_ n2_ n3_
       clear hb ho29
       obtain ⟨Ao30, co30, eo30⟩ := Kd.R_slice HO_3.out
       (first | subst eo30 | (injection eo30 with f1_ f2_ f3_; have f4_ := f1_.symm; have f5_ := f3_.symm; clear f1_ f2_ f3_; subst f4_; subst f5_))
       obtain ⟨Ao31, co31, eo31⟩ := Kd.R_slice HO306.out
       (first | subst eo31 | (injection eo31 with f1_ f2_ f3_; have f4_ := f1_.symm; have f5_ := f3_.symm; clear f1_ f2_ f3_; subst f4_; subst f5_))
       refine hK.out _ _ ⟨(blk_cell BK291.out 0).trans rfl, (blk_cell BK291.out 1).trans rfl, (blk_cell BK291.out 2).trans rfl, (blk_cell BK291.out 3).trans rfl, (blk_cell BK291.out 4).trans rfl, (blk_cell BK291.out 5).trans rfl, ((HB.out.cell (World.block_lt_of_cell? w _ hw302_0)).trans hw302_0)⟩ (fun hHeld => ?_)
       clear hK K
       refine norm_ (a' := ?_) ?_ ?_
       rotate_left
       ·show Act.put _ (some 35) _ = _
        simp only [Act.put, List.setIfInBounds_toArray, List.set_cons_zero, List.set_cons_succ, i64_w, i32_w]
        rfl
       refine one_ (i := 9) (N := some 36) #[true, true, true, true, true, true, true, true, true, true, false] rfl rfl (one_of HT_.out (by kernel_rfl)) (by decide) (fun K hK => ?_)
       refine goes_ Try.func39 (by kernel_rfl) rfl #[.slice Ao30 y293.length co30, .slice Ao31 y304.length co31] (by rfl) rfl rfl (by (try simp only [List.map_toArray, List.map_cons, List.map_nil]); first | done | rfl | (simp only [List.length_drop, List.length_take]; rfl)) ?_
       with_reducible refine (impl_putWords.calls _ _ y293 _ _ y304 t307 _ ?side1 ?side2 ?side3 ?side4 A26.out).mono ?_
       (case side1 => exact cR HO_3.out)
       (case side2 => exact (Kd.R_reads' HO_3.out).2.1)
       (case side3 => exact cR HO306.out)
       (case side4 => exact (Kd.R_reads' HO306.out).2.1)
       rintro e w32 ⟨v308, rfl, ho0, hb⟩
       refine ⟨_, rfl, ?_⟩
       have n0_ := aM (Kd.R_elder' (rA HO_3.out) (Kd.R_base ho0) hb)
       have n1_ := aM (rB HO306.out hb)
       have n2_ := aM (Kd.R_lower (Kd.R_new' ho0 (Kd.R_lt (rA HO_3.out))) (below_size (bS HB.out)))
       have n3_ := aM (kB BK291.out hb)
       have n4_ := aM (below_step (bS HB.out) hb)
       clear HO_3
       clear HO306
       clear BK291
       clear HB
       have HO_3 := n0_
       have HO306 := n1_
       have HO309 := n2_
       have BK291 := n3_
       have HB := n4_
       clear n0_ n1_ n2_ n3_ n4_
       (try clear hb)
       (try clear hb2)
       (try clear hk)
       (try clear hi)
       (try clear ho0)
       refine hK.out _ _ ⟨(blk_cell BK291.out 0).trans rfl, (blk_cell BK291.out 1).trans rfl, (blk_cell BK291.out 2).trans rfl, (blk_cell BK291.out 3).trans rfl, (blk_cell BK291.out 4).trans rfl, (blk_cell BK291.out 5).trans rfl, ((HB.out.cell (World.block_lt_of_cell? w _ hw302_0)).trans hw302_0)⟩ (fun hHeld => ?_)
       clear hK K
       refine norm_ (a' := ?_) ?_ ?_
       rotate_left
       ·show Act.put _ (some 36) _ = _
        simp only [Act.put, List.setIfInBounds_toArray, List.set_cons_zero, List.set_cons_succ, i64_w, i32_w]
        rfl
       refine pure_ (i := 10) (N := some 2) (v := ?_) (a' := ?_) #[true, true, true, true, true, true, true, true, true, true, true] rfl rfl (any_of HT_.out (by kernel_rfl)) (fun _ _ _ h => h) (Or.inl ⟨by rfl, ?_⟩) ?_ ?_
       rotate_left
       ·intro w'
        go_simp
        with_reducible rfl
       rotate_left
       ·simp only [Act.put, List.setIfInBounds_toArray, List.set_cons_zero, List.set_cons_succ, i64_w, i32_w]
        rfl
       refine done_ (done_of HT_.out (by kernel_rfl)) ?_
       try go_wp2
       go_ret
       exact ⟨_, by first | rfl | (simp [errW_none, errW_some] <;> rfl) | (simp [*, errW_none, errW_some] <;> rfl), by (with_reducible repeat (first | apply Kd.R_alloc | apply Kd.R_drewN | apply Kd.R_drew)); exact Kd.R_mono HO309.out (fun _ hk => trivial), bS HB.out⟩
      ·rw [if_neg c24] at H
       exact absurd H (by simp)
     ·rw [if_neg c23] at H
      have c23b0 : (a0_0 == 5) = false := beq_eq_false_iff_ne.mpr c23
      have c23b1 : (a0_0 != 5) = true := bne_iff_ne.mpr c23
      by_cases c33 : a0_0 = 15
      ·rw [if_pos c33] at H
       have c33b0 : (a0_0 == 15) = true := beq_iff_eq.mpr c33
       have c33b1 : (a0_0 != 15) = false := bne_eq_false_iff_eq.mpr c33
       clear c33
       obtain ⟨y310, hy310⟩ : ∃ y_ : List Int, y_ = (([a0_1, (l0_4.length : Int)] : List Int)) := ⟨_, rfl⟩
       replace H : ((impl_putWords.f y293 y310).bind fun t313 => ((impl_PackBits.f kj3 l0_4).bind fun t316 => ((impl_putCounted.f t313 t316).bind fun t319 => (some t319)))) = some r := by first | (rw [hy310]; with_reducible exact H) | (have H2_ := (Option.bind_some _ _).symm.trans H; rw [hy310]; with_reducible exact H2_) | (have H2_ := (Option.bind_some _ _).symm.trans H; with_reducible exact H2_) | with_reducible exact H | (rw [hy310]; exact H) | exact H
       have Ny310 := aM hy310
       clear hy310
       replace H := Option.bind_eq_some_iff.mp H
       obtain ⟨t313, A340, H⟩ := H
       replace H : ((impl_PackBits.f kj3 l0_4).bind fun t316 => ((impl_putCounted.f t313 t316).bind fun t319 => (some t319))) = some r := H
       have A34 := aM A340
       clear A340
       replace H := Option.bind_eq_some_iff.mp H
       obtain ⟨t316, A350, H⟩ := H
       replace H : ((impl_putCounted.f t313 t316).bind fun t319 => (some t319)) = some r := H
       have A35 := aM A350
       clear A350
       replace H := Option.bind_eq_some_iff.mp H
       obtain ⟨t319, A360, H⟩ := H
       replace H : (some t319) = some r := H
       have A36 := aM A360
       clear A360
       obtain rfl := Option.some.inj H
       try go_wp2
       have n0_ := aM (Kd.R_drew HO_3.out)
       have n1_ := aM (blk_drew BK291.out)
       have n2_ := aM (below_drew1 HB.out)
       clear HO_3
       clear BK291
       clear HB
       have HO_3 := n0_
       have BK291 := n1_
       have HB := n2_
       clear n0_ n1_ n2_
       refine start_ (n := 13) (S := fun w' => w'.cell? ⟨gb291, 0, none⟩ = some (.int .i64 a0_0) ∧ w'.cell? ⟨gb291, 1, none⟩ = some (.int .i64 a0_1) ∧ w'.cell? ⟨gb291, 2, none⟩ = some (.int .i64 a0_2) ∧ w'.cell? ⟨gb291, 3, none⟩ = some (.slice A0_3 l0_3.length c0_3) ∧ w'.cell? ⟨gb291, 4, none⟩ = some (.slice A0_4 l0_4.length c0_4) ∧ w'.cell? ⟨gb291, 5, none⟩ = some (.int .i64 a0_5)) (ds := []) #[false, false, false, false, false, false, false, false, false, false, false, false, false] (by kernel_rfl) rfl rfl ⟨(blk_cell BK291.out 0).trans rfl, (blk_cell BK291.out 1).trans rfl, (blk_cell BK291.out 2).trans rfl, (blk_cell BK291.out 3).trans rfl, (blk_cell BK291.out 4).trans rfl, (blk_cell BK291.out 5).trans rfl⟩ (fun hHeld => ?_); refine with_tabW impl_PutReq.tab13 impl_PutReq.bits13 (fun HT_ HW_ => ?_)
       generalize wc.drew = w37 at HO_3 BK291 HB hHeld ⊢
       refine pure_ (i := 0) (N := some 39) (v := ?_) (a' := ?_) #[true, false, false, false, false, false, false, false, false, false, false, false, false] rfl rfl (any_of HT_.out (by kernel_rfl)) (fun _ _ _ h => h) (Or.inl ⟨by rfl, ?_⟩) ?_ ?_
       rotate_left
       ·intro w'
        go_simp
        with_reducible rfl
       rotate_left
       ·simp only [Act.put, List.setIfInBounds_toArray, List.set_cons_zero, List.set_cons_succ, i64_w, i32_w]
        rfl
       refine pure_ (i := 1) (N := some 40) (v := ?_) (a' := ?_) #[true, true, false, false, false, false, false, false, false, false, false, false, false] rfl rfl (any_of HT_.out (by kernel_rfl)) (fun _ _ _ h => h) (Or.inl ⟨by rfl, ?_⟩) ?_ ?_
       rotate_left
       ·intro w'
        go_simp
        with_reducible rfl
       rotate_left
       ·simp only [Act.put, List.setIfInBounds_toArray, List.set_cons_zero, List.set_cons_succ, i64_w, i32_w]
        rfl
       refine pure_ (i := 3) (N := some 42) (v := ?_) (a' := ?_) #[true, true, false, true, false, false, false, false, false, false, false, false, false] rfl rfl (any_of HT_.out (by kernel_rfl)) (fun _ _ _ h => h) (Or.inl ⟨by rfl, ?_⟩) ?_ ?_
       rotate_left
       ·intro w'
        go_simp
        with_reducible rfl
       rotate_left
       ·simp only [Act.put, List.setIfInBounds_toArray, List.set_cons_zero, List.set_cons_succ, i64_w, i32_w]
        rfl
       refine pure_ (i := 8) (N := some 47) (v := ?_) (a' := ?_) #[true, true, false, true, false, false, false, false, true, false, false, false, false] rfl rfl (any_of HT_.out (by kernel_rfl)) (fun _ _ _ h => h) (Or.inl ⟨by rfl, ?_⟩) ?_ ?_
       rotate_left
       ·intro w'
        go_simp
        with_reducible rfl
       rotate_left
       ·simp only [Act.put, List.setIfInBounds_toArray, List.set_cons_zero, List.set_cons_succ, i64_w, i32_w]
        rfl
       refine take_ (i := 2) (N := some 41) (v := ?_) (a' := ?_) #[true, true, true, true, false, false, false, false, true, false, false, false, false] rfl rfl (take_ofW HT_.out HW_.out (by kernel_rfl)) (fun _ _ _ h => h) (Or.inl ⟨by rfl, ?_⟩) hHeld ?_ ?_
       rotate_left
       ·rintro w' ⟨s0, s1, s2, s3, s4, s5⟩
        go_simp
        with_reducible rfl
       rotate_left
       ·simp only [Act.put, List.setIfInBounds_toArray, List.set_cons_zero, List.set_cons_succ, i64_w, i32_w]
        rfl
       refine take_ (i := 4) (N := some 43) (v := ?_) (a' := ?_) #[true, true, true, true, true, false, false, false, true, false, false, false, false] rfl rfl (take_ofW HT_.out HW_.out (by kernel_rfl)) (fun _ _ _ h => h) (Or.inl ⟨by rfl, ?_⟩) hHeld ?_ ?_
       rotate_left
       ·rintro w' ⟨s0, s1, s2, s3, s4, s5⟩
        go_simp
        with_reducible rfl
       rotate_left
       ·simp only [Act.put, List.setIfInBounds_toArray, List.set_cons_zero, List.set_cons_succ, i64_w, i32_w]
        rfl
       refine pure_ (i := 5) (N := some 44) (v := ?_) (a' := ?_) #[true, true, true, true, true, true, false, false, true, false, false, false, false] rfl rfl (any_of HT_.out (by kernel_rfl)) (fun _ _ _ h => h) (Or.inl ⟨by rfl, ?_⟩) ?_ ?_
       rotate_left
       ·intro w'
        go_simp
        with_reducible rfl
       rotate_left
       ·simp only [Act.put, List.setIfInBounds_toArray, List.set_cons_zero, List.set_cons_succ, i64_w, i32_w]
        rfl
       refine take_ (i := 9) (N := some 48) (v := ?_) (a' := ?_) #[true, true, true, true, true, true, false, false, true, true, false, false, false] rfl rfl (take_ofW HT_.out HW_.out (by kernel_rfl)) (fun _ _ _ h => h) (Or.inl ⟨by rfl, ?_⟩) hHeld ?_ ?_
       rotate_left
       ·rintro w' ⟨s0, s1, s2, s3, s4, s5⟩
        go_simp
        with_reducible rfl
       rotate_left
       ·simp only [Act.put, List.setIfInBounds_toArray, List.set_cons_zero, List.set_cons_succ, i64_w, i32_w]
        rfl
       refine one_ (i := 6) (N := some 45) #[true, true, true, true, true, true, true, false, true, true, false, false, false] rfl rfl (one_of HT_.out (by kernel_rfl)) (by decide) (fun K hK => ?_)
       refine Kd.R_lit_step (Kd.int .i64) _ 3 ?hg (N := 45) ?hd (xs := ([a0_1, (l0_4.length : Int)] : List Int)) (inner := [.int .i64 a0_1, .int .i64 (l0_4.length : Int)]) (ok := fun _ => True) (okp := fun _ => True) ?hr ?hp (fun _ hk => hk) trivial (Below.refl _ _) (Nat.le_refl _) (by simp) ?_; (case hd => rfl); (case hg => rfl); (case hr => first | (go_simp; done) | (go_simp; rfl)); (case hp => exact (Reps.one (show Kd.M (Kd.int .i64) _ _ _ a0_1 [.int .i64 a0_1] from rfl) (Reps.one (show Kd.M (Kd.int .i64) _ _ _ (l0_4.length : Int) [.int .i64 (l0_4.length : Int)] from rfl) (Reps.none _ _))))
       intro v311 w38 ho39 hb hg_ hnew_
       clear hg_ hnew_
       (first | rw [← Ny310.out] at ho39 | (simp only [Int.reduceToNat] at ho39; rw [← Ny310.out] at ho39))
       have n0_ := aM (rB HO_3.out hb)
       have n1_ := aM (Kd.R_lower ho39 (below_size (bS HB.out)))
       have n2_ := aM (kB BK291.out hb)
       have n3_ := aM (below_step (bS HB.out) hb)
       clear HO_3
       clear BK291
       clear HB
       have HO_3 := n0_
       have HO312 := n1_
       have BK291 := n2_
       have HB := n3_
       clear n0_ n1_ n2_ n3_
       clear hb ho39
       obtain ⟨Ao40, co40, eo40⟩ := Kd.R_slice HO_3.out
       (first | subst eo40 | (injection eo40 with f1_ f2_ f3_; have f4_ := f1_.symm; have f5_ := f3_.symm; clear f1_ f2_ f3_; subst f4_; subst f5_))
       obtain ⟨Ao41, co41, eo41⟩ := Kd.R_slice HO312.out
       (first | subst eo41 | (injection eo41 with f1_ f2_ f3_; have f4_ := f1_.symm; have f5_ := f3_.symm; clear f1_ f2_ f3_; subst f4_; subst f5_))
       refine hK.out _ _ ⟨(blk_cell BK291.out 0).trans rfl, (blk_cell BK291.out 1).trans rfl, (blk_cell BK291.out 2).trans rfl, (blk_cell BK291.out 3).trans rfl, (blk_cell BK291.out 4).trans rfl, (blk_cell BK291.out 5).trans rfl⟩ (fun hHeld => ?_)
       clear hK K
       refine norm_ (a' := ?_) ?_ ?_
       rotate_left
       ·show Act.put _ (some 45) _ = _
        simp only [Act.put, List.setIfInBounds_toArray, List.set_cons_zero, List.set_cons_succ, i64_w, i32_w]
        rfl
       refine one_ (i := 7) (N := some 46) #[true, true, true, true, true, true, true, true, true, true, false, false, false] rfl rfl (one_of HT_.out (by kernel_rfl)) (by decide) (fun K hK => ?_)
       refine goes_ Try.func39 (by kernel_rfl) rfl #[.slice Ao40 y293.length co40, .slice Ao41 y310.length co41] (by rfl) rfl rfl (by (try simp only [List.map_toArray, List.map_cons, List.map_nil]); first | done | rfl | (simp only [List.length_drop, List.length_take]; rfl)) ?_
       with_reducible refine (impl_putWords.calls _ _ y293 _ _ y310 t313 _ ?side1 ?side2 ?side3 ?side4 A34.out).mono ?_
       (case side1 => exact cR HO_3.out)
       (case side2 => exact (Kd.R_reads' HO_3.out).2.1)
       (case side3 => exact cR HO312.out)
       (case side4 => exact (Kd.R_reads' HO312.out).2.1)
       rintro e w42 ⟨v314, rfl, ho0, hb⟩
       refine ⟨_, rfl, ?_⟩
       have n0_ := aM (Kd.R_elder' (rA HO_3.out) (Kd.R_base ho0) hb)
       have n1_ := aM (rB HO312.out hb)
       have n2_ := aM (Kd.R_lower (Kd.R_new' ho0 (Kd.R_lt (rA HO_3.out))) (below_size (bS HB.out)))
       have n3_ := aM (kB BK291.out hb)
       have n4_ := aM (below_step (bS HB.out) hb)
       clear HO_3
       clear HO312
       clear BK291
       clear HB
       have HO_3 := n0_
       have HO312 := n1_
       have HO315 := n2_
       have BK291 := n3_
       have HB := n4_
       clear n0_ n1_ n2_ n3_ n4_
       (try clear hb)
       (try clear hb2)
       (try clear hk)
       (try clear hi)
       (try clear ho0)
       refine hK.out _ _ ⟨(blk_cell BK291.out 0).trans rfl, (blk_cell BK291.out 1).trans rfl, (blk_cell BK291.out 2).trans rfl, (blk_cell BK291.out 3).trans rfl, (blk_cell BK291.out 4).trans rfl, (blk_cell BK291.out 5).trans rfl⟩ (fun hHeld => ?_)
       clear hK K
       refine norm_ (a' := ?_) ?_ ?_
       rotate_left
       ·show Act.put _ (some 46) _ = _
        simp only [Act.put, List.setIfInBounds_toArray, List.set_cons_zero, List.set_cons_succ, i64_w, i32_w]
        rfl
       refine one_ (i := 10) (N := some 49) #[true, true, true, true, true, true, true, true, true, true, true, false, false] rfl rfl (one_of HT_.out (by kernel_rfl)) (by decide) (fun K hK => ?_)
       refine goes_ Try.func42 (by kernel_rfl) rfl #[.slice A0_4 l0_4.length c0_4] (by rfl) rfl rfl (by (try simp only [List.map_toArray, List.map_cons, List.map_nil]); first | done | rfl | (simp only [List.length_drop, List.length_take]; rfl)) ?_
       with_reducible refine (impl_PackBits.calls kj3 _ _ l0_4 t316 _ ?side1 ?side2 A35.out).mono ?_
       (case side1 => exact cB HR0_4.out HB.out)
       (case side2 => exact HC0_4.out)
       rintro e w43 ⟨v317, rfl, ho0, hb⟩
       refine ⟨_, rfl, ?_⟩
       have n0_ := aM (Kd.R_elder' (rA HO_3.out) (Kd.R_base ho0) hb)
       have n1_ := aM (rB HO312.out hb)
       have n2_ := aM (Kd.R_elder' (rA HO315.out) (Kd.R_base ho0) hb)
       have n3_ := aM (Kd.R_lower (Kd.R_new' (Kd.R_new' ho0 (Kd.R_lt (rA HO_3.out))) (Kd.R_lt (rA HO315.out))) (below_size (bS HB.out)))
       have n4_ := aM (kB BK291.out hb)
       have n5_ := aM (below_step (bS HB.out) hb)
       clear HO_3
       clear HO312
       clear HO315
       clear BK291
       clear HB
       have HO_3 := n0_
       have HO312 := n1_
       have HO315 := n2_
       have HO318 := n3_
       have BK291 := n4_
       have HB := n5_
       clear n0_ n1_ n2_ n3_ n4_ n5_
       (try clear hb)
       (try clear hb2)
       (try clear hk)
       (try clear hi)
       (try clear ho0)
       obtain ⟨Ao44, co44, eo44⟩ := Kd.R_slice HO315.out
       (first | subst eo44 | (injection eo44 with f1_ f2_ f3_; have f4_ := f1_.symm; have f5_ := f3_.symm; clear f1_ f2_ f3_; subst f4_; subst f5_))
       obtain ⟨Ao45, co45, eo45⟩ := Kd.R_slice HO318.out
       (first | subst eo45 | (injection eo45 with f1_ f2_ f3_; have f4_ := f1_.symm; have f5_ := f3_.symm; clear f1_ f2_ f3_; subst f4_; subst f5_))
       refine hK.out _ _ ⟨(blk_cell BK291.out 0).trans rfl, (blk_cell BK291.out 1).trans rfl, (blk_cell BK291.out 2).trans rfl, (blk_cell BK291.out 3).trans rfl, (blk_cell BK291.out 4).trans rfl, (blk_cell BK291.out 5).trans rfl⟩ (fun hHeld => ?_)
       clear hK K
       refine norm_ (a' := ?_) ?_ ?_
       rotate_left
       ·show Act.put _ (some 49) _ = _
        simp only [Act.put, List.setIfInBounds_toArray, List.set_cons_zero, List.set_cons_succ, i64_w, i32_w]
        rfl
       refine one_ (i := 11) (N := some 50) #[true, true, true, true, true, true, true, true, true, true, true, true, false] rfl rfl (one_of HT_.out (by kernel_rfl)) (by decide) (fun K hK => ?_)
       refine goes_ Try.func41 (by kernel_rfl) rfl #[.slice Ao44 t313.length co44, .slice Ao45 t316.length co45] (by rfl) rfl rfl (by (try simp only [List.map_toArray, List.map_cons, List.map_nil]); first | done | rfl | (simp only [List.length_drop, List.length_take]; rfl)) ?_
       with_reducible refine (impl_putCounted.calls _ _ t313 _ _ t316 t319 _ ?side1 ?side2 ?side3 ?side4 A36.out).mono ?_
       (case side1 => exact cR HO315.out)
       (case side2 => exact (Kd.R_reads' HO315.out).2.1)
       (case side3 => exact cR HO318.out)
       (case side4 => exact (Kd.R_reads' HO318.out).2.1)
       rintro e w46 ⟨v320, rfl, ho0, hb⟩
       refine ⟨_, rfl, ?_⟩
       have n0_ := aM (Kd.R_elder' (rA HO_3.out) (Kd.R_base ho0) hb)
       have n1_ := aM (rB HO312.out hb)
       have n2_ := aM (Kd.R_elder' (rA HO315.out) (Kd.R_base ho0) hb)
       have n3_ := aM (Kd.R_elder' (rA HO318.out) (Kd.R_base ho0) hb)
       have n4_ := aM (Kd.R_lower (Kd.R_new' (Kd.R_new' (Kd.R_new' ho0 (Kd.R_lt (rA HO_3.out))) (Kd.R_lt (rA HO315.out))) (Kd.R_lt (rA HO318.out))) (below_size (bS HB.out)))
       have n5_ := aM (kB BK291.out hb)
       have n6_ := aM (below_step (bS HB.out) hb)
       clear HO_3
       clear HO312
       clear HO315
       clear HO318
       clear BK291
       clear HB
       have HO_3 := n0_
       have HO312 := n1_
       have HO315 := n2_
       have HO318 := n3_
       have HO321 := n4_
       have BK291 := n5_
       have HB := n6_
       clear n0_ n1_ n2_ n3_ n4_ n5_ n6_
       (try clear hb)
       (try clear hb2)
       (try clear hk)
       (try clear hi)
       (try clear ho0)
       refine hK.out _ _ ⟨(blk_cell BK291.out 0).trans rfl, (blk_cell BK291.out 1).trans rfl, (blk_cell BK291.out 2).trans rfl, (blk_cell BK291.out 3).trans rfl, (blk_cell BK291.out 4).trans rfl, (blk_cell BK291.out 5).trans rfl⟩ (fun hHeld => ?_)
       clear hK K
       refine norm_ (a' := ?_) ?_ ?_
       rotate_left
       ·show Act.put _ (some 50) _ = _
        simp only [Act.put, List.setIfInBounds_toArray, List.set_cons_zero, List.set_cons_succ, i64_w, i32_w]
        rfl
       refine pure_ (i := 12) (N := some 2) (v := ?_) (a' := ?_) #[true, true, true, true, true, true, true, true, true, true, true, true, true] rfl rfl (any_of HT_.out (by kernel_rfl)) (fun _ _ _ h => h) (Or.inl ⟨by rfl, ?_⟩) ?_ ?_
       rotate_left
       ·intro w'
        go_simp
        with_reducible rfl
       rotate_left
       ·simp only [Act.put, List.setIfInBounds_toArray, List.set_cons_zero, List.set_cons_succ, i64_w, i32_w]
        rfl
       refine done_ (done_of HT_.out (by kernel_rfl)) ?_
       try go_wp2
       go_ret
       exact ⟨_, by first | rfl | (simp [errW_none, errW_some] <;> rfl) | (simp [*, errW_none, errW_some] <;> rfl), by (with_reducible repeat (first | apply Kd.R_alloc | apply Kd.R_drewN | apply Kd.R_drew)); exact Kd.R_mono HO321.out (fun _ hk => trivial), bS HB.out⟩
      ·rw [if_neg c33] at H
       have c33b0 : (a0_0 == 15) = false := beq_eq_false_iff_ne.mpr c33
       have c33b1 : (a0_0 != 15) = true := bne_iff_ne.mpr c33
       by_cases c47 : a0_0 = 16
       ·rw [if_pos c47] at H
        have c47b0 : (a0_0 == 16) = true := beq_iff_eq.mpr c47
        have c47b1 : (a0_0 != 16) = false := bne_eq_false_iff_eq.mpr c47
        clear c47
        obtain ⟨y322, hy322⟩ : ∃ y_ : List Int, y_ = (([a0_1, (l0_3.length : Int)] : List Int)) := ⟨_, rfl⟩
        replace H : ((impl_putWords.f y293 y322).bind fun t325 => ((impl_putWords.f ([] : List Int) l0_3).bind fun t328 => ((impl_putCounted.f t325 t328).bind fun t331 => (some t331)))) = some r := by first | (rw [hy322]; with_reducible exact H) | (have H2_ := (Option.bind_some _ _).symm.trans H; rw [hy322]; with_reducible exact H2_) | (have H2_ := (Option.bind_some _ _).symm.trans H; with_reducible exact H2_) | with_reducible exact H | (rw [hy322]; exact H) | exact H
        have Ny322 := aM hy322
        clear hy322
        replace H := Option.bind_eq_some_iff.mp H
        obtain ⟨t325, A480, H⟩ := H
        replace H : ((impl_putWords.f ([] : List Int) l0_3).bind fun t328 => ((impl_putCounted.f t325 t328).bind fun t331 => (some t331))) = some r := H
        have A48 := aM A480
        clear A480
        replace H := Option.bind_eq_some_iff.mp H
        obtain ⟨t328, A490, H⟩ := H
        replace H : ((impl_putCounted.f t325 t328).bind fun t331 => (some t331)) = some r := H
        have A49 := aM A490
        clear A490
        replace H := Option.bind_eq_some_iff.mp H
        obtain ⟨t331, A500, H⟩ := H
        replace H : (some t331) = some r := H
        have A50 := aM A500
        clear A500
        obtain rfl := Option.some.inj H
        try go_wp2
        have n0_ := aM (Kd.R_drew HO_3.out)
        have n1_ := aM (blk_drew BK291.out)
        have n2_ := aM (below_drew1 HB.out)
        clear HO_3
        clear BK291
        clear HB
        have HO_3 := n0_
        have BK291 := n1_
        have HB := n2_
        clear n0_ n1_ n2_
        refine start_ (n := 13) (S := fun w' => w'.cell? ⟨gb291, 0, none⟩ = some (.int .i64 a0_0) ∧ w'.cell? ⟨gb291, 1, none⟩ = some (.int .i64 a0_1) ∧ w'.cell? ⟨gb291, 2, none⟩ = some (.int .i64 a0_2) ∧ w'.cell? ⟨gb291, 3, none⟩ = some (.slice A0_3 l0_3.length c0_3) ∧ w'.cell? ⟨gb291, 4, none⟩ = some (.slice A0_4 l0_4.length c0_4) ∧ w'.cell? ⟨gb291, 5, none⟩ = some (.int .i64 a0_5)) (ds := []) #[false, false, false, false, false, false, false, false, false, false, false, false, false] (by kernel_rfl) rfl rfl ⟨(blk_cell BK291.out 0).trans rfl, (blk_cell BK291.out 1).trans rfl, (blk_cell BK291.out 2).trans rfl, (blk_cell BK291.out 3).trans rfl, (blk_cell BK291.out 4).trans rfl, (blk_cell BK291.out 5).trans rfl⟩ (fun hHeld => ?_); refine with_tabW impl_PutReq.tab15 impl_PutReq.bits15 (fun HT_ HW_ => ?_)
        generalize wc.drew = w51 at HO_3 BK291 HB hHeld ⊢
        refine pure_ (i := 0) (N := some 53) (v := ?_) (a' := ?_) #[true, false, false, false, false, false, false, false, false, false, false, false, false] rfl rfl (any_of HT_.out (by kernel_rfl)) (fun _ _ _ h => h) (Or.inl ⟨by rfl, ?_⟩) ?_ ?_
        rotate_left
        ·intro w'
         go_simp
         with_reducible rfl
        rotate_left
        ·simp only [Act.put, List.setIfInBounds_toArray, List.set_cons_zero, List.set_cons_succ, i64_w, i32_w]
         rfl
        refine pure_ (i := 1) (N := some 54) (v := ?_) (a' := ?_) #[true, true, false, false, false, false, false, false, false, false, false, false, false] rfl rfl (any_of HT_.out (by kernel_rfl)) (fun _ _ _ h => h) (Or.inl ⟨by rfl, ?_⟩) ?_ ?_
        rotate_left
        ·intro w'
         go_simp
         with_reducible rfl
        rotate_left
        ·simp only [Act.put, List.setIfInBounds_toArray, List.set_cons_zero, List.set_cons_succ, i64_w, i32_w]
         rfl
        refine pure_ (i := 3) (N := some 56) (v := ?_) (a' := ?_) #[true, true, false, true, false, false, false, false, false, false, false, false, false] rfl rfl (any_of HT_.out (by kernel_rfl)) (fun _ _ _ h => h) (Or.inl ⟨by rfl, ?_⟩) ?_ ?_
        rotate_left
        ·intro w'
         go_simp
         with_reducible rfl
        rotate_left
        ·simp only [Act.put, List.setIfInBounds_toArray, List.set_cons_zero, List.set_cons_succ, i64_w, i32_w]
         rfl
        refine pure_ (i := 8) (N := some 61) (v := ?_) (a' := ?_) #[true, true, false, true, false, false, false, false, true, false, false, false, false] rfl rfl (any_of HT_.out (by kernel_rfl)) (fun _ _ _ h => h) (Or.inl ⟨by rfl, ?_⟩) ?_ ?_
        rotate_left
        ·intro w'
         go_simp
         with_reducible rfl
        rotate_left
        ·simp only [Act.put, List.setIfInBounds_toArray, List.set_cons_zero, List.set_cons_succ, i64_w, i32_w]
         rfl
        refine take_ (i := 2) (N := some 55) (v := ?_) (a' := ?_) #[true, true, true, true, false, false, false, false, true, false, false, false, false] rfl rfl (take_ofW HT_.out HW_.out (by kernel_rfl)) (fun _ _ _ h => h) (Or.inl ⟨by rfl, ?_⟩) hHeld ?_ ?_
        rotate_left
        ·rintro w' ⟨s0, s1, s2, s3, s4, s5⟩
         go_simp
         with_reducible rfl
        rotate_left
        ·simp only [Act.put, List.setIfInBounds_toArray, List.set_cons_zero, List.set_cons_succ, i64_w, i32_w]
         rfl
        refine take_ (i := 4) (N := some 57) (v := ?_) (a' := ?_) #[true, true, true, true, true, false, false, false, true, false, false, false, false] rfl rfl (take_ofW HT_.out HW_.out (by kernel_rfl)) (fun _ _ _ h => h) (Or.inl ⟨by rfl, ?_⟩) hHeld ?_ ?_
        rotate_left
        ·rintro w' ⟨s0, s1, s2, s3, s4, s5⟩
         go_simp
         with_reducible rfl
        rotate_left
        ·simp only [Act.put, List.setIfInBounds_toArray, List.set_cons_zero, List.set_cons_succ, i64_w, i32_w]
         rfl
        refine pure_ (i := 5) (N := some 58) (v := ?_) (a' := ?_) #[true, true, true, true, true, true, false, false, true, false, false, false, false] rfl rfl (any_of HT_.out (by kernel_rfl)) (fun _ _ _ h => h) (Or.inl ⟨by rfl, ?_⟩) ?_ ?_
        rotate_left
        ·intro w'
         go_simp
         with_reducible rfl
        rotate_left
        ·simp only [Act.put, List.setIfInBounds_toArray, List.set_cons_zero, List.set_cons_succ, i64_w, i32_w]
         rfl
        refine take_ (i := 9) (N := some 62) (v := ?_) (a' := ?_) #[true, true, true, true, true, true, false, false, true, true, false, false, false] rfl rfl (take_ofW HT_.out HW_.out (by kernel_rfl)) (fun _ _ _ h => h) (Or.inl ⟨by rfl, ?_⟩) hHeld ?_ ?_
        rotate_left
        ·rintro w' ⟨s0, s1, s2, s3, s4, s5⟩
         go_simp
         with_reducible rfl
        rotate_left
        ·simp only [Act.put, List.setIfInBounds_toArray, List.set_cons_zero, List.set_cons_succ, i64_w, i32_w]
         rfl
        refine one_ (i := 6) (N := some 59) #[true, true, true, true, true, true, true, false, true, true, false, false, false] rfl rfl (one_of HT_.out (by kernel_rfl)) (by decide) (fun K hK => ?_)
        refine Kd.R_lit_step (Kd.int .i64) _ 3 ?hg (N := 59) ?hd (xs := ([a0_1, (l0_3.length : Int)] : List Int)) (inner := [.int .i64 a0_1, .int .i64 (l0_3.length : Int)]) (ok := fun _ => True) (okp := fun _ => True) ?hr ?hp (fun _ hk => hk) trivial (Below.refl _ _) (Nat.le_refl _) (by simp) ?_; (case hd => rfl); (case hg => rfl); (case hr => first | (go_simp; done) | (go_simp; rfl)); (case hp => exact (Reps.one (show Kd.M (Kd.int .i64) _ _ _ a0_1 [.int .i64 a0_1] from rfl) (Reps.one (show Kd.M (Kd.int .i64) _ _ _ (l0_3.length : Int) [.int .i64 (l0_3.length : Int)] from rfl) (Reps.none _ _))))
        intro v323 w52 ho53 hb hg_ hnew_
        clear hg_ hnew_
        (first | rw [← Ny322.out] at ho53 | (simp only [Int.reduceToNat] at ho53; rw [← Ny322.out] at ho53))
        have n0_ := aM (rB HO_3.out hb)
        have n1_ := aM (Kd.R_lower ho53 (below_size (bS HB.out)))
        have n2_ := aM (kB BK291.out hb)
        have n3_ := aM (below_step (bS HB.out) hb)
        clear HO_3
        clear BK291
        clear HB
        have HO_3 := n0_
        have HO324 := n1_
        have BK291 := n2_
        have HB := n3_
        clear n0_ n1_ n2_ n3_
        clear hb ho53
        obtain ⟨Ao54, co54, eo54⟩ := Kd.R_slice HO_3.out
        (first | subst eo54 | (injection eo54 with f1_ f2_ f3_; have f4_ := f1_.symm; have f5_ := f3_.symm; clear f1_ f2_ f3_; subst f4_; subst f5_))
        obtain ⟨Ao55, co55, eo55⟩ := Kd.R_slice HO324.out
        (first | subst eo55 | (injection eo55 with f1_ f2_ f3_; have f4_ := f1_.symm; have f5_ := f3_.symm; clear f1_ f2_ f3_; subst f4_; subst f5_))
        refine hK.out _ _ ⟨(blk_cell BK291.out 0).trans rfl, (blk_cell BK291.out 1).trans rfl, (blk_cell BK291.out 2).trans rfl, (blk_cell BK291.out 3).trans rfl, (blk_cell BK291.out 4).trans rfl, (blk_cell BK291.out 5).trans rfl⟩ (fun hHeld => ?_)
        clear hK K
        refine norm_ (a' := ?_) ?_ ?_
        rotate_left
        ·show Act.put _ (some 59) _ = _
         simp only [Act.put, List.setIfInBounds_toArray, List.set_cons_zero, List.set_cons_succ, i64_w, i32_w]
         rfl
        refine one_ (i := 7) (N := some 60) #[true, true, true, true, true, true, true, true, true, true, false, false, false] rfl rfl (one_of HT_.out (by kernel_rfl)) (by decide) (fun K hK => ?_)
        refine goes_ Try.func39 (by kernel_rfl) rfl #[.slice Ao54 y293.length co54, .slice Ao55 y322.length co55] (by rfl) rfl rfl (by (try simp only [List.map_toArray, List.map_cons, List.map_nil]); first | done | rfl | (simp only [List.length_drop, List.length_take]; rfl)) ?_
        with_reducible refine (impl_putWords.calls _ _ y293 _ _ y322 t325 _ ?side1 ?side2 ?side3 ?side4 A48.out).mono ?_
        (case side1 => exact cR HO_3.out)
        (case side2 => exact (Kd.R_reads' HO_3.out).2.1)
        (case side3 => exact cR HO324.out)
        (case side4 => exact (Kd.R_reads' HO324.out).2.1)
        rintro e w56 ⟨v326, rfl, ho0, hb⟩
        refine ⟨_, rfl, ?_⟩
        have n0_ := aM (Kd.R_elder' (rA HO_3.out) (Kd.R_base ho0) hb)
        have n1_ := aM (rB HO324.out hb)
        have n2_ := aM (Kd.R_lower (Kd.R_new' ho0 (Kd.R_lt (rA HO_3.out))) (below_size (bS HB.out)))
        have n3_ := aM (kB BK291.out hb)
        have n4_ := aM (below_step (bS HB.out) hb)
        clear HO_3
        clear HO324
        clear BK291
        clear HB
        have HO_3 := n0_
        have HO324 := n1_
        have HO327 := n2_
        have BK291 := n3_
        have HB := n4_
        clear n0_ n1_ n2_ n3_ n4_
        (try clear hb)
        (try clear hb2)
        (try clear hk)
        (try clear hi)
        (try clear ho0)
        refine hK.out _ _ ⟨(blk_cell BK291.out 0).trans rfl, (blk_cell BK291.out 1).trans rfl, (blk_cell BK291.out 2).trans rfl, (blk_cell BK291.out 3).trans rfl, (blk_cell BK291.out 4).trans rfl, (blk_cell BK291.out 5).trans rfl⟩ (fun hHeld => ?_)
        clear hK K
        refine norm_ (a' := ?_) ?_ ?_
        rotate_left
        ·show Act.put _ (some 60) _ = _
         simp only [Act.put, List.setIfInBounds_toArray, List.set_cons_zero, List.set_cons_succ, i64_w, i32_w]
         rfl
        refine one_ (i := 10) (N := some 63) #[true, true, true, true, true, true, true, true, true, true, true, false, false] rfl rfl (one_of HT_.out (by kernel_rfl)) (by decide) (fun K hK => ?_)
        refine goes_ Try.func39 (by kernel_rfl) rfl #[.slice none 0 0, .slice A0_3 l0_3.length c0_3] (by rfl) rfl rfl (by (try simp only [List.map_toArray, List.map_cons, List.map_nil]); first | done | rfl | (simp only [List.length_drop, List.length_take]; rfl)) ?_
        refine (impl_putWords.calls _ _ ([] : List Int) _ _ l0_3 t328 _ ?side1 ?side2 ?side3 ?side4 A49.out).mono ?_
        (case side1 => exact Kd.C_nil _ _)
        (case side2 => exact Nat.le_refl _)
        (case side3 => exact cB HR0_3.out HB.out)
        (case side4 => exact HC0_3.out)
        rintro e w57 ⟨v329, rfl, ho0, hb⟩
        refine ⟨_, rfl, ?_⟩
        have n0_ := aM (Kd.R_elder' (rA HO_3.out) (Kd.R_base ho0) hb)
        have n1_ := aM (rB HO324.out hb)
        have n2_ := aM (Kd.R_elder' (rA HO327.out) (Kd.R_base ho0) hb)
        have n3_ := aM (Kd.R_lower (Kd.R_new' (Kd.R_new' ho0 (Kd.R_lt (rA HO_3.out))) (Kd.R_lt (rA HO327.out))) (below_size (bS HB.out)))
        have n4_ := aM (kB BK291.out hb)
        have n5_ := aM (below_step (bS HB.out) hb)
        clear HO_3
        clear HO324
        clear HO327
        clear BK291
        clear HB
        have HO_3 := n0_
        have HO324 := n1_
        have HO327 := n2_
        have HO330 := n3_
        have BK291 := n4_
        have HB := n5_
        clear n0_ n1_ n2_ n3_ n4_ n5_
        (try clear hb)
        (try clear hb2)
        (try clear hk)
        (try clear hi)
        (try clear ho0)
        obtain ⟨Ao58, co58, eo58⟩ := Kd.R_slice HO327.out
        (first | subst eo58 | (injection eo58 with f1_ f2_ f3_; have f4_ := f1_.symm; have f5_ := f3_.symm; clear f1_ f2_ f3_; subst f4_; subst f5_))
        obtain ⟨Ao59, co59, eo59⟩ := Kd.R_slice HO330.out
        (first | subst eo59 | (injection eo59 with f1_ f2_ f3_; have f4_ := f1_.symm; have f5_ := f3_.symm; clear f1_ f2_ f3_; subst f4_; subst f5_))
        refine hK.out _ _ ⟨(blk_cell BK291.out 0).trans rfl, (blk_cell BK291.out 1).trans rfl, (blk_cell BK291.out 2).trans rfl, (blk_cell BK291.out 3).trans rfl, (blk_cell BK291.out 4).trans rfl, (blk_cell BK291.out 5).trans rfl⟩ (fun hHeld => ?_)
        clear hK K
        refine norm_ (a' := ?_) ?_ ?_
        rotate_left
        ·show Act.put _ (some 63) _ = _
         simp only [Act.put, List.setIfInBounds_toArray, List.set_cons_zero, List.set_cons_succ, i64_w, i32_w]
         rfl
        refine one_ (i := 11) (N := some 64) #[true, true, true, true, true, true, true, true, true, true, true, true, false] rfl rfl (one_of HT_.out (by kernel_rfl)) (by decide) (fun K hK => ?_)
        refine goes_ Try.func41 (by kernel_rfl) rfl #[.slice Ao58 t325.length co58, .slice Ao59 t328.length co59] (by rfl) rfl rfl (by (try simp only [List.map_toArray, List.map_cons, List.map_nil]); first | done | rfl | (simp only [List.length_drop, List.length_take]; rfl)) ?_
        with_reducible refine (impl_putCounted.calls _ _ t325 _ _ t328 t331 _ ?side1 ?side2 ?side3 ?side4 A50.out).mono ?_
        (case side1 => exact cR HO327.out)
        (case side2 => exact (Kd.R_reads' HO327.out).2.1)
        (case side3 => exact cR HO330.out)
        (case side4 => exact (Kd.R_reads' HO330.out).2.1)
        rintro e w60 ⟨v332, rfl, ho0, hb⟩
        refine ⟨_, rfl, ?_⟩
        have n0_ := aM (Kd.R_elder' (rA HO_3.out) (Kd.R_base ho0) hb)
        have n1_ := aM (rB HO324.out hb)
        have n2_ := aM (Kd.R_elder' (rA HO327.out) (Kd.R_base ho0) hb)
        have n3_ := aM (Kd.R_elder' (rA HO330.out) (Kd.R_base ho0) hb)
        have n4_ := aM (Kd.R_lower (Kd.R_new' (Kd.R_new' (Kd.R_new' ho0 (Kd.R_lt (rA HO_3.out))) (Kd.R_lt (rA HO327.out))) (Kd.R_lt (rA HO330.out))) (below_size (bS HB.out)))
        have n5_ := aM (kB BK291.out hb)
        have n6_ := aM (below_step (bS HB.out) hb)
        clear HO_3
        clear HO324
        clear HO327
        clear HO330
        clear BK291
        clear HB
        have HO_3 := n0_
        have HO324 := n1_
        have HO327 := n2_
        have HO330 := n3_
        have HO333 := n4_
        have BK291 := n5_
        have HB := n6_
        clear n0_ n1_ n2_ n3_ n4_ n5_ n6_
        (try clear hb)
        (try clear hb2)
        (try clear hk)
        (try clear hi)
        (try clear ho0)
        refine hK.out _ _ ⟨(blk_cell BK291.out 0).trans rfl, (blk_cell BK291.out 1).trans rfl, (blk_cell BK291.out 2).trans rfl, (blk_cell BK291.out 3).trans rfl, (blk_cell BK291.out 4).trans rfl, (blk_cell BK291.out 5).trans rfl⟩ (fun hHeld => ?_)
        clear hK K
        refine norm_ (a' := ?_) ?_ ?_
        rotate_left
        ·show Act.put _ (some 64) _ = _
         simp only [Act.put, List.setIfInBounds_toArray, List.set_cons_zero, List.set_cons_succ, i64_w, i32_w]
         rfl
        refine pure_ (i := 12) (N := some 2) (v := ?_) (a' := ?_) #[true, true, true, true, true, true, true, true, true, true, true, true, true] rfl rfl (any_of HT_.out (by kernel_rfl)) (fun _ _ _ h => h) (Or.inl ⟨by rfl, ?_⟩) ?_ ?_
        rotate_left
        ·intro w'
         go_simp
         with_reducible rfl
        rotate_left
        ·simp only [Act.put, List.setIfInBounds_toArray, List.set_cons_zero, List.set_cons_succ, i64_w, i32_w]
         rfl
        refine done_ (done_of HT_.out (by kernel_rfl)) ?_
        try go_wp2
        go_ret
        exact ⟨_, by first | rfl | (simp [errW_none, errW_some] <;> rfl) | (simp [*, errW_none, errW_some] <;> rfl), by (with_reducible repeat (first | apply Kd.R_alloc | apply Kd.R_drewN | apply Kd.R_drew)); exact Kd.R_mono HO333.out (fun _ hk => trivial), bS HB.out⟩
       ·rw [if_neg c47] at H
        have c47b0 : (a0_0 == 16) = false := beq_eq_false_iff_ne.mpr c47
        have c47b1 : (a0_0 != 16) = true := bne_iff_ne.mpr c47
        by_cases c61 : a0_0 = 23
        ·rw [if_pos c61] at H
         have c61b0 : (a0_0 == 23) = true := beq_iff_eq.mpr c61
         have c61b1 : (a0_0 != 23) = false := bne_eq_false_iff_eq.mpr c61
         clear c61
         obtain ⟨y334, hy334⟩ : ∃ y_ : List Int, y_ = (([a0_1, a0_2, a0_5, (l0_3.length : Int)] : List Int)) := ⟨_, rfl⟩
         replace H : ((impl_putWords.f y293 y334).bind fun t337 => ((impl_putWords.f ([] : List Int) l0_3).bind fun t340 => ((impl_putCounted.f t337 t340).bind fun t343 => (some t343)))) = some r := by first | (rw [hy334]; with_reducible exact H) | (have H2_ := (Option.bind_some _ _).symm.trans H; rw [hy334]; with_reducible exact H2_) | (have H2_ := (Option.bind_some _ _).symm.trans H; with_reducible exact H2_) | with_reducible exact H | (rw [hy334]; exact H) | exact H
         have Ny334 := aM hy334
         clear hy334
         replace H := Option.bind_eq_some_iff.mp H
         obtain ⟨t337, A620, H⟩ := H
         replace H : ((impl_putWords.f ([] : List Int) l0_3).bind fun t340 => ((impl_putCounted.f t337 t340).bind fun t343 => (some t343))) = some r := H
         have A62 := aM A620
         clear A620
         replace H := Option.bind_eq_some_iff.mp H
         obtain ⟨t340, A630, H⟩ := H
         replace H : ((impl_putCounted.f t337 t340).bind fun t343 => (some t343)) = some r := H
         have A63 := aM A630
         clear A630
         replace H := Option.bind_eq_some_iff.mp H
         obtain ⟨t343, A640, H⟩ := H
         replace H : (some t343) = some r := H
         have A64 := aM A640
         clear A640
         obtain rfl := Option.some.inj H
         try go_wp2
         have n0_ := aM (Kd.R_drew HO_3.out)
         have n1_ := aM (blk_drew BK291.out)
         have n2_ := aM (below_drew1 HB.out)
         clear HO_3
         clear BK291
         clear HB
         have HO_3 := n0_
         have BK291 := n1_
         have HB := n2_
         clear n0_ n1_ n2_
         refine start_ (n := 17) (S := fun w' => w'.cell? ⟨gb291, 0, none⟩ = some (.int .i64 a0_0) ∧ w'.cell? ⟨gb291, 1, none⟩ = some (.int .i64 a0_1) ∧ w'.cell? ⟨gb291, 2, none⟩ = some (.int .i64 a0_2) ∧ w'.cell? ⟨gb291, 3, none⟩ = some (.slice A0_3 l0_3.length c0_3) ∧ w'.cell? ⟨gb291, 4, none⟩ = some (.slice A0_4 l0_4.length c0_4) ∧ w'.cell? ⟨gb291, 5, none⟩ = some (.int .i64 a0_5)) (ds := []) #[false, false, false, false, false, false, false, false, false, false, false, false, false, false, false, false, false] (by kernel_rfl) rfl rfl ⟨(blk_cell BK291.out 0).trans rfl, (blk_cell BK291.out 1).trans rfl, (blk_cell BK291.out 2).trans rfl, (blk_cell BK291.out 3).trans rfl, (blk_cell BK291.out 4).trans rfl, (blk_cell BK291.out 5).trans rfl⟩ (fun hHeld => ?_); refine with_tabW impl_PutReq.tab17 impl_PutReq.bits17 (fun HT_ HW_ => ?_)
         generalize wc.drew = w65 at HO_3 BK291 HB hHeld ⊢
         refine pure_ (i := 0) (N := some 67) (v := ?_) (a' := ?_) #[true, false, false, false, false, false, false, false, false, false, false, false, false, false, false, false, false] rfl rfl (any_of HT_.out (by kernel_rfl)) (fun _ _ _ h => h) (Or.inl ⟨by rfl, ?_⟩) ?_ ?_
         rotate_left
         ·intro w'
          go_simp
          with_reducible rfl
         rotate_left
         ·simp only [Act.put, List.setIfInBounds_toArray, List.set_cons_zero, List.set_cons_succ, i64_w, i32_w]
          rfl
         refine pure_ (i := 1) (N := some 68) (v := ?_) (a' := ?_) #[true, true, false, false, false, false, false, false, false, false, false, false, false, false, false, false, false] rfl rfl (any_of HT_.out (by kernel_rfl)) (fun _ _ _ h => h) (Or.inl ⟨by rfl, ?_⟩) ?_ ?_
         rotate_left
         ·intro w'
          go_simp
          with_reducible rfl
         rotate_left
         ·simp only [Act.put, List.setIfInBounds_toArray, List.set_cons_zero, List.set_cons_succ, i64_w, i32_w]
          rfl
         refine pure_ (i := 3) (N := some 70) (v := ?_) (a' := ?_) #[true, true, false, true, false, false, false, false, false, false, false, false, false, false, false, false, false] rfl rfl (any_of HT_.out (by kernel_rfl)) (fun _ _ _ h => h) (Or.inl ⟨by rfl, ?_⟩) ?_ ?_
         rotate_left
         ·intro w'
          go_simp
          with_reducible rfl
         rotate_left
         ·simp only [Act.put, List.setIfInBounds_toArray, List.set_cons_zero, List.set_cons_succ, i64_w, i32_w]
          rfl
         refine pure_ (i := 5) (N := some 72) (v := ?_) (a' := ?_) #[true, true, false, true, false, true, false, false, false, false, false, false, false, false, false, false, false] rfl rfl (any_of HT_.out (by kernel_rfl)) (fun _ _ _ h => h) (Or.inl ⟨by rfl, ?_⟩) ?_ ?_
         rotate_left
         ·intro w'
          go_simp
          with_reducible rfl
         rotate_left
         ·simp only [Act.put, List.setIfInBounds_toArray, List.set_cons_zero, List.set_cons_succ, i64_w, i32_w]
          rfl
         refine pure_ (i := 7) (N := some 74) (v := ?_) (a' := ?_) #[true, true, false, true, false, true, false, true, false, false, false, false, false, false, false, false, false] rfl rfl (any_of HT_.out (by kernel_rfl)) (fun _ _ _ h => h) (Or.inl ⟨by rfl, ?_⟩) ?_ ?_
         rotate_left
         ·intro w'
          go_simp
          with_reducible rfl
         rotate_left
         ·simp only [Act.put, List.setIfInBounds_toArray, List.set_cons_zero, List.set_cons_succ, i64_w, i32_w]
          rfl
         refine pure_ (i := 12) (N := some 79) (v := ?_) (a' := ?_) #[true, true, false, true, false, true, false, true, false, false, false, false, true, false, false, false, false] rfl rfl (any_of HT_.out (by kernel_rfl)) (fun _ _ _ h => h) (Or.inl ⟨by rfl, ?_⟩) ?_ ?_
         rotate_left
         ·intro w'
          go_simp
          with_reducible rfl
         rotate_left
         ·simp only [Act.put, List.setIfInBounds_toArray, List.set_cons_zero, List.set_cons_succ, i64_w, i32_w]
          rfl
         refine take_ (i := 2) (N := some 69) (v := ?_) (a' := ?_) #[true, true, true, true, false, true, false, true, false, false, false, false, true, false, false, false, false] rfl rfl (take_ofW HT_.out HW_.out (by kernel_rfl)) (fun _ _ _ h => h) (Or.inl ⟨by rfl, ?_⟩) hHeld ?_ ?_
         rotate_left
         ·rintro w' ⟨s0, s1, s2, s3, s4, s5⟩
          go_simp
          with_reducible rfl
         rotate_left
         ·simp only [Act.put, List.setIfInBounds_toArray, List.set_cons_zero, List.set_cons_succ, i64_w, i32_w]
          rfl
         refine take_ (i := 4) (N := some 71) (v := ?_) (a' := ?_) #[true, true, true, true, true, true, false, true, false, false, false, false, true, false, false, false, false] rfl rfl (take_ofW HT_.out HW_.out (by kernel_rfl)) (fun _ _ _ h => h) (Or.inl ⟨by rfl, ?_⟩) hHeld ?_ ?_
         rotate_left
         ·rintro w' ⟨s0, s1, s2, s3, s4, s5⟩
          go_simp
          with_reducible rfl
         rotate_left
         ·simp only [Act.put, List.setIfInBounds_toArray, List.set_cons_zero, List.set_cons_succ, i64_w, i32_w]
          rfl
         refine take_ (i := 6) (N := some 73) (v := ?_) (a' := ?_) #[true, true, true, true, true, true, true, true, false, false, false, false, true, false, false, false, false] rfl rfl (take_ofW HT_.out HW_.out (by kernel_rfl)) (fun _ _ _ h => h) (Or.inl ⟨by rfl, ?_⟩) hHeld ?_ ?_
         rotate_left
         ·rintro w' ⟨s0, s1, s2, s3, s4, s5⟩
          go_simp
          with_reducible rfl
         rotate_left
         ·simp only [Act.put, List.setIfInBounds_toArray, List.set_cons_zero, List.set_cons_succ, i64_w, i32_w]
          rfl
         refine take_ (i := 8) (N := some 75) (v := ?_) (a' := ?_) #[true, true, true, true, true, true, true, true, true, false, false, false, true, false, false, false, false] rfl rfl (take_ofW HT_.out HW_.out (by kernel_rfl)) (fun _ _ _ h => h) (Or.inl ⟨by rfl, ?_⟩) hHeld ?_ ?_
         rotate_left
         ·rintro w' ⟨s0, s1, s2, s3, s4, s5⟩
          go_simp
          with_reducible rfl
         rotate_left
         ·simp only [Act.put, List.setIfInBounds_toArray, List.set_cons_zero, List.set_cons_succ, i64_w, i32_w]
          rfl
         refine pure_ (i := 9) (N := some 76) (v := ?_) (a' := ?_) #[true, true, true, true, true, true, true, true, true, true, false, false, true, false, false, false, false] rfl rfl (any_of HT_.out (by kernel_rfl)) (fun _ _ _ h => h) (Or.inl ⟨by rfl, ?_⟩) ?_ ?_
         rotate_left
         ·intro w'
          go_simp
          with_reducible rfl
         rotate_left
         ·simp only [Act.put, List.setIfInBounds_toArray, List.set_cons_zero, List.set_cons_succ, i64_w, i32_w]
          rfl
         refine take_ (i := 13) (N := some 80) (v := ?_) (a' := ?_) #[true, true, true, true, true, true, true, true, true, true, false, false, true, true, false, false, false] rfl rfl (take_ofW HT_.out HW_.out (by kernel_rfl)) (fun _ _ _ h => h) (Or.inl ⟨by rfl, ?_⟩) hHeld ?_ ?_
         rotate_left
         ·rintro w' ⟨s0, s1, s2, s3, s4, s5⟩
          go_simp
          with_reducible rfl
         rotate_left
         ·simp only [Act.put, List.setIfInBounds_toArray, List.set_cons_zero, List.set_cons_succ, i64_w, i32_w]
          rfl
         refine one_ (i := 10) (N := some 77) #[true, true, true, true, true, true, true, true, true, true, true, false, true, true, false, false, false] rfl rfl (one_of HT_.out (by kernel_rfl)) (by decide) (fun K hK => ?_)
         refine Kd.R_lit_step (Kd.int .i64) _ 3 ?hg (N := 77) ?hd (xs := ([a0_1, a0_2, a0_5, (l0_3.length : Int)] : List Int)) (inner := [.int .i64 a0_1, .int .i64 a0_2, .int .i64 a0_5, .int .i64 (l0_3.length : Int)]) (ok := fun _ => True) (okp := fun _ => True) ?hr ?hp (fun _ hk => hk) trivial (Below.refl _ _) (Nat.le_refl _) (by simp) ?_; (case hd => rfl); (case hg => rfl); (case hr => first | (go_simp; done) | (go_simp; rfl)); (case hp => exact (Reps.one (show Kd.M (Kd.int .i64) _ _ _ a0_1 [.int .i64 a0_1] from rfl) (Reps.one (show Kd.M (Kd.int .i64) _ _ _ a0_2 [.int .i64 a0_2] from rfl) (Reps.one (show Kd.M (Kd.int .i64) _ _ _ a0_5 [.int .i64 a0_5] from rfl) (Reps.one (show Kd.M (Kd.int .i64) _ _ _ (l0_3.length : Int) [.int .i64 (l0_3.length : Int)] from rfl) (Reps.none _ _))))))
         intro v335 w66 ho67 hb hg_ hnew_
         clear hg_ hnew_
         (first | rw [← Ny334.out] at ho67 | (simp only [Int.reduceToNat] at ho67; rw [← Ny334.out] at ho67))
         have n0_ := aM (rB HO_3.out hb)
         have n1_ := aM (Kd.R_lower ho67 (below_size (bS HB.out)))
         have n2_ := aM (kB BK291.out hb)
         have n3_ := aM (below_step (bS HB.out) hb)
         clear HO_3
         clear BK291
         clear HB
         have HO_3 := n0_
         have HO336 := n1_
         have BK291 := n2_
         have HB := n3_
         clear n0_ n1_ n2_ n3_
         clear hb ho67
         obtain ⟨Ao68, co68, eo68⟩ := Kd.R_slice HO_3.out
         (first | subst eo68 | (injection eo68 with f1_ f2_ f3_; have f4_ := f1_.symm; have f5_ := f3_.symm; clear f1_ f2_ f3_; subst f4_; subst f5_))
         obtain ⟨Ao69, co69, eo69⟩ := Kd.R_slice HO336.out
         (first | subst eo69 | (injection eo69 with f1_ f2_ f3_; have f4_ := f1_.symm; have f5_ := f3_.symm; clear f1_ f2_ f3_; subst f4_; subst f5_))
         refine hK.out _ _ ⟨(blk_cell BK291.out 0).trans rfl, (blk_cell BK291.out 1).trans rfl, (blk_cell BK291.out 2).trans rfl, (blk_cell BK291.out 3).trans rfl, (blk_cell BK291.out 4).trans rfl, (blk_cell BK291.out 5).trans rfl⟩ (fun hHeld => ?_)
         clear hK K
         refine norm_ (a' := ?_) ?_ ?_
         rotate_left
         ·show Act.put _ (some 77) _ = _
          simp only [Act.put, List.setIfInBounds_toArray, List.set_cons_zero, List.set_cons_succ, i64_w, i32_w]
          rfl
         refine one_ (i := 11) (N := some 78) #[true, true, true, true, true, true, true, true, true, true, true, true, true, true, false, false, false] rfl rfl (one_of HT_.out (by kernel_rfl)) (by decide) (fun K hK => ?_)
         refine goes_ Try.func39 (by kernel_rfl) rfl #[.slice Ao68 y293.length co68, .slice Ao69 y334.length co69] (by rfl) rfl rfl (by (try simp only [List.map_toArray, List.map_cons, List.map_nil]); first | done | rfl | (simp only [List.length_drop, List.length_take]; rfl)) ?_
         with_reducible refine (impl_putWords.calls _ _ y293 _ _ y334 t337 _ ?side1 ?side2 ?side3 ?side4 A62.out).mono ?_
         (case side1 => exact cR HO_3.out)
         (case side2 => exact (Kd.R_reads' HO_3.out).2.1)
         (case side3 => exact cR HO336.out)
         (case side4 => exact (Kd.R_reads' HO336.out).2.1)
         rintro e w70 ⟨v338, rfl, ho0, hb⟩
         refine ⟨_, rfl, ?_⟩
         have n0_ := aM (Kd.R_elder' (rA HO_3.out) (Kd.R_base ho0) hb)
         have n1_ := aM (rB HO336.out hb)
         have n2_ := aM (Kd.R_lower (Kd.R_new' ho0 (Kd.R_lt (rA HO_3.out))) (below_size (bS HB.out)))
         have n3_ := aM (kB BK291.out hb)
         have n4_ := aM (below_step (bS HB.out) hb)
         clear HO_3
         clear HO336
         clear BK291
         clear HB
         have HO_3 := n0_
         have HO336 := n1_
         have HO339 := n2_
         have BK291 := n3_
         have HB := n4_
         clear n0_ n1_ n2_ n3_ n4_
         (try clear hb)
         (try clear hb2)
         (try clear hk)
         (try clear hi)
         (try clear ho0)
         refine hK.out _ _ ⟨(blk_cell BK291.out 0).trans rfl, (blk_cell BK291.out 1).trans rfl, (blk_cell BK291.out 2).trans rfl, (blk_cell BK291.out 3).trans rfl, (blk_cell BK291.out 4).trans rfl, (blk_cell BK291.out 5).trans rfl⟩ (fun hHeld => ?_)
         clear hK K
         refine norm_ (a' := ?_) ?_ ?_
         rotate_left
         ·show Act.put _ (some 78) _ = _
          simp only [Act.put, List.setIfInBounds_toArray, List.set_cons_zero, List.set_cons_succ, i64_w, i32_w]
          rfl
         refine one_ (i := 14) (N := some 81) #[true, true, true, true, true, true, true, true, true, true, true, true, true, true, true, false, false] rfl rfl (one_of HT_.out (by kernel_rfl)) (by decide) (fun K hK => ?_)
         refine goes_ Try.func39 (by kernel_rfl) rfl #[.slice none 0 0, .slice A0_3 l0_3.length c0_3] (by rfl) rfl rfl (by (try simp only [List.map_toArray, List.map_cons, List.map_nil]); first | done | rfl | (simp only [List.length_drop, List.length_take]; rfl)) ?_
         refine (impl_putWords.calls _ _ ([] : List Int) _ _ l0_3 t340 _ ?side1 ?side2 ?side3 ?side4 A63.out).mono ?_
         (case side1 => exact Kd.C_nil _ _)
         (case side2 => exact Nat.le_refl _)
         (case side3 => exact cB HR0_3.out HB.out)
         (case side4 => exact HC0_3.out)
         rintro e w71 ⟨v341, rfl, ho0, hb⟩
         refine ⟨_, rfl, ?_⟩
         have n0_ := aM (Kd.R_elder' (rA HO_3.out) (Kd.R_base ho0) hb)
         have n1_ := aM (rB HO336.out hb)
         have n2_ := aM (Kd.R_elder' (rA HO339.out) (Kd.R_base ho0) hb)
         have n3_ := aM (Kd.R_lower (Kd.R_new' (Kd.R_new' ho0 (Kd.R_lt (rA HO_3.out))) (Kd.R_lt (rA HO339.out))) (below_size (bS HB.out)))
         have n4_ := aM (kB BK291.out hb)
         have n5_ := aM (below_step (bS HB.out) hb)
         clear HO_3
         clear HO336
         clear HO339
         clear BK291
         clear HB
         have HO_3 := n0_
         have HO336 := n1_
         have HO339 := n2_
         have HO342 := n3_
         have BK291 := n4_
         have HB := n5_
         clear n0_ n1_ n2_ n3_ n4_ n5_
         (try clear hb)
         (try clear hb2)
         (try clear hk)
         (try clear hi)
         (try clear ho0)
         obtain ⟨Ao72, co72, eo72⟩ := Kd.R_slice HO339.out
         (first | subst eo72 | (injection eo72 with f1_ f2_ f3_; have f4_ := f1_.symm; have f5_ := f3_.symm; clear f1_ f2_ f3_; subst f4_; subst f5_))
         obtain ⟨Ao73, co73, eo73⟩ := Kd.R_slice HO342.out
         (first | subst eo73 | (injection eo73 with f1_ f2_ f3_; have f4_ := f1_.symm; have f5_ := f3_.symm; clear f1_ f2_ f3_; subst f4_; subst f5_))
         refine hK.out _ _ ⟨(blk_cell BK291.out 0).trans rfl, (blk_cell BK291.out 1).trans rfl, (blk_cell BK291.out 2).trans rfl, (blk_cell BK291.out 3).trans rfl, (blk_cell BK291.out 4).trans rfl, (blk_cell BK291.out 5).trans rfl⟩ (fun hHeld => ?_)
         clear hK K
         refine norm_ (a' := ?_) ?_ ?_
         rotate_left
         ·show Act.put _ (some 81) _ = _
          simp only [Act.put, List.setIfInBounds_toArray, List.set_cons_zero, List.set_cons_succ, i64_w, i32_w]
          rfl
         refine one_ (i := 15) (N := some 82) #[true, true, true, true, true, true, true, true, true, true, true, true, true, true, true, true, false] rfl rfl (one_of HT_.out (by kernel_rfl)) (by decide) (fun K hK => ?_)
         refine goes_ Try.func41 (by kernel_rfl) rfl #[.slice Ao72 t337.length co72, .slice Ao73 t340.length co73] (by rfl) rfl rfl (by (try simp only [List.map_toArray, List.map_cons, List.map_nil]); first | done | rfl | (simp only [List.length_drop, List.length_take]; rfl)) ?_
         with_reducible refine (impl_putCounted.calls _ _ t337 _ _ t340 t343 _ ?side1 ?side2 ?side3 ?side4 A64.out).mono ?_
         (case side1 => exact cR HO339.out)
         (case side2 => exact (Kd.R_reads' HO339.out).2.1)
         (case side3 => exact cR HO342.out)
         (case side4 => exact (Kd.R_reads' HO342.out).2.1)
         rintro e w74 ⟨v344, rfl, ho0, hb⟩
         refine ⟨_, rfl, ?_⟩
         have n0_ := aM (Kd.R_elder' (rA HO_3.out) (Kd.R_base ho0) hb)
         have n1_ := aM (rB HO336.out hb)
         have n2_ := aM (Kd.R_elder' (rA HO339.out) (Kd.R_base ho0) hb)
         have n3_ := aM (Kd.R_elder' (rA HO342.out) (Kd.R_base ho0) hb)
         have n4_ := aM (Kd.R_lower (Kd.R_new' (Kd.R_new' (Kd.R_new' ho0 (Kd.R_lt (rA HO_3.out))) (Kd.R_lt (rA HO339.out))) (Kd.R_lt (rA HO342.out))) (below_size (bS HB.out)))
         have n5_ := aM (kB BK291.out hb)
         have n6_ := aM (below_step (bS HB.out) hb)
         clear HO_3
         clear HO336
         clear HO339
         clear HO342
         clear BK291
         clear HB
         have HO_3 := n0_
         have HO336 := n1_
         have HO339 := n2_
         have HO342 := n3_
         have HO345 := n4_
         have BK291 := n5_
         have HB := n6_
         clear n0_ n1_ n2_ n3_ n4_ n5_ n6_
         (try clear hb)
         (try clear hb2)
         (try clear hk)
         (try clear hi)
         (try clear ho0)
         refine hK.out _ _ ⟨(blk_cell BK291.out 0).trans rfl, (blk_cell BK291.out 1).trans rfl, (blk_cell BK291.out 2).trans rfl, (blk_cell BK291.out 3).trans rfl, (blk_cell BK291.out 4).trans rfl, (blk_cell BK291.out 5).trans rfl⟩ (fun hHeld => ?_)
         clear hK K
         refine norm_ (a' := ?_) ?_ ?_
         rotate_left
         ·show Act.put _ (some 82) _ = _
          simp only [Act.put, List.setIfInBounds_toArray, List.set_cons_zero, List.set_cons_succ, i64_w, i32_w]
          rfl
         refine pure_ (i := 16) (N := some 2) (v := ?_) (a' := ?_) #[true, true, true, true, true, true, true, true, true, true, true, true, true, true, true, true, true] rfl rfl (any_of HT_.out (by kernel_rfl)) (fun _ _ _ h => h) (Or.inl ⟨by rfl, ?_⟩) ?_ ?_
         rotate_left
         ·intro w'
          go_simp
          with_reducible rfl
         rotate_left
         ·simp only [Act.put, List.setIfInBounds_toArray, List.set_cons_zero, List.set_cons_succ, i64_w, i32_w]
          rfl
         refine done_ (done_of HT_.out (by kernel_rfl)) ?_
         try go_wp2
         go_ret
         exact ⟨_, by first | rfl | (simp [errW_none, errW_some] <;> rfl) | (simp [*, errW_none, errW_some] <;> rfl), by (with_reducible repeat (first | apply Kd.R_alloc | apply Kd.R_drewN | apply Kd.R_drew)); exact Kd.R_mono HO345.out (fun _ hk => trivial), bS HB.out⟩
        ·rw [if_neg c61] at H
         have c61b0 : (a0_0 == 23) = false := beq_eq_false_iff_ne.mpr c61
         have c61b1 : (a0_0 != 23) = true := bne_iff_ne.mpr c61
         obtain ⟨y346, hy346⟩ : ∃ y_ : List Int, y_ = (([a0_1] : List Int)) := ⟨_, rfl⟩
         replace H : ((impl_putWords.f y293 y346).bind fun t349 => ((impl_putWords.f t349 l0_3).bind fun t352 => (some t352))) = some r := by first | (rw [hy346]; with_reducible exact H) | (have H2_ := (Option.bind_some _ _).symm.trans H; rw [hy346]; with_reducible exact H2_) | (have H2_ := (Option.bind_some _ _).symm.trans H; with_reducible exact H2_) | with_reducible exact H | (rw [hy346]; exact H) | exact H
         have Ny346 := aM hy346
         clear hy346
         replace H := Option.bind_eq_some_iff.mp H
         obtain ⟨t349, A750, H⟩ := H
         replace H : ((impl_putWords.f t349 l0_3).bind fun t352 => (some t352)) = some r := H
         have A75 := aM A750
         clear A750
         replace H := Option.bind_eq_some_iff.mp H
         obtain ⟨t352, A760, H⟩ := H
         replace H : (some t352) = some r := H
         have A76 := aM A760
         clear A760
         obtain rfl := Option.some.inj H
         try go_wp2
         have n0_ := aM (Kd.R_drew HO_3.out)
         have n1_ := aM (blk_drew BK291.out)
         have n2_ := aM (below_drew1 HB.out)
         clear HO_3
         clear BK291
         clear HB
         have HO_3 := n0_
         have BK291 := n1_
         have HB := n2_
         clear n0_ n1_ n2_
         refine start_ (n := 9) (S := fun w' => w'.cell? ⟨gb291, 0, none⟩ = some (.int .i64 a0_0) ∧ w'.cell? ⟨gb291, 1, none⟩ = some (.int .i64 a0_1) ∧ w'.cell? ⟨gb291, 2, none⟩ = some (.int .i64 a0_2) ∧ w'.cell? ⟨gb291, 3, none⟩ = some (.slice A0_3 l0_3.length c0_3) ∧ w'.cell? ⟨gb291, 4, none⟩ = some (.slice A0_4 l0_4.length c0_4) ∧ w'.cell? ⟨gb291, 5, none⟩ = some (.int .i64 a0_5)) (ds := []) #[false, false, false, false, false, false, false, false, false] (by kernel_rfl) rfl rfl ⟨(blk_cell BK291.out 0).trans rfl, (blk_cell BK291.out 1).trans rfl, (blk_cell BK291.out 2).trans rfl, (blk_cell BK291.out 3).trans rfl, (blk_cell BK291.out 4).trans rfl, (blk_cell BK291.out 5).trans rfl⟩ (fun hHeld => ?_); refine with_tabW impl_PutReq.tab18 impl_PutReq.bits18 (fun HT_ HW_ => ?_)
         generalize wc.drew = w77 at HO_3 BK291 HB hHeld ⊢
         refine pure_ (i := 0) (N := some 83) (v := ?_) (a' := ?_) #[true, false, false, false, false, false, false, false, false] rfl rfl (any_of HT_.out (by kernel_rfl)) (fun _ _ _ h => h) (Or.inl ⟨by rfl, ?_⟩) ?_ ?_
         rotate_left
         ·intro w'
          go_simp
          with_reducible rfl
         rotate_left
         ·simp only [Act.put, List.setIfInBounds_toArray, List.set_cons_zero, List.set_cons_succ, i64_w, i32_w]
          rfl
         refine pure_ (i := 1) (N := some 84) (v := ?_) (a' := ?_) #[true, true, false, false, false, false, false, false, false] rfl rfl (any_of HT_.out (by kernel_rfl)) (fun _ _ _ h => h) (Or.inl ⟨by rfl, ?_⟩) ?_ ?_
         rotate_left
         ·intro w'
          go_simp
          with_reducible rfl
         rotate_left
         ·simp only [Act.put, List.setIfInBounds_toArray, List.set_cons_zero, List.set_cons_succ, i64_w, i32_w]
          rfl
         refine pure_ (i := 5) (N := some 88) (v := ?_) (a' := ?_) #[true, true, false, false, false, true, false, false, false] rfl rfl (any_of HT_.out (by kernel_rfl)) (fun _ _ _ h => h) (Or.inl ⟨by rfl, ?_⟩) ?_ ?_
         rotate_left
         ·intro w'
          go_simp
          with_reducible rfl
         rotate_left
         ·simp only [Act.put, List.setIfInBounds_toArray, List.set_cons_zero, List.set_cons_succ, i64_w, i32_w]
          rfl
         refine take_ (i := 2) (N := some 85) (v := ?_) (a' := ?_) #[true, true, true, false, false, true, false, false, false] rfl rfl (take_ofW HT_.out HW_.out (by kernel_rfl)) (fun _ _ _ h => h) (Or.inl ⟨by rfl, ?_⟩) hHeld ?_ ?_
         rotate_left
         ·rintro w' ⟨s0, s1, s2, s3, s4, s5⟩
          go_simp
          with_reducible rfl
         rotate_left
         ·simp only [Act.put, List.setIfInBounds_toArray, List.set_cons_zero, List.set_cons_succ, i64_w, i32_w]
          rfl
         refine take_ (i := 6) (N := some 89) (v := ?_) (a' := ?_) #[true, true, true, false, false, true, true, false, false] rfl rfl (take_ofW HT_.out HW_.out (by kernel_rfl)) (fun _ _ _ h => h) (Or.inl ⟨by rfl, ?_⟩) hHeld ?_ ?_
         rotate_left
         ·rintro w' ⟨s0, s1, s2, s3, s4, s5⟩
          go_simp
          with_reducible rfl
         rotate_left
         ·simp only [Act.put, List.setIfInBounds_toArray, List.set_cons_zero, List.set_cons_succ, i64_w, i32_w]
          rfl
         refine one_ (i := 3) (N := some 86) #[true, true, true, true, false, true, true, false, false] rfl rfl (one_of HT_.out (by kernel_rfl)) (by decide) (fun K hK => ?_)
         refine Kd.R_lit_step (Kd.int .i64) _ 3 ?hg (N := 86) ?hd (xs := ([a0_1] : List Int)) (inner := [.int .i64 a0_1]) (ok := fun _ => True) (okp := fun _ => True) ?hr ?hp (fun _ hk => hk) trivial (Below.refl _ _) (Nat.le_refl _) (by simp) ?_; (case hd => rfl); (case hg => rfl); (case hr => first | (go_simp; done) | (go_simp; rfl)); (case hp => exact (Reps.one (show Kd.M (Kd.int .i64) _ _ _ a0_1 [.int .i64 a0_1] from rfl) (Reps.none _ _)))
         intro v347 w78 ho79 hb hg_ hnew_
         clear hg_ hnew_
         (first | rw [← Ny346.out] at ho79 | (simp only [Int.reduceToNat] at ho79; rw [← Ny346.out] at ho79))
         have n0_ := aM (rB HO_3.out hb)
         have n1_ := aM (Kd.R_lower ho79 (below_size (bS HB.out)))
         have n2_ := aM (kB BK291.out hb)
         have n3_ := aM (below_step (bS HB.out) hb)
         clear HO_3
         clear BK291
         clear HB
         have HO_3 := n0_
         have HO348 := n1_
         have BK291 := n2_
         have HB := n3_
         clear n0_ n1_ n2_ n3_
         clear hb ho79
         obtain ⟨Ao80, co80, eo80⟩ := Kd.R_slice HO_3.out
         (first | subst eo80 | (injection eo80 with f1_ f2_ f3_; have f4_ := f1_.symm; have f5_ := f3_.symm; clear f1_ f2_ f3_; subst f4_; subst f5_))
         obtain ⟨Ao81, co81, eo81⟩ := Kd.R_slice HO348.out
         (first | subst eo81 | (injection eo81 with f1_ f2_ f3_; have f4_ := f1_.symm; have f5_ := f3_.symm; clear f1_ f2_ f3_; subst f4_; subst f5_))
         refine hK.out _ _ ⟨(blk_cell BK291.out 0).trans rfl, (blk_cell BK291.out 1).trans rfl, (blk_cell BK291.out 2).trans rfl, (blk_cell BK291.out 3).trans rfl, (blk_cell BK291.out 4).trans rfl, (blk_cell BK291.out 5).trans rfl⟩ (fun hHeld => ?_)
         clear hK K
         refine norm_ (a' := ?_) ?_ ?_
         rotate_left
         ·show Act.put _ (some 86) _ = _
          simp only [Act.put, List.setIfInBounds_toArray, List.set_cons_zero, List.set_cons_succ, i64_w, i32_w]
          rfl
         refine one_ (i := 4) (N := some 87) #[true, true, true, true, true, true, true, false, false] rfl rfl (one_of HT_.out (by kernel_rfl)) (by decide) (fun K hK => ?_)
         refine goes_ Try.func39 (by kernel_rfl) rfl #[.slice Ao80 y293.length co80, .slice Ao81 y346.length co81] (by rfl) rfl rfl (by (try simp only [List.map_toArray, List.map_cons, List.map_nil]); first | done | rfl | (simp only [List.length_drop, List.length_take]; rfl)) ?_
         with_reducible refine (impl_putWords.calls _ _ y293 _ _ y346 t349 _ ?side1 ?side2 ?side3 ?side4 A75.out).mono ?_
         (case side1 => exact cR HO_3.out)
         (case side2 => exact (Kd.R_reads' HO_3.out).2.1)
         (case side3 => exact cR HO348.out)
         (case side4 => exact (Kd.R_reads' HO348.out).2.1)
         rintro e w82 ⟨v350, rfl, ho0, hb⟩
         refine ⟨_, rfl, ?_⟩
         have n0_ := aM (Kd.R_elder' (rA HO_3.out) (Kd.R_base ho0) hb)
         have n1_ := aM (rB HO348.out hb)
         have n2_ := aM (Kd.R_lower (Kd.R_new' ho0 (Kd.R_lt (rA HO_3.out))) (below_size (bS HB.out)))
         have n3_ := aM (kB BK291.out hb)
         have n4_ := aM (below_step (bS HB.out) hb)
         clear HO_3
         clear HO348
         clear BK291
         clear HB
         have HO_3 := n0_
         have HO348 := n1_
         have HO351 := n2_
         have BK291 := n3_
         have HB := n4_
         clear n0_ n1_ n2_ n3_ n4_
         (try clear hb)
         (try clear hb2)
         (try clear hk)
         (try clear hi)
         (try clear ho0)
         obtain ⟨Ao83, co83, eo83⟩ := Kd.R_slice HO351.out
         (first | subst eo83 | (injection eo83 with f1_ f2_ f3_; have f4_ := f1_.symm; have f5_ := f3_.symm; clear f1_ f2_ f3_; subst f4_; subst f5_))
         refine hK.out _ _ ⟨(blk_cell BK291.out 0).trans rfl, (blk_cell BK291.out 1).trans rfl, (blk_cell BK291.out 2).trans rfl, (blk_cell BK291.out 3).trans rfl, (blk_cell BK291.out 4).trans rfl, (blk_cell BK291.out 5).trans rfl⟩ (fun hHeld => ?_)
         clear hK K
         refine norm_ (a' := ?_) ?_ ?_
         rotate_left
         ·show Act.put _ (some 87) _ = _
          simp only [Act.put, List.setIfInBounds_toArray, List.set_cons_zero, List.set_cons_succ, i64_w, i32_w]
          rfl
         refine one_ (i := 7) (N := some 90) #[true, true, true, true, true, true, true, true, false] rfl rfl (one_of HT_.out (by kernel_rfl)) (by decide) (fun K hK => ?_)
         refine goes_ Try.func39 (by kernel_rfl) rfl #[.slice Ao83 t349.length co83, .slice A0_3 l0_3.length c0_3] (by rfl) rfl rfl (by (try simp only [List.map_toArray, List.map_cons, List.map_nil]); first | done | rfl | (simp only [List.length_drop, List.length_take]; rfl)) ?_
         with_reducible refine (impl_putWords.calls _ _ t349 _ _ l0_3 t352 _ ?side1 ?side2 ?side3 ?side4 A76.out).mono ?_
         (case side1 => exact cR HO351.out)
         (case side2 => exact (Kd.R_reads' HO351.out).2.1)
         (case side3 => exact cB HR0_3.out HB.out)
         (case side4 => exact HC0_3.out)
         rintro e w84 ⟨v353, rfl, ho0, hb⟩
         refine ⟨_, rfl, ?_⟩
         have n0_ := aM (Kd.R_elder' (rA HO_3.out) (Kd.R_base ho0) hb)
         have n1_ := aM (rB HO348.out hb)
         have n2_ := aM (Kd.R_elder' (rA HO351.out) (Kd.R_base ho0) hb)
         have n3_ := aM (Kd.R_lower (Kd.R_new' (Kd.R_new' ho0 (Kd.R_lt (rA HO_3.out))) (Kd.R_lt (rA HO351.out))) (below_size (bS HB.out)))
         have n4_ := aM (kB BK291.out hb)
         have n5_ := aM (below_step (bS HB.out) hb)
         clear HO_3
         clear HO348
         clear HO351
         clear BK291
         clear HB
         have HO_3 := n0_
         have HO348 := n1_
         have HO351 := n2_
         have HO354 := n3_
         have BK291 := n4_
         have HB := n5_
         clear n0_ n1_ n2_ n3_ n4_ n5_
         (try clear hb)
         (try clear hb2)
         (try clear hk)
         (try clear hi)
         (try clear ho0)
         refine hK.out _ _ ⟨(blk_cell BK291.out 0).trans rfl, (blk_cell BK291.out 1).trans rfl, (blk_cell BK291.out 2).trans rfl, (blk_cell BK291.out 3).trans rfl, (blk_cell BK291.out 4).trans rfl, (blk_cell BK291.out 5).trans rfl⟩ (fun hHeld => ?_)
         clear hK K
         refine norm_ (a' := ?_) ?_ ?_
         rotate_left
         ·show Act.put _ (some 90) _ = _
          simp only [Act.put, List.setIfInBounds_toArray, List.set_cons_zero, List.set_cons_succ, i64_w, i32_w]
          rfl
         refine pure_ (i := 8) (N := some 2) (v := ?_) (a' := ?_) #[true, true, true, true, true, true, true, true, true] rfl rfl (any_of HT_.out (by kernel_rfl)) (fun _ _ _ h => h) (Or.inl ⟨by rfl, ?_⟩) ?_ ?_
         rotate_left
         ·intro w'
          go_simp
          with_reducible rfl
         rotate_left
         ·simp only [Act.put, List.setIfInBounds_toArray, List.set_cons_zero, List.set_cons_succ, i64_w, i32_w]
          rfl
         refine done_ (done_of HT_.out (by kernel_rfl)) ?_
         try go_wp2
         go_ret
         exact ⟨_, by first | rfl | (simp [errW_none, errW_some] <;> rfl) | (simp [*, errW_none, errW_some] <;> rfl), by (with_reducible repeat (first | apply Kd.R_alloc | apply Kd.R_drewN | apply Kd.R_drew)); exact Kd.R_mono HO354.out (fun _ hk => trivial), bS HB.out⟩
 ·replace c3 := Bool.eq_false_iff.mpr c3
  subst c3
  have H1 : (some ([] : List Int)) = some r := by rw [if_neg (show ¬ (false = true) by decide)] at H; exact H
  clear H
  have H := H1
  clear H1
  obtain rfl := Option.some.inj H
  go_enter Try.func13, Try.ntmps13
  go_wp2_with (first | ((with_reducible refine gate_dst (N := 1) rfl ?_); refine box_event ?hg (N := 1) ?hd (cs := #[.int .i64 a0_0, .int .i64 a0_1, .int .i64 a0_2, .slice A0_3 l0_3.length c0_3, .slice A0_4 l0_4.length c0_4, .int .i64 a0_5]) (t := 29) ?hr ?_; (case hd => rfl); (case hg => rfl); (case hr => first | (go_simp; done) | (go_simp; rfl)); intro gb291 hg w85 hbox hb; have _ := aM (below_step (bS HB.out) hb); have _ := aM (hbox); have _ := aM (leG hg (bS HB.out)); have _ := aM (leG hg (bS HB.out)); clear HB; rename_i HB BK291 GW291 GE291; clear hb hbox hg; obtain ⟨hcz86_0, hfz86_0, hcz86_1, hfz86_1, hcz86_2, hfz86_2, hcz86_3, hfz86_3, hcz86_4, hfz86_4, hcz86_5, hfz86_5⟩ := bk6 BK291.out) | ((with_reducible refine gate_callee (f := 25) rfl ?_); refine gL (some 5) rfl rfl Try.func25 (by kernel_rfl) rfl #[.agg #[.int .i64 a0_0, .int .i64 a0_1, .int .i64 a0_2, .slice A0_3 l0_3.length c0_3, .slice A0_4 l0_4.length c0_4, .int .i64 a0_5]] rfl ?_; (with_reducible refine (impl_ReqOk.calls k a0_0 a0_1 a0_2 _ _ l0_3 _ _ l0_4 a0_5 false _ ?side1 ?side2 ?side3 ?side4 A2.out).mono ?_); (case side1 => exact cB HR0_3.out HB.out); (case side2 => exact HC0_3.out); (case side3 => exact cB HR0_4.out HB.out); (case side4 => exact HC0_4.out); rintro e w87 ⟨rfl, hb⟩; refine ⟨_, rfl, ?_⟩; have _ := aM (kB BK291.out hb); have _ := aM (below_step (bS HB.out) hb); clear BK291 HB; rename_i BK291 HB; (try clear hb)))
  go_ret
  exact ⟨_, by first | rfl | (simp [errW_none, errW_some] <;> rfl) | (simp [*, errW_none, errW_some] <;> rfl), by first | exact Kd.R_nil _ _ _ _ _ | exact Kd.N_nil _ _ _ _ _ | exact Kd.V_nil _ _ _ _ _ | exact Kd.Q_nil _ _ _ _ _ | exact Kd.S_nil _ _ _ _ _, bS HB.out⟩

end Go.Proofs.Yteoghpcgompajaa.PFnExactPutReq
