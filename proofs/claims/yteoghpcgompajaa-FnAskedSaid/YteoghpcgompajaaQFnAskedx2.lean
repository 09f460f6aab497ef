/- Functions and contracts of the law FnAsked: what the Go text computes, step by step. -/
import Derived.Test.YteoghpcgompajaaM
import Derived.Test.YteoghpcgompajaaL
import Derived.Test.YteoghpcgompajaaQFnAskedx0
import Derived.Test.YteoghpcgompajaaQFnAskedx1
namespace Go.Proofs.Yteoghpcgompajaa.PFnAsked
open Go.Proofs.Yteoghpcgompajaa.K Go.Proofs.Yteoghpcgompajaa.G Go.RowKit Go.Proofs.YteoghpcgompajaaW.PrintWords Go.Proofs.YteoghpcgompajaaW.PrintLast Go.Proofs.YteoghpcgompajaaW.PrintMore
attribute [local go_sem] max2_int min2_int max_two min_two max_three min_three max_four min_four   -- for this text's walks alone
set_option linter.unusedVariables false
set_option linter.unusedSimpArgs false

/-! ### impl_PutReq: function 13 -/
def impl_PutReq.j0 : Nat → List Int → Int → Bool → Int → Int → Int → List Int → List Bool → Int → Option (List Int)
 | 0, _, _, _, _, _, _, _, _, _ => none
 | k + 1, x3, x12, x13, x111000, x111001, x111002, x111003, x111004, x111005 => if x13 = true then ((impl_putWords.f x3 (([x111001, x111002] : List Int))).bind fun t118 => (some t118)) else (if x12 = 5 then (if 0 < (x111004.length : Int) then ((impl_bitWord.f (rdOf false x111004 0)).bind fun t122 => ((impl_putWords.f x3 (([x111001, t122] : List Int))).bind fun t126 => (some t126))) else (none)) else (if x12 = 15 then ((impl_putWords.f x3 (([x111001, (x111004.length : Int)] : List Int))).bind fun t132 => ((impl_PackBits.f k x111004).bind fun t135 => ((impl_putCounted.f t132 t135).bind fun t138 => (some t138)))) else (if x12 = 16 then ((impl_putWords.f x3 (([x111001, (x111003.length : Int)] : List Int))).bind fun t144 => ((impl_putWords.f ([] : List Int) x111003).bind fun t147 => ((impl_putCounted.f t144 t147).bind fun t150 => (some t150)))) else (if x12 = 23 then ((impl_putWords.f x3 (([x111001, x111002, x111005, (x111003.length : Int)] : List Int))).bind fun t156 => ((impl_putWords.f ([] : List Int) x111003).bind fun t159 => ((impl_putCounted.f t156 t159).bind fun t162 => (some t162)))) else ((impl_putWords.f x3 (([x111001] : List Int))).bind fun t168 => ((impl_putWords.f t168 x111003).bind fun t171 => (some t171)))))))
def impl_PutReq.f (k : Nat) (a0_0 : Int) (a0_1 : Int) (a0_2 : Int) (l0_3 : List Int) (l0_4 : List Bool) (a0_5 : Int) : Option (List Int) := (impl_ReqOk.f k a0_0 a0_1 a0_2 l0_3 l0_4 a0_5).bind fun t111 => (if t111 = true then ((some (([(a0_0) % 256] : List Int) : List Int)).bind fun y112 => (if a0_0 = 1 then (impl_PutReq.j0 k y112 a0_0 (a0_0 == 1) a0_0 a0_1 a0_2 l0_3 l0_4 a0_5) else (if a0_0 = 2 then (impl_PutReq.j0 k y112 a0_0 (a0_0 == 2) a0_0 a0_1 a0_2 l0_3 l0_4 a0_5) else (if a0_0 = 3 then (impl_PutReq.j0 k y112 a0_0 (a0_0 == 3) a0_0 a0_1 a0_2 l0_3 l0_4 a0_5) else (impl_PutReq.j0 k y112 a0_0 (a0_0 == 4) a0_0 a0_1 a0_2 l0_3 l0_4 a0_5))))) else (some ([] : List Int)))
theorem impl_PutReq.mono_l : ∀ k, (∀ y0 y1 y2 y3 y4 y5 y6 y7 y8, LeO (impl_PutReq.j0 k y0 y1 y2 y3 y4 y5 y6 y7 y8) (impl_PutReq.j0 (k + 1) y0 y1 y2 y3 y4 y5 y6 y7 y8))
 | 0 => fun _ _ _ _ _ _ _ _ _ r h => by simp [impl_PutReq.j0] at h
 | k + 1 => by
  have ih0 := impl_PutReq.mono_l k
  ·intro y0 y1 y2 y3 y4 y5 y6 y7 y8
   unfold impl_PutReq.j0
   repeat' first
   | (with_reducible exact ih0 _ _ _ _ _ _ _ _ _)
   | (with_reducible exact impl_PackBits.mono _ _)
   | (with_reducible exact impl_ReqOk.mono _ _ _ _ _ _ _)
   | (with_reducible exact LeO.refl _)
   | (with_reducible exact LeO.none _)
   | (with_reducible refine LeO.ite ?_ ?_)
   | (with_reducible refine LeO.bind ?_ (fun _ => ?_))
   | exact ih0 _ _ _ _ _ _ _ _ _
   | exact impl_PackBits.mono _ _
   | exact impl_ReqOk.mono _ _ _ _ _ _ _
   | exact LeO.none _
   | refine LeO.ite ?_ ?_
   | refine LeO.bind ?_ (fun _ => ?_)
theorem impl_PutReq.mono : ∀ a0 a1 a2 a3 a4 a5 k, LeO (impl_PutReq.f k a0 a1 a2 a3 a4 a5) (impl_PutReq.f (k + 1) a0 a1 a2 a3 a4 a5) := by
 intro a0 a1 a2 a3 a4 a5 k
 have ih0 := impl_PutReq.mono_l k
 unfold impl_PutReq.f
 repeat' first
   | (with_reducible exact ih0 _ _ _ _ _ _ _ _ _)
   | (with_reducible exact impl_PackBits.mono _ _)
   | (with_reducible exact impl_ReqOk.mono _ _ _ _ _ _ _)
   | (with_reducible exact LeO.refl _)
   | (with_reducible exact LeO.none _)
   | (with_reducible refine LeO.ite ?_ ?_)
   | (with_reducible refine LeO.bind ?_ (fun _ => ?_))
   | exact ih0 _ _ _ _ _ _ _ _ _
   | exact impl_PackBits.mono _ _
   | exact impl_ReqOk.mono _ _ _ _ _ _ _
   | exact LeO.none _
   | refine LeO.ite ?_ ?_
   | refine LeO.bind ?_ (fun _ => ?_)
def impl_PutReq.T11 : Bool × List (List Nat × List Nat) := (true, [([], []), ([], []), ([1], [1]), ([], []), ([3], [3]), ([4], [4]), ([5], [5]), ([6], [6]), ([2, 7], [2, 7]), ([0, 8, 7], [0, 8]), ([9, 9, 0, 1, 2, 3, 4, 5, 6, 7, 8, 9], [9])])
def impl_PutReq.B11 : List Nat := [0, 0, 2, 0, 8, 24, 56, 120, 254, 511, 1023]
theorem impl_PutReq.tab11 : rtab .any (opsOf Try.f13 11) = impl_PutReq.T11 := by kernel_rfl
theorem impl_PutReq.bits11 : waitsOk impl_PutReq.T11.2 impl_PutReq.B11 = true := by kernel_rfl
def impl_PutReq.T13 : Bool × List (List Nat × List Nat) := (true, [([], []), ([], []), ([1], [1]), ([], []), ([3], [3]), ([4], [4]), ([2, 5], [2, 5]), ([0, 6], [0, 6]), ([], []), ([8], [8]), ([9, 7], [9]), ([7, 10, 10], [7, 10]), ([11, 11, 0, 1, 2, 3, 4, 5, 6, 7, 8, 9, 10, 11], [11])])
def impl_PutReq.B13 : List Nat := [0, 0, 2, 0, 8, 24, 62, 127, 0, 256, 1023, 2047, 4095]
theorem impl_PutReq.tab13 : rtab .any (opsOf Try.f13 13) = impl_PutReq.T13 := by kernel_rfl
theorem impl_PutReq.bits13 : waitsOk impl_PutReq.T13.2 impl_PutReq.B13 = true := by kernel_rfl
def impl_PutReq.T15 : Bool × List (List Nat × List Nat) := (true, [([], []), ([], []), ([1], [1]), ([], []), ([3], [3]), ([4], [4]), ([2, 5], [2, 5]), ([0, 6], [0, 6]), ([], []), ([8], [8]), ([9, 7], [9]), ([7, 10, 10], [7, 10]), ([11, 11, 0, 1, 2, 3, 4, 5, 6, 7, 8, 9, 10, 11], [11])])
def impl_PutReq.B15 : List Nat := [0, 0, 2, 0, 8, 24, 62, 127, 0, 256, 1023, 2047, 4095]
theorem impl_PutReq.tab15 : rtab .any (opsOf Try.f13 15) = impl_PutReq.T15 := by kernel_rfl
theorem impl_PutReq.bits15 : waitsOk impl_PutReq.T15.2 impl_PutReq.B15 = true := by kernel_rfl
def impl_PutReq.T17 : Bool × List (List Nat × List Nat) := (true, [([], []), ([], []), ([1], [1]), ([], []), ([3], [3]), ([], []), ([5], [5]), ([], []), ([7], [7]), ([8], [8]), ([2, 4, 6, 9], [2, 4, 6, 9]), ([0, 10], [0, 10]), ([], []), ([12], [12]), ([13, 11], [13]), ([11, 14, 14], [11, 14]), ([15, 15, 0, 1, 2, 3, 4, 5, 6, 7, 8, 9, 10, 11, 12, 13, 14, 15], [15])])
def impl_PutReq.B17 : List Nat := [0, 0, 2, 0, 8, 0, 32, 0, 128, 384, 1022, 2047, 0, 4096, 16383, 32767, 65535]
theorem impl_PutReq.tab17 : rtab .any (opsOf Try.f13 17) = impl_PutReq.T17 := by kernel_rfl
theorem impl_PutReq.bits17 : waitsOk impl_PutReq.T17.2 impl_PutReq.B17 = true := by kernel_rfl
def impl_PutReq.T18 : Bool × List (List Nat × List Nat) := (true, [([], []), ([], []), ([1], [1]), ([2], [2]), ([0, 3], [0, 3]), ([], []), ([5], [5]), ([4, 6, 4], [4, 6]), ([7, 7, 0, 1, 2, 3, 4, 5, 6, 7], [7])])
def impl_PutReq.B18 : List Nat := [0, 0, 2, 6, 15, 0, 32, 127, 255]
theorem impl_PutReq.tab18 : rtab .any (opsOf Try.f13 18) = impl_PutReq.T18 := by kernel_rfl
theorem impl_PutReq.bits18 : waitsOk impl_PutReq.T18.2 impl_PutReq.B18 = true := by kernel_rfl
set_option maxHeartbeats 8000000 in
set_option maxRecDepth 100000 in
theorem impl_PutReq.calls (k : Nat) (a0_0 : Int) (a0_1 : Int) (a0_2 : Int) (A0_3 : Option Addr) (c0_3 : Nat) (l0_3 : List Int) (A0_4 : Option Addr) (c0_4 : Nat) (l0_4 : List Bool) (a0_5 : Int) (r : List Int) (w : World) (hr0_3 : Kd.C (Kd.int .i64) w A0_3 l0_3.length l0_3) (hc0_3 : l0_3.length ≤ c0_3) (hr0_4 : Kd.C Kd.bool w A0_4 l0_4.length l0_4) (hc0_4 : l0_4.length ≤ c0_4) (h : impl_PutReq.f k a0_0 a0_1 a0_2 l0_3 l0_4 a0_5 = some r) :
  Calls Try.prog 13 #[.agg #[.int .i64 a0_0, .int .i64 a0_1, .int .i64 a0_2, .slice A0_3 l0_3.length c0_3, .slice A0_4 l0_4.length c0_4, .int .i64 a0_5]] w fun e w' => ∃ v0_ : Value, e = .returned (v0_) ∧ Kd.R (Kd.int .u8) 5 w' w.heap.size (fun _ => True) v0_ r ∧ Below w.heap.size w w' := by
 have hu29 := Try.underlying29
 have HR0_3 := aM hr0_3
 have HC0_3 := aM hc0_3
 clear hr0_3 hc0_3
 have HR0_4 := aM hr0_4
 have HC0_4 := aM hc0_4
 clear hr0_4 hc0_4
 have HB := aM (Below.refl w.heap.size w)
 have H : ((impl_ReqOk.f k a0_0 a0_1 a0_2 l0_3 l0_4 a0_5).bind fun t111 => (if t111 = true then ((some (([(a0_0) % 256] : List Int) : List Int)).bind fun y112 => (if a0_0 = 1 then (impl_PutReq.j0 k y112 a0_0 (a0_0 == 1) a0_0 a0_1 a0_2 l0_3 l0_4 a0_5) else (if a0_0 = 2 then (impl_PutReq.j0 k y112 a0_0 (a0_0 == 2) a0_0 a0_1 a0_2 l0_3 l0_4 a0_5) else (if a0_0 = 3 then (impl_PutReq.j0 k y112 a0_0 (a0_0 == 3) a0_0 a0_1 a0_2 l0_3 l0_4 a0_5) else (impl_PutReq.j0 k y112 a0_0 (a0_0 == 4) a0_0 a0_1 a0_2 l0_3 l0_4 a0_5))))) else (some ([] : List Int)))) = some r := h
 clear h
 replace H := Option.bind_eq_some_iff.mp H
 obtain ⟨t111, A20, H⟩ := H
 (try dsimp only at H)
 have A2 := aM A20
 clear A20
 by_cases c3 : t111 = true
 rotate_left
 ·replace c3 := Bool.eq_false_iff.mpr c3
  subst c3
  rw [if_neg (show ¬ (false = true) by decide)] at H
  (try dsimp only at H)
  obtain rfl := Option.some.inj H
  go_enter Try.func13, Try.ntmps13
  go_wp2_with (first | ((with_reducible refine gate_dst (N := 1) rfl ?_); refine box_event ?hg (N := 1) ?hd (cs := #[.int .i64 a0_0, .int .i64 a0_1, .int .i64 a0_2, .slice A0_3 l0_3.length c0_3, .slice A0_4 l0_4.length c0_4, .int .i64 a0_5]) (t := 29) ?hr ?_; (case hd => rfl); (case hg => rfl); (case hr => first | (go_simp; done) | (go_simp; rfl)); intro gb110 hg w85 hbox hb; have _ := aM (below_step (bS HB.out) hb); have _ := aM (hbox); have _ := aM (leG hg (bS HB.out)); have _ := aM (leG hg (bS HB.out)); clear HB; rename_i HB BK110 GW110 GE110; clear hb hbox hg; obtain ⟨hcz86_0, hfz86_0, hcz86_1, hfz86_1, hcz86_2, hfz86_2, hcz86_3, hfz86_3, hcz86_4, hfz86_4, hcz86_5, hfz86_5⟩ := bk6 BK110.out) | ((with_reducible refine gate_callee (f := 25) rfl ?_); refine gL (some 5) rfl rfl Try.func25 (by kernel_rfl) rfl #[.agg #[.int .i64 a0_0, .int .i64 a0_1, .int .i64 a0_2, .slice A0_3 l0_3.length c0_3, .slice A0_4 l0_4.length c0_4, .int .i64 a0_5]] rfl ?_; (with_reducible refine (impl_ReqOk.calls k a0_0 a0_1 a0_2 _ _ l0_3 _ _ l0_4 a0_5 false _ ?side1 ?side2 ?side3 ?side4 A2.out).mono ?_); (case side1 => exact cB HR0_3.out HB.out); (case side2 => exact HC0_3.out); (case side3 => exact cB HR0_4.out HB.out); (case side4 => exact HC0_4.out); rintro e w87 ⟨rfl, hb⟩; refine ⟨_, rfl, ?_⟩; have _ := aM (kB BK110.out hb); have _ := aM (below_step (bS HB.out) hb); clear BK110 HB; rename_i BK110 HB; (try clear hb)))
  go_ret
  exact ⟨_, by first | rfl | (simp [errW_none, errW_some] <;> rfl) | (simp [*, errW_none, errW_some] <;> rfl), by first | exact Kd.R_nil _ _ _ _ _ | exact Kd.N_nil _ _ _ _ _ | exact Kd.V_nil _ _ _ _ _ | exact Kd.Q_nil _ _ _ _ _ | exact Kd.S_nil _ _ _ _ _, bS HB.out⟩

 subst c3
 rw [if_pos rfl] at H
 (try dsimp only at H)
 obtain ⟨y112, hy112⟩ : ∃ y_ : List Int, y_ = (([(a0_0) % 256] : List Int)) := ⟨_, rfl⟩
 replace H : (if a0_0 = 1 then (impl_PutReq.j0 k y112 a0_0 (a0_0 == 1) a0_0 a0_1 a0_2 l0_3 l0_4 a0_5) else (if a0_0 = 2 then (impl_PutReq.j0 k y112 a0_0 (a0_0 == 2) a0_0 a0_1 a0_2 l0_3 l0_4 a0_5) else (if a0_0 = 3 then (impl_PutReq.j0 k y112 a0_0 (a0_0 == 3) a0_0 a0_1 a0_2 l0_3 l0_4 a0_5) else (impl_PutReq.j0 k y112 a0_0 (a0_0 == 4) a0_0 a0_1 a0_2 l0_3 l0_4 a0_5)))) = some r := by first | (rw [hy112]; with_reducible exact H) | (have H2_ := (Option.bind_some _ _).symm.trans H; rw [hy112]; with_reducible exact H2_) | (have H2_ := (Option.bind_some _ _).symm.trans H; with_reducible exact H2_) | with_reducible exact H | (rw [hy112]; exact H) | exact H
 have Ny112 := aM hy112
 clear hy112
 have HC4 := aM H
 clear H
 go_enter Try.func13, Try.ntmps13
 go_upto_if 13 with (first | ((with_reducible refine gate_dst (N := 1) rfl ?_); refine box_event ?hg (N := 1) ?hd (cs := #[.int .i64 a0_0, .int .i64 a0_1, .int .i64 a0_2, .slice A0_3 l0_3.length c0_3, .slice A0_4 l0_4.length c0_4, .int .i64 a0_5]) (t := 29) ?hr ?_; (case hd => rfl); (case hg => rfl); (case hr => first | (go_simp; done) | (go_simp; rfl)); intro gb110 hg w5 hbox hb; have _ := aM (below_step (bS HB.out) hb); have _ := aM (hbox); have _ := aM (leG hg (bS HB.out)); have _ := aM (leG hg (bS HB.out)); clear HB; rename_i HB BK110 GW110 GE110; clear hb hbox hg; obtain ⟨hcz6_0, hfz6_0, hcz6_1, hfz6_1, hcz6_2, hfz6_2, hcz6_3, hfz6_3, hcz6_4, hfz6_4, hcz6_5, hfz6_5⟩ := bk6 BK110.out) | ((with_reducible refine gate_callee (f := 25) rfl ?_); refine gL (some 5) rfl rfl Try.func25 (by kernel_rfl) rfl #[.agg #[.int .i64 a0_0, .int .i64 a0_1, .int .i64 a0_2, .slice A0_3 l0_3.length c0_3, .slice A0_4 l0_4.length c0_4, .int .i64 a0_5]] rfl ?_; (with_reducible refine (impl_ReqOk.calls k a0_0 a0_1 a0_2 _ _ l0_3 _ _ l0_4 a0_5 true _ ?side1 ?side2 ?side3 ?side4 A2.out).mono ?_); (case side1 => exact cB HR0_3.out HB.out); (case side2 => exact HC0_3.out); (case side3 => exact cB HR0_4.out HB.out); (case side4 => exact HC0_4.out); rintro e w7 ⟨rfl, hb⟩; refine ⟨_, rfl, ?_⟩; have _ := aM (kB BK110.out hb); have _ := aM (below_step (bS HB.out) hb); clear BK110 HB; rename_i BK110 HB; (try clear hb); obtain ⟨hcz8_0, hfz8_0, hcz8_1, hfz8_1, hcz8_2, hfz8_2, hcz8_3, hfz8_3, hcz8_4, hfz8_4, hcz8_5, hfz8_5⟩ := bk6 BK110.out) | ((with_reducible refine gate_dst (N := 10) rfl ?_); refine Kd.R_lit (Kd.int .u8) _ 5 ?hg (N := 10) ?hd (xs := ([(a0_0) % 256] : List Int)) (inner := [.int .u8 ((a0_0) % 256)]) (ok := fun _ => True) (okp := fun _ => True) ?hr ?hp (fun _ hk => hk) trivial (Below.refl _ _) (Nat.le_refl _) (by simp) ?_; (case hd => rfl); (case hg => rfl); (case hr => first | (go_simp; done) | (go_simp; rfl)); (case hp => exact (Reps.one (show Kd.M (Kd.int .u8) _ _ _ ((a0_0) % 256) [.int .u8 ((a0_0) % 256)] from rfl) (Reps.none _ _))); intro v113 w9 ho10 hb hg_ hnew_; clear hg_ hnew_; (first | rw [← Ny112.out] at ho10 | (simp only [Int.reduceToNat] at ho10; rw [← Ny112.out] at ho10)); have _ := aM (Kd.R_lower ho10 (below_size (bS HB.out))); have _ := aM (kB BK110.out hb); have _ := aM (below_step (bS HB.out) hb); clear BK110 HB; rename_i HO114 BK110 HB; clear hb ho10; obtain ⟨hcz11_0, hfz11_0, hcz11_1, hfz11_1, hcz11_2, hfz11_2, hcz11_3, hfz11_3, hcz11_4, hfz11_4, hcz11_5, hfz11_5⟩ := bk6 BK110.out))
 (try simp only [Act.put, List.setIfInBounds_toArray, List.set_cons_zero, List.set_cons_succ])
 go_cut [13] (fun v13 wc => ∃ (kq : Nat) (x13_3 : Bool), v13 = .bool x13_3 ∧ Aside0 (impl_PutReq.j0 kq y112 a0_0 x13_3 a0_0 a0_1 a0_2 l0_3 l0_4 a0_5 = some r) ∧ Aside0 (kq ≤ k) ∧ Aside0 (Kd.R (Kd.int .u8) 5 wc w.heap.size (fun _ => True) v113 y112) ∧ Aside0 (wc.heap[gb110]? = some (.cells #[.int .i64 a0_0, .int .i64 a0_1, .int .i64 a0_2, (.slice A0_3 l0_3.length c0_3), (.slice A0_4 l0_4.length c0_4), .int .i64 a0_5] 29 (0, 0))) ∧ Aside0 (Below w.heap.size w wc))
 case first =>
  have H := HC4.out
  clear HC4
  by_cases c12 : a0_0 = 1
  ·rw [if_pos c12] at H
   have c12b0 : (a0_0 == 1) = true := beq_iff_eq.mpr c12
   have c12b1 : (a0_0 != 1) = false := bne_eq_false_iff_eq.mpr c12
   clear c12
   (first | rw [c12b0] | (simp only [i64_w, i32_w]; rw [c12b0]) | skip)
   have H' := aM H
   clear H
   go_wp2
   go_meet
   case rel => exact ⟨_, ((a0_0 == 1)), (by first | rfl | (simp; done) | (simp [*]; done)), H', ⟨by first | omega | exact Nat.le_refl _⟩, ⟨by (with_reducible repeat (first | apply Kd.R_alloc | apply Kd.R_drewN | apply Kd.R_drew)); exact HO114.out⟩, ⟨kX BK110.out⟩, ⟨bS HB.out⟩⟩
  ·rw [if_neg c12] at H
   have c12b0 : (a0_0 == 1) = false := beq_eq_false_iff_ne.mpr c12
   have c12b1 : (a0_0 != 1) = true := bne_iff_ne.mpr c12
   (first | rw [c12b0] | (simp only [i64_w, i32_w]; rw [c12b0]) | skip)
   by_cases c13 : a0_0 = 2
   ·rw [if_pos c13] at H
    have c13b0 : (a0_0 == 2) = true := beq_iff_eq.mpr c13
    have c13b1 : (a0_0 != 2) = false := bne_eq_false_iff_eq.mpr c13
    clear c13
    have H' := aM H
    clear H
    go_wp2
    go_meet
    case rel => exact ⟨_, ((a0_0 == 2)), (by first | rfl | (simp; done) | (simp [*]; done)), H', ⟨by first | omega | exact Nat.le_refl _⟩, ⟨by (with_reducible repeat (first | apply Kd.R_alloc | apply Kd.R_drewN | apply Kd.R_drew)); exact HO114.out⟩, ⟨kX BK110.out⟩, ⟨bS HB.out⟩⟩
   ·rw [if_neg c13] at H
    have c13b0 : (a0_0 == 2) = false := beq_eq_false_iff_ne.mpr c13
    have c13b1 : (a0_0 != 2) = true := bne_iff_ne.mpr c13
    by_cases c14 : a0_0 = 3
    rotate_left
    ·rw [if_neg c14] at H
     have c14b0 : (a0_0 == 3) = false := beq_eq_false_iff_ne.mpr c14
     have c14b1 : (a0_0 != 3) = true := bne_iff_ne.mpr c14
     have H' := aM H
     clear H
     go_wp2
     go_meet
     case rel => exact ⟨_, ((a0_0 == 4)), (by first | rfl | (simp; done) | (simp [*]; done)), H', ⟨by first | omega | exact Nat.le_refl _⟩, ⟨by (with_reducible repeat (first | apply Kd.R_alloc | apply Kd.R_drewN | apply Kd.R_drew)); exact HO114.out⟩, ⟨kX BK110.out⟩, ⟨bS HB.out⟩⟩
    rw [if_pos c14] at H
    have c14b0 : (a0_0 == 3) = true := beq_iff_eq.mpr c14
    have c14b1 : (a0_0 != 3) = false := bne_eq_false_iff_eq.mpr c14
    clear c14
    have H' := aM H
    clear H
    go_wp2
    go_meet
    case rel => exact ⟨_, ((a0_0 == 3)), (by first | rfl | (simp; done) | (simp [*]; done)), H', ⟨by first | omega | exact Nat.le_refl _⟩, ⟨by (with_reducible repeat (first | apply Kd.R_alloc | apply Kd.R_drewN | apply Kd.R_drew)); exact HO114.out⟩, ⟨kX BK110.out⟩, ⟨bS HB.out⟩⟩
 case rest =>
  clear HC4
  try clear c3
  try clear hcz11_0
  try clear hcz11_1
  try clear hcz11_2
  try clear hcz11_3
  try clear hcz11_4
  try clear hcz11_5
  try clear hcz6_0
  try clear hcz6_1
  try clear hcz6_2
  try clear hcz6_3
  try clear hcz6_4
  try clear hcz6_5
  try clear hcz8_0
  try clear hcz8_1
  try clear hcz8_2
  try clear hcz8_3
  try clear hcz8_4
  try clear hcz8_5
  try clear hfz11_0
  try clear hfz11_1
  try clear hfz11_2
  try clear hfz11_3
  try clear hfz11_4
  try clear hfz11_5
  try clear hfz6_0
  try clear hfz6_1
  try clear hfz6_2
  try clear hfz6_3
  try clear hfz6_4
  try clear hfz6_5
  try clear hfz8_0
  try clear hfz8_1
  try clear hfz8_2
  try clear hfz8_3
  try clear hfz8_4
  try clear hfz8_5
  obtain ⟨kq, x13_3, rfl, HA, HJ3, HO_3, BK110, HB⟩ := hcut
  cases kq with
  | zero => exact absurd HA.out (by simp [impl_PutReq.j0])
  | succ kj3 =>
   have H := HA.out
   clear HA
   simp only [impl_PutReq.j0] at H
   by_cases c15 : x13_3 = true
   ·subst c15
    rw [if_pos rfl] at H
    (try dsimp only at H)
    obtain ⟨y115, hy115⟩ : ∃ y_ : List Int, y_ = (([a0_1, a0_2] : List Int)) := ⟨_, rfl⟩
    replace H : ((impl_putWords.f y112 y115).bind fun t118 => (some t118)) = some r := by first | (rw [hy115]; with_reducible exact H) | (have H2_ := (Option.bind_some _ _).symm.trans H; rw [hy115]; with_reducible exact H2_) | (have H2_ := (Option.bind_some _ _).symm.trans H; with_reducible exact H2_) | with_reducible exact H | (rw [hy115]; exact H) | exact H
    have Ny115 := aM hy115
    clear hy115
    replace H := Option.bind_eq_some_iff.mp H
    obtain ⟨t118, A160, H⟩ := H
    (try dsimp only at H)
    have A16 := aM A160
    clear A160
    obtain rfl := Option.some.inj H
    obtain ⟨hcz17_0, hfz17_0, hcz17_1, hfz17_1, hcz17_2, hfz17_2, hcz17_3, hfz17_3, hcz17_4, hfz17_4, hcz17_5, hfz17_5⟩ := bk6 BK110.out
    go_wp2_with (first | ((with_reducible refine gate_dst (N := 23) rfl ?_); refine Kd.R_lit (Kd.int .i64) _ 3 ?hg (N := 23) ?hd (xs := ([a0_1, a0_2] : List Int)) (inner := [.int .i64 a0_1, .int .i64 a0_2]) (ok := fun _ => True) (okp := fun _ => True) ?hr ?hp (fun _ hk => hk) trivial (Below.refl _ _) (Nat.le_refl _) (by simp) ?_; (case hd => rfl); (case hg => rfl); (case hr => first | (go_simp; done) | (go_simp; rfl)); (case hp => exact (Reps.one (show Kd.M (Kd.int .i64) _ _ _ a0_1 [.int .i64 a0_1] from rfl) (Reps.one (show Kd.M (Kd.int .i64) _ _ _ a0_2 [.int .i64 a0_2] from rfl) (Reps.none _ _)))); intro v116 w18 ho19 hb hg_ hnew_; clear hg_ hnew_; (first | rw [← Ny115.out] at ho19 | (simp only [Int.reduceToNat] at ho19; rw [← Ny115.out] at ho19)); have _ := aM (rB HO_3.out hb); have _ := aM (Kd.R_lower ho19 (below_size (bS HB.out))); have _ := aM (kB BK110.out hb); have _ := aM (below_step (bS HB.out) hb); clear HO_3 BK110 HB; rename_i HO_3 HO117 BK110 HB; clear hb ho19; obtain ⟨Ao20, co20, eo20⟩ := Kd.R_slice HO_3.out; subst eo20; obtain ⟨Ao21, co21, eo21⟩ := Kd.R_slice HO117.out; subst eo21) | ((with_reducible refine gate_callee (f := 39) rfl ?_); refine gL (some 24) rfl rfl Try.func39 (by kernel_rfl) rfl #[.slice Ao20 y112.length co20, .slice Ao21 y115.length co21] rfl ?_; (with_reducible refine (impl_putWords.calls _ _ y112 _ _ y115 t118 _ ?side1 ?side2 ?side3 ?side4 A16.out).mono ?_); (case side1 => exact cR HO_3.out); (case side2 => exact (Kd.R_reads' HO_3.out).2.1); (case side3 => exact cR HO117.out); (case side4 => exact (Kd.R_reads' HO117.out).2.1); rintro e w22 ⟨v119, rfl, ho0, hb⟩; refine ⟨_, rfl, ?_⟩; have _ := aM (Kd.R_elder' (rA HO_3.out) (Kd.R_base ho0) hb); have _ := aM (rB HO117.out hb); have _ := aM (Kd.R_lower (Kd.R_new' ho0 (Kd.R_lt (rA HO_3.out))) (below_size (bS HB.out))); have _ := aM (kB BK110.out hb); have _ := aM (below_step (bS HB.out) hb); clear HO_3 HO117 BK110 HB; rename_i HO_3 HO117 HO120 BK110 HB; (try clear hb); (try clear ho0)))
    go_ret
    exact ⟨_, by first | rfl | (simp [errW_none, errW_some] <;> rfl) | (simp [*, errW_none, errW_some] <;> rfl), by (with_reducible repeat (first | apply Kd.R_alloc | apply Kd.R_drewN | apply Kd.R_drew)); exact Kd.R_mono HO120.out (fun _ hk => trivial), bS HB.out⟩
   ·replace c15 := Bool.eq_false_iff.mpr c15
    subst c15
    rw [if_neg (show ¬ (false = true) by decide)] at H
    (try dsimp only at H)
    by_cases c23 : a0_0 = 5
    ·rw [if_pos c23] at H
     have c23b0 : (a0_0 == 5) = true := beq_iff_eq.mpr c23
     have c23b1 : (a0_0 != 5) = false := bne_eq_false_iff_eq.mpr c23
     clear c23
     by_cases c24 : 0 < (l0_4.length : Int)
     rotate_left
     ·rw [if_neg c24] at H
      exact absurd H (by simp)
     rw [if_pos c24] at H
     have c24b0 : decide (0 < (l0_4.length : Int)) = true := decide_eq_true c24
     have c24b1 : decide (0 < l0_4.length) = true := decide_eq_true (by omega)
     clear c24
     replace H := Option.bind_eq_some_iff.mp H
     obtain ⟨t122, A250, H⟩ := H
     (try dsimp only at H)
     have A25 := aM A250
     clear A250
     obtain ⟨y123, hy123⟩ : ∃ y_ : List Int, y_ = (([a0_1, t122] : List Int)) := ⟨_, rfl⟩
     replace H : ((impl_putWords.f y112 y123).bind fun t126 => (some t126)) = some r := by first | (rw [hy123]; with_reducible exact H) | (have H2_ := (Option.bind_some _ _).symm.trans H; rw [hy123]; with_reducible exact H2_) | (have H2_ := (Option.bind_some _ _).symm.trans H; with_reducible exact H2_) | with_reducible exact H | (rw [hy123]; exact H) | exact H
     have Ny123 := aM hy123
     clear hy123
     replace H := Option.bind_eq_some_iff.mp H
     obtain ⟨t126, A260, H⟩ := H
     (try dsimp only at H)
     have A26 := aM A260
     clear A260
     obtain rfl := Option.some.inj H
     try go_wp2
     have n0_ := aM (Kd.R_drew HO_3.out)
     have n1_ := aM (blk_drew BK110.out)
     have n2_ := aM (below_drew1 HB.out)
     clear HO_3
     clear BK110
     clear HB
     have HO_3 := n0_
     have BK110 := n1_
     have HB := n2_
     clear n0_ n1_ n2_
     have p121 : 0 ≤ (0 : Int) := (by omega)
     have q121 : 0 < (l0_4.length : Int) := of_decide_eq_true (by first | (with_reducible assumption) | assumption)
     obtain ⟨ad121, e121, hx121_0⟩ := Kd.at_bool HR0_4.out 0 p121 q121
     have hw121_0 := hx121_0
     (try rw [show ((0 : Int)).toNat = 0 from rfl] at hw121_0)
     (try rw [show 0 * 1 = 0 from rfl] at hw121_0)
     (try rw [Addr.add_zero'] at hw121_0)
     cases e121
     have qi121 : (0 < l0_4.length) = True := eq_true (by omega)
     (try rw [show ((0 : Int)).toNat = 0 from rfl] at hx121_0)
     (try rw [Addr.add_zero'] at hx121_0)
     replace hx121_0 := (HB.out.cell (World.block_lt_of_cell? w _ hx121_0)).trans hx121_0
     replace p121 := eq_true p121
     replace q121 := eq_true q121
     refine start_ (n := 11) (S := fun w' => w'.cell? ⟨gb110, 0, none⟩ = some (.int .i64 a0_0) ∧ w'.cell? ⟨gb110, 1, none⟩ = some (.int .i64 a0_1) ∧ w'.cell? ⟨gb110, 2, none⟩ = some (.int .i64 a0_2) ∧ w'.cell? ⟨gb110, 3, none⟩ = some (.slice A0_3 l0_3.length c0_3) ∧ w'.cell? ⟨gb110, 4, none⟩ = some (.slice (some ad121) l0_4.length c0_4) ∧ w'.cell? ⟨gb110, 5, none⟩ = some (.int .i64 a0_5) ∧ w'.cell? ad121 = some (.bool (rdOf false l0_4 0))) (ds := []) #[false, false, false, false, false, false, false, false, false, false, false] (by kernel_rfl) rfl rfl ⟨(blk_cell BK110.out 0).trans rfl, (blk_cell BK110.out 1).trans rfl, (blk_cell BK110.out 2).trans rfl, (blk_cell BK110.out 3).trans rfl, (blk_cell BK110.out 4).trans rfl, (blk_cell BK110.out 5).trans rfl, ((HB.out.cell (World.block_lt_of_cell? w _ hw121_0)).trans hw121_0)⟩ (fun hHeld => ?_); refine with_tabW impl_PutReq.tab11 impl_PutReq.bits11 (fun HT_ HW_ => ?_)
     generalize wc.drew = w27 at HO_3 BK110 HB hx121_0 hHeld ⊢
     refine pU (i := 0) (N := some 27) #[true, false, false, false, false, false, false, false, false, false, false] HT_ ?_
     refine pU (i := 1) (N := some 28) #[true, true, false, false, false, false, false, false, false, false, false] HT_ ?_
     refine pU (i := 3) (N := some 30) #[true, true, false, true, false, false, false, false, false, false, false] HT_ ?_
     refine take_ (i := 2) (N := some 29) (v := ?_) (a' := ?_) #[true, true, true, true, false, false, false, false, false, false, false] rfl rfl (take_ofW HT_.out HW_.out (by kernel_rfl)) (fun _ _ _ h => h) (Or.inl ⟨by rfl, ?_⟩) hHeld ?_ ?_
     rotate_left
     ·rintro w' ⟨s0, s1, s2, s3, s4, s5, s6⟩
      go_simp
      with_reducible rfl
     rotate_left
     ·simp only [Act.put, List.setIfInBounds_toArray, List.set_cons_zero, List.set_cons_succ, i64_w, i32_w]
      rfl
     refine take_ (i := 4) (N := some 31) (v := ?_) (a' := ?_) #[true, true, true, true, true, false, false, false, false, false, false] rfl rfl (take_ofW HT_.out HW_.out (by kernel_rfl)) (fun _ _ _ h => h) (Or.inl ⟨by rfl, ?_⟩) hHeld ?_ ?_
     rotate_left
     ·rintro w' ⟨s0, s1, s2, s3, s4, s5, s6⟩
      go_simp
      with_reducible rfl
     rotate_left
     ·simp only [Act.put, List.setIfInBounds_toArray, List.set_cons_zero, List.set_cons_succ, i64_w, i32_w]
      rfl
     refine pU (i := 5) (N := some 32) #[true, true, true, true, true, true, false, false, false, false, false] HT_ ?_
     refine take_ (i := 6) (N := some 33) (v := ?_) (a' := ?_) #[true, true, true, true, true, true, true, false, false, false, false] rfl rfl (take_ofW HT_.out HW_.out (by kernel_rfl)) (fun _ _ _ h => h) (Or.inl ⟨by rfl, ?_⟩) hHeld ?_ ?_
     rotate_left
     ·rintro w' ⟨s0, s1, s2, s3, s4, s5, s6⟩
      go_simp
      with_reducible rfl
     rotate_left
     ·simp only [Act.put, List.setIfInBounds_toArray, List.set_cons_zero, List.set_cons_succ, i64_w, i32_w]
      rfl
     refine one_ (i := 7) (N := some 34) #[true, true, true, true, true, true, true, true, false, false, false] rfl rfl (one_of HT_.out (by kernel_rfl)) (by decide) (fun K hK => ?_)
     refine goes_ Try.func40 (by kernel_rfl) rfl #[.bool (rdOf false l0_4 0)] (by rfl) rfl rfl (by (try simp only [List.map_toArray, List.map_cons, List.map_nil]); first | done | rfl | (simp only [List.length_drop, List.length_take]; rfl)) ?_
     with_reducible refine (impl_bitWord.calls (rdOf false l0_4 0) t122 _ A25.out).mono ?_
     rintro e w' ⟨rfl, ⟨nd, rfl⟩⟩
     refine ⟨_, rfl, ?_⟩
     refine hK.out _ _ ⟨(blk_cell BK110.out 0).trans rfl, (blk_cell BK110.out 1).trans rfl, (blk_cell BK110.out 2).trans rfl, (blk_cell BK110.out 3).trans rfl, (blk_cell BK110.out 4).trans rfl, (blk_cell BK110.out 5).trans rfl, ((HB.out.cell (World.block_lt_of_cell? w _ hw121_0)).trans hw121_0)⟩ (fun hHeld => ?_)
     clear hK K
     refine norm_ (a' := ?_) ?_ ?_
     rotate_left
     ·show Act.put _ (some 34) _ = _
      simp only [Act.put, List.setIfInBounds_toArray, List.set_cons_zero, List.set_cons_succ, i64_w, i32_w]
      rfl
     refine one_ (i := 8) (N := some 35) #[true, true, true, true, true, true, true, true, true, false, false] rfl rfl (one_of HT_.out (by kernel_rfl)) (by decide) (fun K hK => ?_)
     refine Kd.R_lit_step (Kd.int .i64) _ 3 ?hg (N := 35) ?hd (xs := ([a0_1, t122] : List Int)) (inner := [.int .i64 a0_1, .int .i64 t122]) (ok := fun _ => True) (okp := fun _ => True) ?hr ?hp (fun _ hk => hk) trivial (Below.refl _ _) (Nat.le_refl _) (by simp) ?_; (case hd => rfl); (case hg => rfl); (case hr => first | (go_simp; done) | (go_simp; rfl)); (case hp => exact (Reps.one (show Kd.M (Kd.int .i64) _ _ _ a0_1 [.int .i64 a0_1] from rfl) (Reps.one (show Kd.M (Kd.int .i64) _ _ _ t122 [.int .i64 t122] from rfl) (Reps.none _ _))))
     intro v124 w28 ho29 hb hg_ hnew_
     clear hg_ hnew_
     (first | rw [← Ny123.out] at ho29 | (simp only [Int.reduceToNat] at ho29; rw [← Ny123.out] at ho29))
     have n0_ := aM (rB HO_3.out hb)
     have n1_ := aM (Kd.R_lower ho29 (below_size (bS HB.out)))
     have n2_ := aM (kB BK110.out hb)
     have n3_ := aM (below_step (bS HB.out) hb)
     clear HO_3
     clear BK110
     clear HB
     have HO_3 := n0_
     have HO125 := n1_
     have BK110 := n2_
     have HB := n3_
     clear n0_ n1_ n2_ n3_
     clear hb ho29
     obtain ⟨Ao30, co30, eo30⟩ := Kd.R_slice HO_3.out
     (first | subst eo30 | (injection eo30 with f1_ f2_ f3_; have f4_ := f1_.symm; have f5_ := f3_.symm; clear f1_ f2_ f3_; subst f4_; subst f5_))
     obtain ⟨Ao31, co31, eo31⟩ := Kd.R_slice HO125.out
     (first | subst eo31 | (injection eo31 with f1_ f2_ f3_; have f4_ := f1_.symm; have f5_ := f3_.symm; clear f1_ f2_ f3_; subst f4_; subst f5_))
     refine hK.out _ _ ⟨(blk_cell BK110.out 0).trans rfl, (blk_cell BK110.out 1).trans rfl, (blk_cell BK110.out 2).trans rfl, (blk_cell BK110.out 3).trans rfl, (blk_cell BK110.out 4).trans rfl, (blk_cell BK110.out 5).trans rfl, ((HB.out.cell (World.block_lt_of_cell? w _ hw121_0)).trans hw121_0)⟩ (fun hHeld => ?_)
     clear hK K
     refine norm_ (a' := ?_) ?_ ?_
     rotate_left
     ·show Act.put _ (some 35) _ = _
      simp only [Act.put, List.setIfInBounds_toArray, List.set_cons_zero, List.set_cons_succ, i64_w, i32_w]
      rfl
     refine one_ (i := 9) (N := some 36) #[true, true, true, true, true, true, true, true, true, true, false] rfl rfl (one_of HT_.out (by kernel_rfl)) (by decide) (fun K hK => ?_)
     refine goes_ Try.func39 (by kernel_rfl) rfl #[.slice Ao30 y112.length co30, .slice Ao31 y123.length co31] (by rfl) rfl rfl (by (try simp only [List.map_toArray, List.map_cons, List.map_nil]); first | done | rfl | (simp only [List.length_drop, List.length_take]; rfl)) ?_
     with_reducible refine (impl_putWords.calls _ _ y112 _ _ y123 t126 _ ?side1 ?side2 ?side3 ?side4 A26.out).mono ?_
     (case side1 => exact cR HO_3.out)
     (case side2 => exact (Kd.R_reads' HO_3.out).2.1)
     (case side3 => exact cR HO125.out)
     (case side4 => exact (Kd.R_reads' HO125.out).2.1)
     rintro e w32 ⟨v127, rfl, ho0, hb⟩
     refine ⟨_, rfl, ?_⟩
     have n0_ := aM (Kd.R_elder' (rA HO_3.out) (Kd.R_base ho0) hb)
     have n1_ := aM (rB HO125.out hb)
     have n2_ := aM (Kd.R_lower (Kd.R_new' ho0 (Kd.R_lt (rA HO_3.out))) (below_size (bS HB.out)))
     have n3_ := aM (kB BK110.out hb)
     have n4_ := aM (below_step (bS HB.out) hb)
     clear HO_3
     clear HO125
     clear BK110
     clear HB
     have HO_3 := n0_
     have HO125 := n1_
     have HO128 := n2_
     have BK110 := n3_
     have HB := n4_
     clear n0_ n1_ n2_ n3_ n4_
     (try clear hb)
     (try clear hb2)
     (try clear hk)
     (try clear hi)
     (try clear ho0)
     refine hK.out _ _ ⟨(blk_cell BK110.out 0).trans rfl, (blk_cell BK110.out 1).trans rfl, (blk_cell BK110.out 2).trans rfl, (blk_cell BK110.out 3).trans rfl, (blk_cell BK110.out 4).trans rfl, (blk_cell BK110.out 5).trans rfl, ((HB.out.cell (World.block_lt_of_cell? w _ hw121_0)).trans hw121_0)⟩ (fun hHeld => ?_)
     clear hK K
     refine norm_ (a' := ?_) ?_ ?_
     rotate_left
     ·show Act.put _ (some 36) _ = _
      simp only [Act.put, List.setIfInBounds_toArray, List.set_cons_zero, List.set_cons_succ, i64_w, i32_w]
      rfl
     refine pU (i := 10) (N := some 2) #[true, true, true, true, true, true, true, true, true, true, true] HT_ ?_
     refine done_ (done_of HT_.out (by kernel_rfl)) ?_
     try go_wp2
     go_ret
     exact ⟨_, by first | rfl | (simp [errW_none, errW_some] <;> rfl) | (simp [*, errW_none, errW_some] <;> rfl), by (with_reducible repeat (first | apply Kd.R_alloc | apply Kd.R_drewN | apply Kd.R_drew)); exact Kd.R_mono HO128.out (fun _ hk => trivial), bS HB.out⟩
    ·rw [if_neg c23] at H
     have c23b0 : (a0_0 == 5) = false := beq_eq_false_iff_ne.mpr c23
     have c23b1 : (a0_0 != 5) = true := bne_iff_ne.mpr c23
     by_cases c33 : a0_0 = 15
     ·rw [if_pos c33] at H
      have c33b0 : (a0_0 == 15) = true := beq_iff_eq.mpr c33
      have c33b1 : (a0_0 != 15) = false := bne_eq_false_iff_eq.mpr c33
      clear c33
      obtain ⟨y129, hy129⟩ : ∃ y_ : List Int, y_ = (([a0_1, (l0_4.length : Int)] : List Int)) := ⟨_, rfl⟩
      replace H : ((impl_putWords.f y112 y129).bind fun t132 => ((impl_PackBits.f kj3 l0_4).bind fun t135 => ((impl_putCounted.f t132 t135).bind fun t138 => (some t138)))) = some r := by first | (rw [hy129]; with_reducible exact H) | (have H2_ := (Option.bind_some _ _).symm.trans H; rw [hy129]; with_reducible exact H2_) | (have H2_ := (Option.bind_some _ _).symm.trans H; with_reducible exact H2_) | with_reducible exact H | (rw [hy129]; exact H) | exact H
      have Ny129 := aM hy129
      clear hy129
      replace H := Option.bind_eq_some_iff.mp H
      obtain ⟨t132, A340, H⟩ := H
      (try dsimp only at H)
      have A34 := aM A340
      clear A340
      replace H := Option.bind_eq_some_iff.mp H
      obtain ⟨t135, A350, H⟩ := H
      (try dsimp only at H)
      have A35 := aM A350
      clear A350
      replace H := Option.bind_eq_some_iff.mp H
      obtain ⟨t138, A360, H⟩ := H
      (try dsimp only at H)
      have A36 := aM A360
      clear A360
      obtain rfl := Option.some.inj H
      try go_wp2
      have n0_ := aM (Kd.R_drew HO_3.out)
      have n1_ := aM (blk_drew BK110.out)
      have n2_ := aM (below_drew1 HB.out)
      clear HO_3
      clear BK110
      clear HB
      have HO_3 := n0_
      have BK110 := n1_
      have HB := n2_
      clear n0_ n1_ n2_
      refine start_ (n := 13) (S := fun w' => w'.cell? ⟨gb110, 0, none⟩ = some (.int .i64 a0_0) ∧ w'.cell? ⟨gb110, 1, none⟩ = some (.int .i64 a0_1) ∧ w'.cell? ⟨gb110, 2, none⟩ = some (.int .i64 a0_2) ∧ w'.cell? ⟨gb110, 3, none⟩ = some (.slice A0_3 l0_3.length c0_3) ∧ w'.cell? ⟨gb110, 4, none⟩ = some (.slice A0_4 l0_4.length c0_4) ∧ w'.cell? ⟨gb110, 5, none⟩ = some (.int .i64 a0_5)) (ds := []) #[false, false, false, false, false, false, false, false, false, false, false, false, false] (by kernel_rfl) rfl rfl ⟨(blk_cell BK110.out 0).trans rfl, (blk_cell BK110.out 1).trans rfl, (blk_cell BK110.out 2).trans rfl, (blk_cell BK110.out 3).trans rfl, (blk_cell BK110.out 4).trans rfl, (blk_cell BK110.out 5).trans rfl⟩ (fun hHeld => ?_); refine with_tabW impl_PutReq.tab13 impl_PutReq.bits13 (fun HT_ HW_ => ?_)
      generalize wc.drew = w37 at HO_3 BK110 HB hHeld ⊢
      refine pU (i := 0) (N := some 39) #[true, false, false, false, false, false, false, false, false, false, false, false, false] HT_ ?_
      refine pU (i := 1) (N := some 40) #[true, true, false, false, false, false, false, false, false, false, false, false, false] HT_ ?_
      refine pU (i := 3) (N := some 42) #[true, true, false, true, false, false, false, false, false, false, false, false, false] HT_ ?_
      refine pU (i := 8) (N := some 47) #[true, true, false, true, false, false, false, false, true, false, false, false, false] HT_ ?_
      refine take_ (i := 2) (N := some 41) (v := ?_) (a' := ?_) #[true, true, true, true, false, false, false, false, true, false, false, false, false] rfl rfl (take_ofW HT_.out HW_.out (by kernel_rfl)) (fun _ _ _ h => h) (Or.inl ⟨by rfl, ?_⟩) hHeld ?_ ?_
      rotate_left
      ·rintro w' ⟨s0, s1, s2, s3, s4, s5⟩
       go_simp
       with_reducible rfl
      rotate_left
      ·simp only [Act.put, List.setIfInBounds_toArray, List.set_cons_zero, List.set_cons_succ, i64_w, i32_w]
       rfl
      refine take_ (i := 4) (N := some 43) (v := ?_) (a' := ?_) #[true, true, true, true, true, false, false, false, true, false, false, false, false] rfl rfl (take_ofW HT_.out HW_.out (by kernel_rfl)) (fun _ _ _ h => h) (Or.inl ⟨by rfl, ?_⟩) hHeld ?_ ?_
      rotate_left
      ·rintro w' ⟨s0, s1, s2, s3, s4, s5⟩
       go_simp
       with_reducible rfl
      rotate_left
      ·simp only [Act.put, List.setIfInBounds_toArray, List.set_cons_zero, List.set_cons_succ, i64_w, i32_w]
       rfl
      refine pU (i := 5) (N := some 44) #[true, true, true, true, true, true, false, false, true, false, false, false, false] HT_ ?_
      refine take_ (i := 9) (N := some 48) (v := ?_) (a' := ?_) #[true, true, true, true, true, true, false, false, true, true, false, false, false] rfl rfl (take_ofW HT_.out HW_.out (by kernel_rfl)) (fun _ _ _ h => h) (Or.inl ⟨by rfl, ?_⟩) hHeld ?_ ?_
      rotate_left
      ·rintro w' ⟨s0, s1, s2, s3, s4, s5⟩
       go_simp
       with_reducible rfl
      rotate_left
      ·simp only [Act.put, List.setIfInBounds_toArray, List.set_cons_zero, List.set_cons_succ, i64_w, i32_w]
       rfl
      refine one_ (i := 6) (N := some 45) #[true, true, true, true, true, true, true, false, true, true, false, false, false] rfl rfl (one_of HT_.out (by kernel_rfl)) (by decide) (fun K hK => ?_)
      refine Kd.R_lit_step (Kd.int .i64) _ 3 ?hg (N := 45) ?hd (xs := ([a0_1, (l0_4.length : Int)] : List Int)) (inner := [.int .i64 a0_1, .int .i64 (l0_4.length : Int)]) (ok := fun _ => True) (okp := fun _ => True) ?hr ?hp (fun _ hk => hk) trivial (Below.refl _ _) (Nat.le_refl _) (by simp) ?_; (case hd => rfl); (case hg => rfl); (case hr => first | (go_simp; done) | (go_simp; rfl)); (case hp => exact (Reps.one (show Kd.M (Kd.int .i64) _ _ _ a0_1 [.int .i64 a0_1] from rfl) (Reps.one (show Kd.M (Kd.int .i64) _ _ _ (l0_4.length : Int) [.int .i64 (l0_4.length : Int)] from rfl) (Reps.none _ _))))
      intro v130 w38 ho39 hb hg_ hnew_
      clear hg_ hnew_
      (first | rw [← Ny129.out] at ho39 | (simp only [Int.reduceToNat] at ho39; rw [← Ny129.out] at ho39))
      have n0_ := aM (rB HO_3.out hb)
      have n1_ := aM (Kd.R_lower ho39 (below_size (bS HB.out)))
      have n2_ := aM (kB BK110.out hb)
      have n3_ := aM (below_step (bS HB.out) hb)
      clear HO_3
      clear BK110
      clear HB
      have HO_3 := n0_
      have HO131 := n1_
      have BK110 := n2_
      have HB := n3_
      clear n0_ n1_ n2_ n3_
      clear hb ho39
      obtain ⟨Ao40, co40, eo40⟩ := Kd.R_slice HO_3.out
      (first | subst eo40 | (injection eo40 with f1_ f2_ f3_; have f4_ := f1_.symm; have f5_ := f3_.symm; clear f1_ f2_ f3_; subst f4_; subst f5_))
      obtain ⟨Ao41, co41, eo41⟩ := Kd.R_slice HO131.out
      (first | subst eo41 | (injection eo41 with f1_ f2_ f3_; have f4_ := f1_.symm; have f5_ := f3_.symm; clear f1_ f2_ f3_; subst f4_; subst f5_))
      refine hK.out _ _ ⟨(blk_cell BK110.out 0).trans rfl, (blk_cell BK110.out 1).trans rfl, (blk_cell BK110.out 2).trans rfl, (blk_cell BK110.out 3).trans rfl, (blk_cell BK110.out 4).trans rfl, (blk_cell BK110.out 5).trans rfl⟩ (fun hHeld => ?_)
      clear hK K
      refine norm_ (a' := ?_) ?_ ?_
      rotate_left
      ·show Act.put _ (some 45) _ = _
       simp only [Act.put, List.setIfInBounds_toArray, List.set_cons_zero, List.set_cons_succ, i64_w, i32_w]
       rfl
      refine one_ (i := 7) (N := some 46) #[true, true, true, true, true, true, true, true, true, true, false, false, false] rfl rfl (one_of HT_.out (by kernel_rfl)) (by decide) (fun K hK => ?_)
      refine goes_ Try.func39 (by kernel_rfl) rfl #[.slice Ao40 y112.length co40, .slice Ao41 y129.length co41] (by rfl) rfl rfl (by (try simp only [List.map_toArray, List.map_cons, List.map_nil]); first | done | rfl | (simp only [List.length_drop, List.length_take]; rfl)) ?_
      with_reducible refine (impl_putWords.calls _ _ y112 _ _ y129 t132 _ ?side1 ?side2 ?side3 ?side4 A34.out).mono ?_
      (case side1 => exact cR HO_3.out)
      (case side2 => exact (Kd.R_reads' HO_3.out).2.1)
      (case side3 => exact cR HO131.out)
      (case side4 => exact (Kd.R_reads' HO131.out).2.1)
      rintro e w42 ⟨v133, rfl, ho0, hb⟩
      refine ⟨_, rfl, ?_⟩
      have n0_ := aM (Kd.R_elder' (rA HO_3.out) (Kd.R_base ho0) hb)
      have n1_ := aM (rB HO131.out hb)
      have n2_ := aM (Kd.R_lower (Kd.R_new' ho0 (Kd.R_lt (rA HO_3.out))) (below_size (bS HB.out)))
      have n3_ := aM (kB BK110.out hb)
      have n4_ := aM (below_step (bS HB.out) hb)
      clear HO_3
      clear HO131
      clear BK110
      clear HB
      have HO_3 := n0_
      have HO131 := n1_
      have HO134 := n2_
      have BK110 := n3_
      have HB := n4_
      clear n0_ n1_ n2_ n3_ n4_
      (try clear hb)
      (try clear hb2)
      (try clear hk)
      (try clear hi)
      (try clear ho0)
      refine hK.out _ _ ⟨(blk_cell BK110.out 0).trans rfl, (blk_cell BK110.out 1).trans rfl, (blk_cell BK110.out 2).trans rfl, (blk_cell BK110.out 3).trans rfl, (blk_cell BK110.out 4).trans rfl, (blk_cell BK110.out 5).trans rfl⟩ (fun hHeld => ?_)
      clear hK K
      refine norm_ (a' := ?_) ?_ ?_
      rotate_left
      ·show Act.put _ (some 46) _ = _
       simp only [Act.put, List.setIfInBounds_toArray, List.set_cons_zero, List.set_cons_succ, i64_w, i32_w]
       rfl
      refine one_ (i := 10) (N := some 49) #[true, true, true, true, true, true, true, true, true, true, true, false, false] rfl rfl (one_of HT_.out (by kernel_rfl)) (by decide) (fun K hK => ?_)
      refine goes_ Try.func42 (by kernel_rfl) rfl #[.slice A0_4 l0_4.length c0_4] (by rfl) rfl rfl (by (try simp only [List.map_toArray, List.map_cons, List.map_nil]); first | done | rfl | (simp only [List.length_drop, List.length_take]; rfl)) ?_
      with_reducible refine (impl_PackBits.calls kj3 _ _ l0_4 t135 _ ?side1 ?side2 A35.out).mono ?_
      (case side1 => exact cB HR0_4.out HB.out)
      (case side2 => exact HC0_4.out)
      rintro e w43 ⟨v136, rfl, ho0, hb⟩
      refine ⟨_, rfl, ?_⟩
      have n0_ := aM (Kd.R_elder' (rA HO_3.out) (Kd.R_base ho0) hb)
      have n1_ := aM (rB HO131.out hb)
      have n2_ := aM (Kd.R_elder' (rA HO134.out) (Kd.R_base ho0) hb)
      have n3_ := aM (Kd.R_lower (Kd.R_new' (Kd.R_new' ho0 (Kd.R_lt (rA HO_3.out))) (Kd.R_lt (rA HO134.out))) (below_size (bS HB.out)))
      have n4_ := aM (kB BK110.out hb)
      have n5_ := aM (below_step (bS HB.out) hb)
      clear HO_3
      clear HO131
      clear HO134
      clear BK110
      clear HB
      have HO_3 := n0_
      have HO131 := n1_
      have HO134 := n2_
      have HO137 := n3_
      have BK110 := n4_
      have HB := n5_
      clear n0_ n1_ n2_ n3_ n4_ n5_
      (try clear hb)
      (try clear hb2)
      (try clear hk)
      (try clear hi)
      (try clear ho0)
      obtain ⟨Ao44, co44, eo44⟩ := Kd.R_slice HO134.out
      (first | subst eo44 | (injection eo44 with f1_ f2_ f3_; have f4_ := f1_.symm; have f5_ := f3_.symm; clear f1_ f2_ f3_; subst f4_; subst f5_))
      obtain ⟨Ao45, co45, eo45⟩ := Kd.R_slice HO137.out
      (first | subst eo45 | (injection eo45 with f1_ f2_ f3_; have f4_ := f1_.symm; have f5_ := f3_.symm; clear f1_ f2_ f3_; subst f4_; subst f5_))
      refine hK.out _ _ ⟨(blk_cell BK110.out 0).trans rfl, (blk_cell BK110.out 1).trans rfl, (blk_cell BK110.out 2).trans rfl, (blk_cell BK110.out 3).trans rfl, (blk_cell BK110.out 4).trans rfl, (blk_cell BK110.out 5).trans rfl⟩ (fun hHeld => ?_)
      clear hK K
      refine norm_ (a' := ?_) ?_ ?_
      rotate_left
      ·show Act.put _ (some 49) _ = _
       simp only [Act.put, List.setIfInBounds_toArray, List.set_cons_zero, List.set_cons_succ, i64_w, i32_w]
       rfl
      refine one_ (i := 11) (N := some 50) #[true, true, true, true, true, true, true, true, true, true, true, true, false] rfl rfl (one_of HT_.out (by kernel_rfl)) (by decide) (fun K hK => ?_)
      refine goes_ Try.func41 (by kernel_rfl) rfl #[.slice Ao44 t132.length co44, .slice Ao45 t135.length co45] (by rfl) rfl rfl (by (try simp only [List.map_toArray, List.map_cons, List.map_nil]); first | done | rfl | (simp only [List.length_drop, List.length_take]; rfl)) ?_
      with_reducible refine (impl_putCounted.calls _ _ t132 _ _ t135 t138 _ ?side1 ?side2 ?side3 ?side4 A36.out).mono ?_
      (case side1 => exact cR HO134.out)
      (case side2 => exact (Kd.R_reads' HO134.out).2.1)
      (case side3 => exact cR HO137.out)
      (case side4 => exact (Kd.R_reads' HO137.out).2.1)
      rintro e w46 ⟨v139, rfl, ho0, hb⟩
      refine ⟨_, rfl, ?_⟩
      have n0_ := aM (Kd.R_elder' (rA HO_3.out) (Kd.R_base ho0) hb)
      have n1_ := aM (rB HO131.out hb)
      have n2_ := aM (Kd.R_elder' (rA HO134.out) (Kd.R_base ho0) hb)
      have n3_ := aM (Kd.R_elder' (rA HO137.out) (Kd.R_base ho0) hb)
      have n4_ := aM (Kd.R_lower (Kd.R_new' (Kd.R_new' (Kd.R_new' ho0 (Kd.R_lt (rA HO_3.out))) (Kd.R_lt (rA HO134.out))) (Kd.R_lt (rA HO137.out))) (below_size (bS HB.out)))
      have n5_ := aM (kB BK110.out hb)
      have n6_ := aM (below_step (bS HB.out) hb)
      clear HO_3
      clear HO131
      clear HO134
      clear HO137
      clear BK110
      clear HB
      have HO_3 := n0_
      have HO131 := n1_
      have HO134 := n2_
      have HO137 := n3_
      have HO140 := n4_
      have BK110 := n5_
      have HB := n6_
      clear n0_ n1_ n2_ n3_ n4_ n5_ n6_
      (try clear hb)
      (try clear hb2)
      (try clear hk)
      (try clear hi)
      (try clear ho0)
      refine hK.out _ _ ⟨(blk_cell BK110.out 0).trans rfl, (blk_cell BK110.out 1).trans rfl, (blk_cell BK110.out 2).trans rfl, (blk_cell BK110.out 3).trans rfl, (blk_cell BK110.out 4).trans rfl, (blk_cell BK110.out 5).trans rfl⟩ (fun hHeld => ?_)
      clear hK K
      refine norm_ (a' := ?_) ?_ ?_
      rotate_left
      ·show Act.put _ (some 50) _ = _
       simp only [Act.put, List.setIfInBounds_toArray, List.set_cons_zero, List.set_cons_succ, i64_w, i32_w]
       rfl
      refine pU (i := 12) (N := some 2) #[true, true, true, true, true, true, true, true, true, true, true, true, true] HT_ ?_
      refine done_ (done_of HT_.out (by kernel_rfl)) ?_
      try go_wp2
      go_ret
      exact ⟨_, by first | rfl | (simp [errW_none, errW_some] <;> rfl) | (simp [*, errW_none, errW_some] <;> rfl), by (with_reducible repeat (first | apply Kd.R_alloc | apply Kd.R_drewN | apply Kd.R_drew)); exact Kd.R_mono HO140.out (fun _ hk => trivial), bS HB.out⟩
     ·rw [if_neg c33] at H
      have c33b0 : (a0_0 == 15) = false := beq_eq_false_iff_ne.mpr c33
      have c33b1 : (a0_0 != 15) = true := bne_iff_ne.mpr c33
      by_cases c47 : a0_0 = 16
      rotate_left
      ·rw [if_neg c47] at H
       have c47b0 : (a0_0 == 16) = false := beq_eq_false_iff_ne.mpr c47
       have c47b1 : (a0_0 != 16) = true := bne_iff_ne.mpr c47
       by_cases c61 : a0_0 = 23
       rotate_left
       ·rw [if_neg c61] at H
        have c61b0 : (a0_0 == 23) = false := beq_eq_false_iff_ne.mpr c61
        have c61b1 : (a0_0 != 23) = true := bne_iff_ne.mpr c61
        obtain ⟨y165, hy165⟩ : ∃ y_ : List Int, y_ = (([a0_1] : List Int)) := ⟨_, rfl⟩
        replace H : ((impl_putWords.f y112 y165).bind fun t168 => ((impl_putWords.f t168 l0_3).bind fun t171 => (some t171))) = some r := by first | (rw [hy165]; with_reducible exact H) | (have H2_ := (Option.bind_some _ _).symm.trans H; rw [hy165]; with_reducible exact H2_) | (have H2_ := (Option.bind_some _ _).symm.trans H; with_reducible exact H2_) | with_reducible exact H | (rw [hy165]; exact H) | exact H
        have Ny165 := aM hy165
        clear hy165
        replace H := Option.bind_eq_some_iff.mp H
        obtain ⟨t168, A750, H⟩ := H
        (try dsimp only at H)
        have A75 := aM A750
        clear A750
        replace H := Option.bind_eq_some_iff.mp H
        obtain ⟨t171, A760, H⟩ := H
        (try dsimp only at H)
        have A76 := aM A760
        clear A760
        obtain rfl := Option.some.inj H
        try go_wp2
        have n0_ := aM (Kd.R_drew HO_3.out)
        have n1_ := aM (blk_drew BK110.out)
        have n2_ := aM (below_drew1 HB.out)
        clear HO_3
        clear BK110
        clear HB
        have HO_3 := n0_
        have BK110 := n1_
        have HB := n2_
        clear n0_ n1_ n2_
        refine start_ (n := 9) (S := fun w' => w'.cell? ⟨gb110, 0, none⟩ = some (.int .i64 a0_0) ∧ w'.cell? ⟨gb110, 1, none⟩ = some (.int .i64 a0_1) ∧ w'.cell? ⟨gb110, 2, none⟩ = some (.int .i64 a0_2) ∧ w'.cell? ⟨gb110, 3, none⟩ = some (.slice A0_3 l0_3.length c0_3) ∧ w'.cell? ⟨gb110, 4, none⟩ = some (.slice A0_4 l0_4.length c0_4) ∧ w'.cell? ⟨gb110, 5, none⟩ = some (.int .i64 a0_5)) (ds := []) #[false, false, false, false, false, false, false, false, false] (by kernel_rfl) rfl rfl ⟨(blk_cell BK110.out 0).trans rfl, (blk_cell BK110.out 1).trans rfl, (blk_cell BK110.out 2).trans rfl, (blk_cell BK110.out 3).trans rfl, (blk_cell BK110.out 4).trans rfl, (blk_cell BK110.out 5).trans rfl⟩ (fun hHeld => ?_); refine with_tabW impl_PutReq.tab18 impl_PutReq.bits18 (fun HT_ HW_ => ?_)
        generalize wc.drew = w77 at HO_3 BK110 HB hHeld ⊢
        refine pU (i := 0) (N := some 83) #[true, false, false, false, false, false, false, false, false] HT_ ?_
        refine pU (i := 1) (N := some 84) #[true, true, false, false, false, false, false, false, false] HT_ ?_
        refine pU (i := 5) (N := some 88) #[true, true, false, false, false, true, false, false, false] HT_ ?_
        refine take_ (i := 2) (N := some 85) (v := ?_) (a' := ?_) #[true, true, true, false, false, true, false, false, false] rfl rfl (take_ofW HT_.out HW_.out (by kernel_rfl)) (fun _ _ _ h => h) (Or.inl ⟨by rfl, ?_⟩) hHeld ?_ ?_
        rotate_left
        ·rintro w' ⟨s0, s1, s2, s3, s4, s5⟩
         go_simp
         with_reducible rfl
        rotate_left
        ·simp only [Act.put, List.setIfInBounds_toArray, List.set_cons_zero, List.set_cons_succ, i64_w, i32_w]
         rfl
        refine take_ (i := 6) (N := some 89) (v := ?_) (a' := ?_) #[true, true, true, false, false, true, true, false, false] rfl rfl (take_ofW HT_.out HW_.out (by kernel_rfl)) (fun _ _ _ h => h) (Or.inl ⟨by rfl, ?_⟩) hHeld ?_ ?_
        rotate_left
        ·rintro w' ⟨s0, s1, s2, s3, s4, s5⟩
         go_simp
         with_reducible rfl
        rotate_left
        ·simp only [Act.put, List.setIfInBounds_toArray, List.set_cons_zero, List.set_cons_succ, i64_w, i32_w]
         rfl
        refine one_ (i := 3) (N := some 86) #[true, true, true, true, false, true, true, false, false] rfl rfl (one_of HT_.out (by kernel_rfl)) (by decide) (fun K hK => ?_)
        refine Kd.R_lit_step (Kd.int .i64) _ 3 ?hg (N := 86) ?hd (xs := ([a0_1] : List Int)) (inner := [.int .i64 a0_1]) (ok := fun _ => True) (okp := fun _ => True) ?hr ?hp (fun _ hk => hk) trivial (Below.refl _ _) (Nat.le_refl _) (by simp) ?_; (case hd => rfl); (case hg => rfl); (case hr => first | (go_simp; done) | (go_simp; rfl)); (case hp => exact (Reps.one (show Kd.M (Kd.int .i64) _ _ _ a0_1 [.int .i64 a0_1] from rfl) (Reps.none _ _)))
        intro v166 w78 ho79 hb hg_ hnew_
        clear hg_ hnew_
        (first | rw [← Ny165.out] at ho79 | (simp only [Int.reduceToNat] at ho79; rw [← Ny165.out] at ho79))
        have n0_ := aM (rB HO_3.out hb)
        have n1_ := aM (Kd.R_lower ho79 (below_size (bS HB.out)))
        have n2_ := aM (kB BK110.out hb)
        have n3_ := aM (below_step (bS HB.out) hb)
        clear HO_3
        clear BK110
        clear HB
        have HO_3 := n0_
        have HO167 := n1_
        have BK110 := n2_
        have HB := n3_
        clear n0_ n1_ n2_ n3_
        clear hb ho79
        obtain ⟨Ao80, co80, eo80⟩ := Kd.R_slice HO_3.out
        (first | subst eo80 | (injection eo80 with f1_ f2_ f3_; have f4_ := f1_.symm; have f5_ := f3_.symm; clear f1_ f2_ f3_; subst f4_; subst f5_))
        obtain ⟨Ao81, co81, eo81⟩ := Kd.R_slice HO167.out
        (first | subst eo81 | (injection eo81 with f1_ f2_ f3_; have f4_ := f1_.symm; have f5_ := f3_.symm; clear f1_ f2_ f3_; subst f4_; subst f5_))
        refine hK.out _ _ ⟨(blk_cell BK110.out 0).trans rfl, (blk_cell BK110.out 1).trans rfl, (blk_cell BK110.out 2).trans rfl, (blk_cell BK110.out 3).trans rfl, (blk_cell BK110.out 4).trans rfl, (blk_cell BK110.out 5).trans rfl⟩ (fun hHeld => ?_)
        clear hK K
        refine norm_ (a' := ?_) ?_ ?_
        rotate_left
        ·show Act.put _ (some 86) _ = _
         simp only [Act.put, List.setIfInBounds_toArray, List.set_cons_zero, List.set_cons_succ, i64_w, i32_w]
         rfl
        refine one_ (i := 4) (N := some 87) #[true, true, true, true, true, true, true, false, false] rfl rfl (one_of HT_.out (by kernel_rfl)) (by decide) (fun K hK => ?_)
        refine goes_ Try.func39 (by kernel_rfl) rfl #[.slice Ao80 y112.length co80, .slice Ao81 y165.length co81] (by rfl) rfl rfl (by (try simp only [List.map_toArray, List.map_cons, List.map_nil]); first | done | rfl | (simp only [List.length_drop, List.length_take]; rfl)) ?_
        with_reducible refine (impl_putWords.calls _ _ y112 _ _ y165 t168 _ ?side1 ?side2 ?side3 ?side4 A75.out).mono ?_
        (case side1 => exact cR HO_3.out)
        (case side2 => exact (Kd.R_reads' HO_3.out).2.1)
        (case side3 => exact cR HO167.out)
        (case side4 => exact (Kd.R_reads' HO167.out).2.1)
        rintro e w82 ⟨v169, rfl, ho0, hb⟩
        refine ⟨_, rfl, ?_⟩
        have n0_ := aM (Kd.R_elder' (rA HO_3.out) (Kd.R_base ho0) hb)
        have n1_ := aM (rB HO167.out hb)
        have n2_ := aM (Kd.R_lower (Kd.R_new' ho0 (Kd.R_lt (rA HO_3.out))) (below_size (bS HB.out)))
        have n3_ := aM (kB BK110.out hb)
        have n4_ := aM (below_step (bS HB.out) hb)
        clear HO_3
        clear HO167
        clear BK110
        clear HB
        have HO_3 := n0_
        have HO167 := n1_
        have HO170 := n2_
        have BK110 := n3_
        have HB := n4_
        clear n0_ n1_ n2_ n3_ n4_
        (try clear hb)
        (try clear hb2)
        (try clear hk)
        (try clear hi)
        (try clear ho0)
        obtain ⟨Ao83, co83, eo83⟩ := Kd.R_slice HO170.out
        (first | subst eo83 | (injection eo83 with f1_ f2_ f3_; have f4_ := f1_.symm; have f5_ := f3_.symm; clear f1_ f2_ f3_; subst f4_; subst f5_))
        refine hK.out _ _ ⟨(blk_cell BK110.out 0).trans rfl, (blk_cell BK110.out 1).trans rfl, (blk_cell BK110.out 2).trans rfl, (blk_cell BK110.out 3).trans rfl, (blk_cell BK110.out 4).trans rfl, (blk_cell BK110.out 5).trans rfl⟩ (fun hHeld => ?_)
        clear hK K
        refine norm_ (a' := ?_) ?_ ?_
        rotate_left
        ·show Act.put _ (some 87) _ = _
         simp only [Act.put, List.setIfInBounds_toArray, List.set_cons_zero, List.set_cons_succ, i64_w, i32_w]
         rfl
        refine one_ (i := 7) (N := some 90) #[true, true, true, true, true, true, true, true, false] rfl rfl (one_of HT_.out (by kernel_rfl)) (by decide) (fun K hK => ?_)
        refine goes_ Try.func39 (by kernel_rfl) rfl #[.slice Ao83 t168.length co83, .slice A0_3 l0_3.length c0_3] (by rfl) rfl rfl (by (try simp only [List.map_toArray, List.map_cons, List.map_nil]); first | done | rfl | (simp only [List.length_drop, List.length_take]; rfl)) ?_
        with_reducible refine (impl_putWords.calls _ _ t168 _ _ l0_3 t171 _ ?side1 ?side2 ?side3 ?side4 A76.out).mono ?_
        (case side1 => exact cR HO170.out)
        (case side2 => exact (Kd.R_reads' HO170.out).2.1)
        (case side3 => exact cB HR0_3.out HB.out)
        (case side4 => exact HC0_3.out)
        rintro e w84 ⟨v172, rfl, ho0, hb⟩
        refine ⟨_, rfl, ?_⟩
        have n0_ := aM (Kd.R_elder' (rA HO_3.out) (Kd.R_base ho0) hb)
        have n1_ := aM (rB HO167.out hb)
        have n2_ := aM (Kd.R_elder' (rA HO170.out) (Kd.R_base ho0) hb)
        have n3_ := aM (Kd.R_lower (Kd.R_new' (Kd.R_new' ho0 (Kd.R_lt (rA HO_3.out))) (Kd.R_lt (rA HO170.out))) (below_size (bS HB.out)))
        have n4_ := aM (kB BK110.out hb)
        have n5_ := aM (below_step (bS HB.out) hb)
        clear HO_3
        clear HO167
        clear HO170
        clear BK110
        clear HB
        have HO_3 := n0_
        have HO167 := n1_
        have HO170 := n2_
        have HO173 := n3_
        have BK110 := n4_
        have HB := n5_
        clear n0_ n1_ n2_ n3_ n4_ n5_
        (try clear hb)
        (try clear hb2)
        (try clear hk)
        (try clear hi)
        (try clear ho0)
        refine hK.out _ _ ⟨(blk_cell BK110.out 0).trans rfl, (blk_cell BK110.out 1).trans rfl, (blk_cell BK110.out 2).trans rfl, (blk_cell BK110.out 3).trans rfl, (blk_cell BK110.out 4).trans rfl, (blk_cell BK110.out 5).trans rfl⟩ (fun hHeld => ?_)
        clear hK K
        refine norm_ (a' := ?_) ?_ ?_
        rotate_left
        ·show Act.put _ (some 90) _ = _
         simp only [Act.put, List.setIfInBounds_toArray, List.set_cons_zero, List.set_cons_succ, i64_w, i32_w]
         rfl
        refine pU (i := 8) (N := some 2) #[true, true, true, true, true, true, true, true, true] HT_ ?_
        refine done_ (done_of HT_.out (by kernel_rfl)) ?_
        try go_wp2
        go_ret
        exact ⟨_, by first | rfl | (simp [errW_none, errW_some] <;> rfl) | (simp [*, errW_none, errW_some] <;> rfl), by (with_reducible repeat (first | apply Kd.R_alloc | apply Kd.R_drewN | apply Kd.R_drew)); exact Kd.R_mono HO173.out (fun _ hk => trivial), bS HB.out⟩
       rw [if_pos c61] at H
       have c61b0 : (a0_0 == 23) = true := beq_iff_eq.mpr c61
       have c61b1 : (a0_0 != 23) = false := bne_eq_false_iff_eq.mpr c61
       clear c61
       obtain ⟨y153, hy153⟩ : ∃ y_ : List Int, y_ = (([a0_1, a0_2, a0_5, (l0_3.length : Int)] : List Int)) := ⟨_, rfl⟩
       replace H : ((impl_putWords.f y112 y153).bind fun t156 => ((impl_putWords.f ([] : List Int) l0_3).bind fun t159 => ((impl_putCounted.f t156 t159).bind fun t162 => (some t162)))) = some r := by first | (rw [hy153]; with_reducible exact H) | (have H2_ := (Option.bind_some _ _).symm.trans H; rw [hy153]; with_reducible exact H2_) | (have H2_ := (Option.bind_some _ _).symm.trans H; with_reducible exact H2_) | with_reducible exact H | (rw [hy153]; exact H) | exact H
       have Ny153 := aM hy153
       clear hy153
       replace H := Option.bind_eq_some_iff.mp H
       obtain ⟨t156, A620, H⟩ := H
       (try dsimp only at H)
       have A62 := aM A620
       clear A620
       replace H := Option.bind_eq_some_iff.mp H
       obtain ⟨t159, A630, H⟩ := H
       (try dsimp only at H)
       have A63 := aM A630
       clear A630
       replace H := Option.bind_eq_some_iff.mp H
       obtain ⟨t162, A640, H⟩ := H
       (try dsimp only at H)
       have A64 := aM A640
       clear A640
       obtain rfl := Option.some.inj H
       try go_wp2
       have n0_ := aM (Kd.R_drew HO_3.out)
       have n1_ := aM (blk_drew BK110.out)
       have n2_ := aM (below_drew1 HB.out)
       clear HO_3
       clear BK110
       clear HB
       have HO_3 := n0_
       have BK110 := n1_
       have HB := n2_
       clear n0_ n1_ n2_
       refine start_ (n := 17) (S := fun w' => w'.cell? ⟨gb110, 0, none⟩ = some (.int .i64 a0_0) ∧ w'.cell? ⟨gb110, 1, none⟩ = some (.int .i64 a0_1) ∧ w'.cell? ⟨gb110, 2, none⟩ = some (.int .i64 a0_2) ∧ w'.cell? ⟨gb110, 3, none⟩ = some (.slice A0_3 l0_3.length c0_3) ∧ w'.cell? ⟨gb110, 4, none⟩ = some (.slice A0_4 l0_4.length c0_4) ∧ w'.cell? ⟨gb110, 5, none⟩ = some (.int .i64 a0_5)) (ds := []) #[false, false, false, false, false, false, false, false, false, false, false, false, false, false, false, false, false] (by kernel_rfl) rfl rfl ⟨(blk_cell BK110.out 0).trans rfl, (blk_cell BK110.out 1).trans rfl, (blk_cell BK110.out 2).trans rfl, (blk_cell BK110.out 3).trans rfl, (blk_cell BK110.out 4).trans rfl, (blk_cell BK110.out 5).trans rfl⟩ (fun hHeld => ?_); refine with_tabW impl_PutReq.tab17 impl_PutReq.bits17 (fun HT_ HW_ => ?_)
       generalize wc.drew = w65 at HO_3 BK110 HB hHeld ⊢
       refine pU (i := 0) (N := some 67) #[true, false, false, false, false, false, false, false, false, false, false, false, false, false, false, false, false] HT_ ?_
       refine pU (i := 1) (N := some 68) #[true, true, false, false, false, false, false, false, false, false, false, false, false, false, false, false, false] HT_ ?_
       refine pU (i := 3) (N := some 70) #[true, true, false, true, false, false, false, false, false, false, false, false, false, false, false, false, false] HT_ ?_
       refine pU (i := 5) (N := some 72) #[true, true, false, true, false, true, false, false, false, false, false, false, false, false, false, false, false] HT_ ?_
       refine pU (i := 7) (N := some 74) #[true, true, false, true, false, true, false, true, false, false, false, false, false, false, false, false, false] HT_ ?_
       refine pU (i := 12) (N := some 79) #[true, true, false, true, false, true, false, true, false, false, false, false, true, false, false, false, false] HT_ ?_
       refine take_ (i := 2) (N := some 69) (v := ?_) (a' := ?_) #[true, true, true, true, false, true, false, true, false, false, false, false, true, false, false, false, false] rfl rfl (take_ofW HT_.out HW_.out (by kernel_rfl)) (fun _ _ _ h => h) (Or.inl ⟨by rfl, ?_⟩) hHeld ?_ ?_
       rotate_left
       ·rintro w' ⟨s0, s1, s2, s3, s4, s5⟩
        go_simp
        with_reducible rfl
       rotate_left
       ·simp only [Act.put, List.setIfInBounds_toArray, List.set_cons_zero, List.set_cons_succ, i64_w, i32_w]
        rfl
       refine take_ (i := 4) (N := some 71) (v := ?_) (a' := ?_) #[true, true, true, true, true, true, false, true, false, false, false, false, true, false, false, false, false] rfl rfl (take_ofW HT_.out HW_.out (by kernel_rfl)) (fun _ _ _ h => h) (Or.inl ⟨by rfl, ?_⟩) hHeld ?_ ?_
       rotate_left
       ·rintro w' ⟨s0, s1, s2, s3, s4, s5⟩
        go_simp
        with_reducible rfl
       rotate_left
       ·simp only [Act.put, List.setIfInBounds_toArray, List.set_cons_zero, List.set_cons_succ, i64_w, i32_w]
        rfl
       refine take_ (i := 6) (N := some 73) (v := ?_) (a' := ?_) #[true, true, true, true, true, true, true, true, false, false, false, false, true, false, false, false, false] rfl rfl (take_ofW HT_.out HW_.out (by kernel_rfl)) (fun _ _ _ h => h) (Or.inl ⟨by rfl, ?_⟩) hHeld ?_ ?_
       rotate_left
       ·rintro w' ⟨s0, s1, s2, s3, s4, s5⟩
        go_simp
        with_reducible rfl
       rotate_left
       ·simp only [Act.put, List.setIfInBounds_toArray, List.set_cons_zero, List.set_cons_succ, i64_w, i32_w]
        rfl
       refine take_ (i := 8) (N := some 75) (v := ?_) (a' := ?_) #[true, true, true, true, true, true, true, true, true, false, false, false, true, false, false, false, false] rfl rfl (take_ofW HT_.out HW_.out (by kernel_rfl)) (fun _ _ _ h => h) (Or.inl ⟨by rfl, ?_⟩) hHeld ?_ ?_
       rotate_left
       ·rintro w' ⟨s0, s1, s2, s3, s4, s5⟩
        go_simp
        with_reducible rfl
       rotate_left
       ·simp only [Act.put, List.setIfInBounds_toArray, List.set_cons_zero, List.set_cons_succ, i64_w, i32_w]
        rfl
       refine pU (i := 9) (N := some 76) #[true, true, true, true, true, true, true, true, true, true, false, false, true, false, false, false, false] HT_ ?_
       refine take_ (i := 13) (N := some 80) (v := ?_) (a' := ?_) #[true, true, true, true, true, true, true, true, true, true, false, false, true, true, false, false, false] rfl rfl (take_ofW HT_.out HW_.out (by kernel_rfl)) (fun _ _ _ h => h) (Or.inl ⟨by rfl, ?_⟩) hHeld ?_ ?_
       rotate_left
       ·rintro w' ⟨s0, s1, s2, s3, s4, s5⟩
        go_simp
        with_reducible rfl
       rotate_left
       ·simp only [Act.put, List.setIfInBounds_toArray, List.set_cons_zero, List.set_cons_succ, i64_w, i32_w]
        rfl
       refine one_ (i := 10) (N := some 77) #[true, true, true, true, true, true, true, true, true, true, true, false, true, true, false, false, false] rfl rfl (one_of HT_.out (by kernel_rfl)) (by decide) (fun K hK => ?_)
       refine Kd.R_lit_step (Kd.int .i64) _ 3 ?hg (N := 77) ?hd (xs := ([a0_1, a0_2, a0_5, (l0_3.length : Int)] : List Int)) (inner := [.int .i64 a0_1, .int .i64 a0_2, .int .i64 a0_5, .int .i64 (l0_3.length : Int)]) (ok := fun _ => True) (okp := fun _ => True) ?hr ?hp (fun _ hk => hk) trivial (Below.refl _ _) (Nat.le_refl _) (by simp) ?_; (case hd => rfl); (case hg => rfl); (case hr => first | (go_simp; done) | (go_simp; rfl)); (case hp => exact (Reps.one (show Kd.M (Kd.int .i64) _ _ _ a0_1 [.int .i64 a0_1] from rfl) (Reps.one (show Kd.M (Kd.int .i64) _ _ _ a0_2 [.int .i64 a0_2] from rfl) (Reps.one (show Kd.M (Kd.int .i64) _ _ _ a0_5 [.int .i64 a0_5] from rfl) (Reps.one (show Kd.M (Kd.int .i64) _ _ _ (l0_3.length : Int) [.int .i64 (l0_3.length : Int)] from rfl) (Reps.none _ _))))))
       intro v154 w66 ho67 hb hg_ hnew_
       clear hg_ hnew_
       (first | rw [← Ny153.out] at ho67 | (simp only [Int.reduceToNat] at ho67; rw [← Ny153.out] at ho67))
       have n0_ := aM (rB HO_3.out hb)
       have n1_ := aM (Kd.R_lower ho67 (below_size (bS HB.out)))
       have n2_ := aM (kB BK110.out hb)
       have n3_ := aM (below_step (bS HB.out) hb)
       clear HO_3
       clear BK110
       clear HB
       have HO_3 := n0_
       have HO155 := n1_
       have BK110 := n2_
       have HB := n3_
       clear n0_ n1_ n2_ n3_
       clear hb ho67
       obtain ⟨Ao68, co68, eo68⟩ := Kd.R_slice HO_3.out
       (first | subst eo68 | (injection eo68 with f1_ f2_ f3_; have f4_ := f1_.symm; have f5_ := f3_.symm; clear f1_ f2_ f3_; subst f4_; subst f5_))
       obtain ⟨Ao69, co69, eo69⟩ := Kd.R_slice HO155.out
       (first | subst eo69 | (injection eo69 with f1_ f2_ f3_; have f4_ := f1_.symm; have f5_ := f3_.symm; clear f1_ f2_ f3_; subst f4_; subst f5_))
       refine hK.out _ _ ⟨(blk_cell BK110.out 0).trans rfl, (blk_cell BK110.out 1).trans rfl, (blk_cell BK110.out 2).trans rfl, (blk_cell BK110.out 3).trans rfl, (blk_cell BK110.out 4).trans rfl, (blk_cell BK110.out 5).trans rfl⟩ (fun hHeld => ?_)
       clear hK K
       refine norm_ (a' := ?_) ?_ ?_
       rotate_left
       ·show Act.put _ (some 77) _ = _
        simp only [Act.put, List.setIfInBounds_toArray, List.set_cons_zero, List.set_cons_succ, i64_w, i32_w]
        rfl
       refine one_ (i := 11) (N := some 78) #[true, true, true, true, true, true, true, true, true, true, true, true, true, true, false, false, false] rfl rfl (one_of HT_.out (by kernel_rfl)) (by decide) (fun K hK => ?_)
       refine goes_ Try.func39 (by kernel_rfl) rfl #[.slice Ao68 y112.length co68, .slice Ao69 y153.length co69] (by rfl) rfl rfl (by (try simp only [List.map_toArray, List.map_cons, List.map_nil]); first | done | rfl | (simp only [List.length_drop, List.length_take]; rfl)) ?_
       with_reducible refine (impl_putWords.calls _ _ y112 _ _ y153 t156 _ ?side1 ?side2 ?side3 ?side4 A62.out).mono ?_
       (case side1 => exact cR HO_3.out)
       (case side2 => exact (Kd.R_reads' HO_3.out).2.1)
       (case side3 => exact cR HO155.out)
       (case side4 => exact (Kd.R_reads' HO155.out).2.1)
       rintro e w70 ⟨v157, rfl, ho0, hb⟩
       refine ⟨_, rfl, ?_⟩
       have n0_ := aM (Kd.R_elder' (rA HO_3.out) (Kd.R_base ho0) hb)
       have n1_ := aM (rB HO155.out hb)
       have n2_ := aM (Kd.R_lower (Kd.R_new' ho0 (Kd.R_lt (rA HO_3.out))) (below_size (bS HB.out)))
       have n3_ := aM (kB BK110.out hb)
       have n4_ := aM (below_step (bS HB.out) hb)
       clear HO_3
       clear HO155
       clear BK110
       clear HB
       have HO_3 := n0_
       have HO155 := n1_
       have HO158 := n2_
       have BK110 := n3_
       have HB := n4_
       clear n0_ n1_ n2_ n3_ n4_
       (try clear hb)
       (try clear hb2)
       (try clear hk)
       (try clear hi)
       (try clear ho0)
       refine hK.out _ _ ⟨(blk_cell BK110.out 0).trans rfl, (blk_cell BK110.out 1).trans rfl, (blk_cell BK110.out 2).trans rfl, (blk_cell BK110.out 3).trans rfl, (blk_cell BK110.out 4).trans rfl, (blk_cell BK110.out 5).trans rfl⟩ (fun hHeld => ?_)
       clear hK K
       refine norm_ (a' := ?_) ?_ ?_
       rotate_left
       ·show Act.put _ (some 78) _ = _
        simp only [Act.put, List.setIfInBounds_toArray, List.set_cons_zero, List.set_cons_succ, i64_w, i32_w]
        rfl
       refine one_ (i := 14) (N := some 81) #[true, true, true, true, true, true, true, true, true, true, true, true, true, true, true, false, false] rfl rfl (one_of HT_.out (by kernel_rfl)) (by decide) (fun K hK => ?_)
       refine goes_ Try.func39 (by kernel_rfl) rfl #[.slice none 0 0, .slice A0_3 l0_3.length c0_3] (by rfl) rfl rfl (by (try simp only [List.map_toArray, List.map_cons, List.map_nil]); first | done | rfl | (simp only [List.length_drop, List.length_take]; rfl)) ?_
       refine (impl_putWords.calls _ _ ([] : List Int) _ _ l0_3 t159 _ ?side1 ?side2 ?side3 ?side4 A63.out).mono ?_
       (case side1 => exact Kd.C_nil _ _)
       (case side2 => exact Nat.le_refl _)
       (case side3 => exact cB HR0_3.out HB.out)
       (case side4 => exact HC0_3.out)
       rintro e w71 ⟨v160, rfl, ho0, hb⟩
       refine ⟨_, rfl, ?_⟩
       have n0_ := aM (Kd.R_elder' (rA HO_3.out) (Kd.R_base ho0) hb)
       have n1_ := aM (rB HO155.out hb)
       have n2_ := aM (Kd.R_elder' (rA HO158.out) (Kd.R_base ho0) hb)
       have n3_ := aM (Kd.R_lower (Kd.R_new' (Kd.R_new' ho0 (Kd.R_lt (rA HO_3.out))) (Kd.R_lt (rA HO158.out))) (below_size (bS HB.out)))
       have n4_ := aM (kB BK110.out hb)
       have n5_ := aM (below_step (bS HB.out) hb)
       clear HO_3
       clear HO155
       clear HO158
       clear BK110
       clear HB
       have HO_3 := n0_
       have HO155 := n1_
       have HO158 := n2_
       have HO161 := n3_
       have BK110 := n4_
       have HB := n5_
       clear n0_ n1_ n2_ n3_ n4_ n5_
       (try clear hb)
       (try clear hb2)
       (try clear hk)
       (try clear hi)
       (try clear ho0)
       obtain ⟨Ao72, co72, eo72⟩ := Kd.R_slice HO158.out
       (first | subst eo72 | (injection eo72 with f1_ f2_ f3_; have f4_ := f1_.symm; have f5_ := f3_.symm; clear f1_ f2_ f3_; subst f4_; subst f5_))
       obtain ⟨Ao73, co73, eo73⟩ := Kd.R_slice HO161.out
       (first | subst eo73 | (injection eo73 with f1_ f2_ f3_; have f4_ := f1_.symm; have f5_ := f3_.symm; clear f1_ f2_ f3_; subst f4_; subst f5_))
       refine hK.out _ _ ⟨(blk_cell BK110.out 0).trans rfl, (blk_cell BK110.out 1).trans rfl, (blk_cell BK110.out 2).trans rfl, (blk_cell BK110.out 3).trans rfl, (blk_cell BK110.out 4).trans rfl, (blk_cell BK110.out 5).trans rfl⟩ (fun hHeld => ?_)
       clear hK K
       refine norm_ (a' := ?_) ?_ ?_
       rotate_left
       ·show Act.put _ (some 81) _ = _
        simp only [Act.put, List.setIfInBounds_toArray, List.set_cons_zero, List.set_cons_succ, i64_w, i32_w]
        rfl
       refine one_ (i := 15) (N := some 82) #[true, true, true, true, true, true, true, true, true, true, true, true, true, true, true, true, false] rfl rfl (one_of HT_.out (by kernel_rfl)) (by decide) (fun K hK => ?_)
       refine goes_ Try.func41 (by kernel_rfl) rfl #[.slice Ao72 t156.length co72, .slice Ao73 t159.length co73] (by rfl) rfl rfl (by (try simp only [List.map_toArray, List.map_cons, List.map_nil]); first | done | rfl | (simp only [List.length_drop, List.length_take]; rfl)) ?_
       with_reducible refine (impl_putCounted.calls _ _ t156 _ _ t159 t162 _ ?side1 ?side2 ?side3 ?side4 A64.out).mono ?_
       (case side1 => exact cR HO158.out)
       (case side2 => exact (Kd.R_reads' HO158.out).2.1)
       (case side3 => exact cR HO161.out)
       (case side4 => exact (Kd.R_reads' HO161.out).2.1)
       rintro e w74 ⟨v163, rfl, ho0, hb⟩
       refine ⟨_, rfl, ?_⟩
       have n0_ := aM (Kd.R_elder' (rA HO_3.out) (Kd.R_base ho0) hb)
       have n1_ := aM (rB HO155.out hb)
       have n2_ := aM (Kd.R_elder' (rA HO158.out) (Kd.R_base ho0) hb)
       have n3_ := aM (Kd.R_elder' (rA HO161.out) (Kd.R_base ho0) hb)
       have n4_ := aM (Kd.R_lower (Kd.R_new' (Kd.R_new' (Kd.R_new' ho0 (Kd.R_lt (rA HO_3.out))) (Kd.R_lt (rA HO158.out))) (Kd.R_lt (rA HO161.out))) (below_size (bS HB.out)))
       have n5_ := aM (kB BK110.out hb)
       have n6_ := aM (below_step (bS HB.out) hb)
       clear HO_3
       clear HO155
       clear HO158
       clear HO161
       clear BK110
       clear HB
       have HO_3 := n0_
       have HO155 := n1_
       have HO158 := n2_
       have HO161 := n3_
       have HO164 := n4_
       have BK110 := n5_
       have HB := n6_
       clear n0_ n1_ n2_ n3_ n4_ n5_ n6_
       (try clear hb)
       (try clear hb2)
       (try clear hk)
       (try clear hi)
       (try clear ho0)
       refine hK.out _ _ ⟨(blk_cell BK110.out 0).trans rfl, (blk_cell BK110.out 1).trans rfl, (blk_cell BK110.out 2).trans rfl, (blk_cell BK110.out 3).trans rfl, (blk_cell BK110.out 4).trans rfl, (blk_cell BK110.out 5).trans rfl⟩ (fun hHeld => ?_)
       clear hK K
       refine norm_ (a' := ?_) ?_ ?_
       rotate_left
       ·show Act.put _ (some 82) _ = _
        simp only [Act.put, List.setIfInBounds_toArray, List.set_cons_zero, List.set_cons_succ, i64_w, i32_w]
        rfl
       refine pU (i := 16) (N := some 2) #[true, true, true, true, true, true, true, true, true, true, true, true, true, true, true, true, true] HT_ ?_
       refine done_ (done_of HT_.out (by kernel_rfl)) ?_
       try go_wp2
       go_ret
       exact ⟨_, by first | rfl | (simp [errW_none, errW_some] <;> rfl) | (simp [*, errW_none, errW_some] <;> rfl), by (with_reducible repeat (first | apply Kd.R_alloc | apply Kd.R_drewN | apply Kd.R_drew)); exact Kd.R_mono HO164.out (fun _ hk => trivial), bS HB.out⟩
      rw [if_pos c47] at H
      have c47b0 : (a0_0 == 16) = true := beq_iff_eq.mpr c47
      have c47b1 : (a0_0 != 16) = false := bne_eq_false_iff_eq.mpr c47
      clear c47
      obtain ⟨y141, hy141⟩ : ∃ y_ : List Int, y_ = (([a0_1, (l0_3.length : Int)] : List Int)) := ⟨_, rfl⟩
      replace H : ((impl_putWords.f y112 y141).bind fun t144 => ((impl_putWords.f ([] : List Int) l0_3).bind fun t147 => ((impl_putCounted.f t144 t147).bind fun t150 => (some t150)))) = some r := by first | (rw [hy141]; with_reducible exact H) | (have H2_ := (Option.bind_some _ _).symm.trans H; rw [hy141]; with_reducible exact H2_) | (have H2_ := (Option.bind_some _ _).symm.trans H; with_reducible exact H2_) | with_reducible exact H | (rw [hy141]; exact H) | exact H
      have Ny141 := aM hy141
      clear hy141
      replace H := Option.bind_eq_some_iff.mp H
      obtain ⟨t144, A480, H⟩ := H
      (try dsimp only at H)
      have A48 := aM A480
      clear A480
      replace H := Option.bind_eq_some_iff.mp H
      obtain ⟨t147, A490, H⟩ := H
      (try dsimp only at H)
      have A49 := aM A490
      clear A490
      replace H := Option.bind_eq_some_iff.mp H
      obtain ⟨t150, A500, H⟩ := H
      (try dsimp only at H)
      have A50 := aM A500
      clear A500
      obtain rfl := Option.some.inj H
      try go_wp2
      have n0_ := aM (Kd.R_drew HO_3.out)
      have n1_ := aM (blk_drew BK110.out)
      have n2_ := aM (below_drew1 HB.out)
      clear HO_3
      clear BK110
      clear HB
      have HO_3 := n0_
      have BK110 := n1_
      have HB := n2_
      clear n0_ n1_ n2_
      refine start_ (n := 13) (S := fun w' => w'.cell? ⟨gb110, 0, none⟩ = some (.int .i64 a0_0) ∧ w'.cell? ⟨gb110, 1, none⟩ = some (.int .i64 a0_1) ∧ w'.cell? ⟨gb110, 2, none⟩ = some (.int .i64 a0_2) ∧ w'.cell? ⟨gb110, 3, none⟩ = some (.slice A0_3 l0_3.length c0_3) ∧ w'.cell? ⟨gb110, 4, none⟩ = some (.slice A0_4 l0_4.length c0_4) ∧ w'.cell? ⟨gb110, 5, none⟩ = some (.int .i64 a0_5)) (ds := []) #[false, false, false, false, false, false, false, false, false, false, false, false, false] (by kernel_rfl) rfl rfl ⟨(blk_cell BK110.out 0).trans rfl, (blk_cell BK110.out 1).trans rfl, (blk_cell BK110.out 2).trans rfl, (blk_cell BK110.out 3).trans rfl, (blk_cell BK110.out 4).trans rfl, (blk_cell BK110.out 5).trans rfl⟩ (fun hHeld => ?_); refine with_tabW impl_PutReq.tab15 impl_PutReq.bits15 (fun HT_ HW_ => ?_)
      generalize wc.drew = w51 at HO_3 BK110 HB hHeld ⊢
      refine pU (i := 0) (N := some 53) #[true, false, false, false, false, false, false, false, false, false, false, false, false] HT_ ?_
      refine pU (i := 1) (N := some 54) #[true, true, false, false, false, false, false, false, false, false, false, false, false] HT_ ?_
      refine pU (i := 3) (N := some 56) #[true, true, false, true, false, false, false, false, false, false, false, false, false] HT_ ?_
      refine pU (i := 8) (N := some 61) #[true, true, false, true, false, false, false, false, true, false, false, false, false] HT_ ?_
      refine take_ (i := 2) (N := some 55) (v := ?_) (a' := ?_) #[true, true, true, true, false, false, false, false, true, false, false, false, false] rfl rfl (take_ofW HT_.out HW_.out (by kernel_rfl)) (fun _ _ _ h => h) (Or.inl ⟨by rfl, ?_⟩) hHeld ?_ ?_
      rotate_left
      ·rintro w' ⟨s0, s1, s2, s3, s4, s5⟩
       go_simp
       with_reducible rfl
      rotate_left
      ·simp only [Act.put, List.setIfInBounds_toArray, List.set_cons_zero, List.set_cons_succ, i64_w, i32_w]
       rfl
      refine take_ (i := 4) (N := some 57) (v := ?_) (a' := ?_) #[true, true, true, true, true, false, false, false, true, false, false, false, false] rfl rfl (take_ofW HT_.out HW_.out (by kernel_rfl)) (fun _ _ _ h => h) (Or.inl ⟨by rfl, ?_⟩) hHeld ?_ ?_
      rotate_left
      ·rintro w' ⟨s0, s1, s2, s3, s4, s5⟩
       go_simp
       with_reducible rfl
      rotate_left
      ·simp only [Act.put, List.setIfInBounds_toArray, List.set_cons_zero, List.set_cons_succ, i64_w, i32_w]
       rfl
      refine pU (i := 5) (N := some 58) #[true, true, true, true, true, true, false, false, true, false, false, false, false] HT_ ?_
      refine take_ (i := 9) (N := some 62) (v := ?_) (a' := ?_) #[true, true, true, true, true, true, false, false, true, true, false, false, false] rfl rfl (take_ofW HT_.out HW_.out (by kernel_rfl)) (fun _ _ _ h => h) (Or.inl ⟨by rfl, ?_⟩) hHeld ?_ ?_
      rotate_left
      ·rintro w' ⟨s0, s1, s2, s3, s4, s5⟩
       go_simp
       with_reducible rfl
      rotate_left
      ·simp only [Act.put, List.setIfInBounds_toArray, List.set_cons_zero, List.set_cons_succ, i64_w, i32_w]
       rfl
      refine one_ (i := 6) (N := some 59) #[true, true, true, true, true, true, true, false, true, true, false, false, false] rfl rfl (one_of HT_.out (by kernel_rfl)) (by decide) (fun K hK => ?_)
      refine Kd.R_lit_step (Kd.int .i64) _ 3 ?hg (N := 59) ?hd (xs := ([a0_1, (l0_3.length : Int)] : List Int)) (inner := [.int .i64 a0_1, .int .i64 (l0_3.length : Int)]) (ok := fun _ => True) (okp := fun _ => True) ?hr ?hp (fun _ hk => hk) trivial (Below.refl _ _) (Nat.le_refl _) (by simp) ?_; (case hd => rfl); (case hg => rfl); (case hr => first | (go_simp; done) | (go_simp; rfl)); (case hp => exact (Reps.one (show Kd.M (Kd.int .i64) _ _ _ a0_1 [.int .i64 a0_1] from rfl) (Reps.one (show Kd.M (Kd.int .i64) _ _ _ (l0_3.length : Int) [.int .i64 (l0_3.length : Int)] from rfl) (Reps.none _ _))))
      intro v142 w52 ho53 hb hg_ hnew_
      clear hg_ hnew_
      (first | rw [← Ny141.out] at ho53 | (simp only [Int.reduceToNat] at ho53; rw [← Ny141.out] at ho53))
      have n0_ := aM (rB HO_3.out hb)
      have n1_ := aM (Kd.R_lower ho53 (below_size (bS HB.out)))
      have n2_ := aM (kB BK110.out hb)
      have n3_ := aM (below_step (bS HB.out) hb)
      clear HO_3
      clear BK110
      clear HB
      have HO_3 := n0_
      have HO143 := n1_
      have BK110 := n2_
      have HB := n3_
      clear n0_ n1_ n2_ n3_
      clear hb ho53
      obtain ⟨Ao54, co54, eo54⟩ := Kd.R_slice HO_3.out
      (first | subst eo54 | (injection eo54 with f1_ f2_ f3_; have f4_ := f1_.symm; have f5_ := f3_.symm; clear f1_ f2_ f3_; subst f4_; subst f5_))
      obtain ⟨Ao55, co55, eo55⟩ := Kd.R_slice HO143.out
      (first | subst eo55 | (injection eo55 with f1_ f2_ f3_; have f4_ := f1_.symm; have f5_ := f3_.symm; clear f1_ f2_ f3_; subst f4_; subst f5_))
      refine hK.out _ _ ⟨(blk_cell BK110.out 0).trans rfl, (blk_cell BK110.out 1).trans rfl, (blk_cell BK110.out 2).trans rfl, (blk_cell BK110.out 3).trans rfl, (blk_cell BK110.out 4).trans rfl, (blk_cell BK110.out 5).trans rfl⟩ (fun hHeld => ?_)
      clear hK K
      refine norm_ (a' := ?_) ?_ ?_
      rotate_left
      ·show Act.put _ (some 59) _ = _
       simp only [Act.put, List.setIfInBounds_toArray, List.set_cons_zero, List.set_cons_succ, i64_w, i32_w]
       rfl
      refine one_ (i := 7) (N := some 60) #[true, true, true, true, true, true, true, true, true, true, false, false, false] rfl rfl (one_of HT_.out (by kernel_rfl)) (by decide) (fun K hK => ?_)
      refine goes_ Try.func39 (by kernel_rfl) rfl #[.slice Ao54 y112.length co54, .slice Ao55 y141.length co55] (by rfl) rfl rfl (by (try simp only [List.map_toArray, List.map_cons, List.map_nil]); first | done | rfl | (simp only [List.length_drop, List.length_take]; rfl)) ?_
      with_reducible refine (impl_putWords.calls _ _ y112 _ _ y141 t144 _ ?side1 ?side2 ?side3 ?side4 A48.out).mono ?_
      (case side1 => exact cR HO_3.out)
      (case side2 => exact (Kd.R_reads' HO_3.out).2.1)
      (case side3 => exact cR HO143.out)
      (case side4 => exact (Kd.R_reads' HO143.out).2.1)
      rintro e w56 ⟨v145, rfl, ho0, hb⟩
      refine ⟨_, rfl, ?_⟩
      have n0_ := aM (Kd.R_elder' (rA HO_3.out) (Kd.R_base ho0) hb)
      have n1_ := aM (rB HO143.out hb)
      have n2_ := aM (Kd.R_lower (Kd.R_new' ho0 (Kd.R_lt (rA HO_3.out))) (below_size (bS HB.out)))
      have n3_ := aM (kB BK110.out hb)
      have n4_ := aM (below_step (bS HB.out) hb)
      clear HO_3
      clear HO143
      clear BK110
      clear HB
      have HO_3 := n0_
      have HO143 := n1_
      have HO146 := n2_
      have BK110 := n3_
      have HB := n4_
      clear n0_ n1_ n2_ n3_ n4_
      (try clear hb)
      (try clear hb2)
      (try clear hk)
      (try clear hi)
      (try clear ho0)
      refine hK.out _ _ ⟨(blk_cell BK110.out 0).trans rfl, (blk_cell BK110.out 1).trans rfl, (blk_cell BK110.out 2).trans rfl, (blk_cell BK110.out 3).trans rfl, (blk_cell BK110.out 4).trans rfl, (blk_cell BK110.out 5).trans rfl⟩ (fun hHeld => ?_)
      clear hK K
      refine norm_ (a' := ?_) ?_ ?_
      rotate_left
      ·show Act.put _ (some 60) _ = _
       simp only [Act.put, List.setIfInBounds_toArray, List.set_cons_zero, List.set_cons_succ, i64_w, i32_w]
       rfl
      refine one_ (i := 10) (N := some 63) #[true, true, true, true, true, true, true, true, true, true, true, false, false] rfl rfl (one_of HT_.out (by kernel_rfl)) (by decide) (fun K hK => ?_)
      refine goes_ Try.func39 (by kernel_rfl) rfl #[.slice none 0 0, .slice A0_3 l0_3.length c0_3] (by rfl) rfl rfl (by (try simp only [List.map_toArray, List.map_cons, List.map_nil]); first | done | rfl | (simp only [List.length_drop, List.length_take]; rfl)) ?_
      refine (impl_putWords.calls _ _ ([] : List Int) _ _ l0_3 t147 _ ?side1 ?side2 ?side3 ?side4 A49.out).mono ?_
      (case side1 => exact Kd.C_nil _ _)
      (case side2 => exact Nat.le_refl _)
      (case side3 => exact cB HR0_3.out HB.out)
      (case side4 => exact HC0_3.out)
      rintro e w57 ⟨v148, rfl, ho0, hb⟩
      refine ⟨_, rfl, ?_⟩
      have n0_ := aM (Kd.R_elder' (rA HO_3.out) (Kd.R_base ho0) hb)
      have n1_ := aM (rB HO143.out hb)
      have n2_ := aM (Kd.R_elder' (rA HO146.out) (Kd.R_base ho0) hb)
      have n3_ := aM (Kd.R_lower (Kd.R_new' (Kd.R_new' ho0 (Kd.R_lt (rA HO_3.out))) (Kd.R_lt (rA HO146.out))) (below_size (bS HB.out)))
      have n4_ := aM (kB BK110.out hb)
      have n5_ := aM (below_step (bS HB.out) hb)
      clear HO_3
      clear HO143
      clear HO146
      clear BK110
      clear HB
      have HO_3 := n0_
      have HO143 := n1_
      have HO146 := n2_
      have HO149 := n3_
      have BK110 := n4_
      have HB := n5_
      clear n0_ n1_ n2_ n3_ n4_ n5_
      (try clear hb)
      (try clear hb2)
      (try clear hk)
      (try clear hi)
      (try clear ho0)
      obtain ⟨Ao58, co58, eo58⟩ := Kd.R_slice HO146.out
      (first | subst eo58 | (injection eo58 with f1_ f2_ f3_; have f4_ := f1_.symm; have f5_ := f3_.symm; clear f1_ f2_ f3_; subst f4_; subst f5_))
      obtain ⟨Ao59, co59, eo59⟩ := Kd.R_slice HO149.out
      (first | subst eo59 | (injection eo59 with f1_ f2_ f3_; have f4_ := f1_.symm; have f5_ := f3_.symm; clear f1_ f2_ f3_; subst f4_; subst f5_))
      refine hK.out _ _ ⟨(blk_cell BK110.out 0).trans rfl, (blk_cell BK110.out 1).trans rfl, (blk_cell BK110.out 2).trans rfl, (blk_cell BK110.out 3).trans rfl, (blk_cell BK110.out 4).trans rfl, (blk_cell BK110.out 5).trans rfl⟩ (fun hHeld => ?_)
      clear hK K
      refine norm_ (a' := ?_) ?_ ?_
      rotate_left
      ·show Act.put _ (some 63) _ = _
       simp only [Act.put, List.setIfInBounds_toArray, List.set_cons_zero, List.set_cons_succ, i64_w, i32_w]
       rfl
      refine one_ (i := 11) (N := some 64) #[true, true, true, true, true, true, true, true, true, true, true, true, false] rfl rfl (one_of HT_.out (by kernel_rfl)) (by decide) (fun K hK => ?_)
      refine goes_ Try.func41 (by kernel_rfl) rfl #[.slice Ao58 t144.length co58, .slice Ao59 t147.length co59] (by rfl) rfl rfl (by (try simp only [List.map_toArray, List.map_cons, List.map_nil]); first | done | rfl | (simp only [List.length_drop, List.length_take]; rfl)) ?_
      with_reducible refine (impl_putCounted.calls _ _ t144 _ _ t147 t150 _ ?side1 ?side2 ?side3 ?side4 A50.out).mono ?_
      (case side1 => exact cR HO146.out)
      (case side2 => exact (Kd.R_reads' HO146.out).2.1)
      (case side3 => exact cR HO149.out)
      (case side4 => exact (Kd.R_reads' HO149.out).2.1)
      rintro e w60 ⟨v151, rfl, ho0, hb⟩
      refine ⟨_, rfl, ?_⟩
      have n0_ := aM (Kd.R_elder' (rA HO_3.out) (Kd.R_base ho0) hb)
      have n1_ := aM (rB HO143.out hb)
      have n2_ := aM (Kd.R_elder' (rA HO146.out) (Kd.R_base ho0) hb)
      have n3_ := aM (Kd.R_elder' (rA HO149.out) (Kd.R_base ho0) hb)
      have n4_ := aM (Kd.R_lower (Kd.R_new' (Kd.R_new' (Kd.R_new' ho0 (Kd.R_lt (rA HO_3.out))) (Kd.R_lt (rA HO146.out))) (Kd.R_lt (rA HO149.out))) (below_size (bS HB.out)))
      have n5_ := aM (kB BK110.out hb)
      have n6_ := aM (below_step (bS HB.out) hb)
      clear HO_3
      clear HO143
      clear HO146
      clear HO149
      clear BK110
      clear HB
      have HO_3 := n0_
      have HO143 := n1_
      have HO146 := n2_
      have HO149 := n3_
      have HO152 := n4_
      have BK110 := n5_
      have HB := n6_
      clear n0_ n1_ n2_ n3_ n4_ n5_ n6_
      (try clear hb)
      (try clear hb2)
      (try clear hk)
      (try clear hi)
      (try clear ho0)
      refine hK.out _ _ ⟨(blk_cell BK110.out 0).trans rfl, (blk_cell BK110.out 1).trans rfl, (blk_cell BK110.out 2).trans rfl, (blk_cell BK110.out 3).trans rfl, (blk_cell BK110.out 4).trans rfl, (blk_cell BK110.out 5).trans rfl⟩ (fun hHeld => ?_)
      clear hK K
      refine norm_ (a' := ?_) ?_ ?_
      rotate_left
      ·show Act.put _ (some 64) _ = _
       simp only [Act.put, List.setIfInBounds_toArray, List.set_cons_zero, List.set_cons_succ, i64_w, i32_w]
       rfl
      refine pU (i := 12) (N := some 2) #[true, true, true, true, true, true, true, true, true, true, true, true, true] HT_ ?_
      refine done_ (done_of HT_.out (by kernel_rfl)) ?_
      try go_wp2
      go_ret
      exact ⟨_, by first | rfl | (simp [errW_none, errW_some] <;> rfl) | (simp [*, errW_none, errW_some] <;> rfl), by (with_reducible repeat (first | apply Kd.R_alloc | apply Kd.R_drewN | apply Kd.R_drew)); exact Kd.R_mono HO152.out (fun _ hk => trivial), bS HB.out⟩
end Go.Proofs.Yteoghpcgompajaa.PFnAsked
