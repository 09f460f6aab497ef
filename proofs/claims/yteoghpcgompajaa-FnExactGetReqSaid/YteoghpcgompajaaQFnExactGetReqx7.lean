/- Functions and contracts of the law FnExactGetReq: what the Go text computes, step by step. -/
import Derived.Test.YteoghpcgompajaaL
import Derived.Test.YteoghpcgompajaaQFnExactGetReqx0
import Derived.Test.YteoghpcgompajaaQFnExactGetReqx3
import Derived.Test.YteoghpcgompajaaQFnExactGetReqx5
import Derived.Test.YteoghpcgompajaaQFnExactGetReqx6
namespace Go.Proofs.Yteoghpcgompajaa.PFnExactGetReq
open Go.Proofs.Yteoghpcgompajaa.K Go.Proofs.Yteoghpcgompajaa.G Go.RowKit Go.Proofs.YteoghpcgompajaaW.PrintWords Go.Proofs.YteoghpcgompajaaW.PrintLast Go.Proofs.YteoghpcgompajaaW.PrintMore
attribute [local go_sem] max2_int min2_int max_two min_two max_three min_three max_four min_four   -- for this text's walks alone
set_option linter.unusedVariables false
set_option linter.unusedSimpArgs false

/-! ### spec_GetReq: function 18 -/
mutual
def spec_GetReq.j0 : Nat → List Int → Bool → Option (Int × Int × Int × List Int × List Bool × Int × Int)
 | 0, _, _ => none
 | k + 1, x0, x17 => if x17 = true then (some (0, 0, 0, ([] : List Int), ([] : List Bool), 0, 1)) else (if 0 < (x0.length : Int) then ((spec_WordAt.f x0 1).bind fun bt275 => ((spec_WordAt.f x0 3).bind fun bt277 => (if (wrap64 (rd x0 0)) = 5 then (spec_GetReq.j2 k x0 (wrap64 (rd x0 0)) bt275.1 0 ([] : List Int) (([(bt277.1 != 0)] : List Bool)) 0) else (if (wrap64 (rd x0 0)) = 6 then (spec_GetReq.j1 k x0 bt277.1 (wrap64 (rd x0 0)) ((wrap64 (rd x0 0)) == 6) (wrap64 (rd x0 0)) bt275.1 0 0) else (spec_GetReq.j1 k x0 bt277.1 (wrap64 (rd x0 0)) ((wrap64 (rd x0 0)) == 22) (wrap64 (rd x0 0)) bt275.1 0 0))))) else (none))
def spec_GetReq.j2 : Nat → List Int → Int → Int → Int → List Int → List Bool → Int → Option (Int × Int × Int × List Int × List Bool × Int × Int)
 | 0, _, _, _, _, _, _, _ => none
 | k + 1, x0, x275000, x275001, x275002, x275003, x275004, x275005 => (spec_ReqOk.f k x275000 x275001 x275002 x275003 x275004 x275005).bind fun t298 => (if t298 = true then ((spec_PutReq.f k x275000 x275001 x275002 x275003 x275004 x275005).bind fun t299 => ((spec_l3Same.f k t299 x0).bind fun t302 => (if t302 = true then (some (x275000, x275001, x275002, x275003, x275004, x275005, 0)) else (some (0, 0, 0, ([] : List Int), ([] : List Bool), 0, 3))))) else (some (0, 0, 0, ([] : List Int), ([] : List Bool), 0, 3)))
def spec_GetReq.j1 : Nat → List Int → Int → Int → Bool → Int → Int → Int → Int → Option (Int × Int × Int × List Int × List Bool × Int × Int)
 | 0, _, _, _, _, _, _, _, _ => none
 | k + 1, x0, x5, x36, x45, x275000, x275001, x275002, x275005 => if x45 = true then ((spec_l3GetWords.f k x0 3).bind fun t282 => (spec_GetReq.j2 k x0 x275000 x275001 x275002 t282 ([] : List Bool) x275005)) else (if x36 = 15 then (if (x0.length : Int) > 6 then (if 6 ≤ (x0.length : Int) then ((spec_UnpackBits.f k (x0.drop 6) x5).bind fun bt286 => (spec_GetReq.j2 k x0 x275000 x275001 x275002 ([] : List Int) bt286.1 x275005)) else (none)) else (spec_GetReq.j2 k x0 x275000 x275001 x275002 ([] : List Int) ([] : List Bool) x275005)) else (if x36 = 16 then ((spec_l3GetWords.f k x0 6).bind fun t290 => (spec_GetReq.j2 k x0 x275000 x275001 x275002 t290 ([] : List Bool) x275005)) else (if x36 = 23 then ((spec_WordAt.f x0 5).bind fun bt293 => ((spec_l3GetWords.f k x0 10).bind fun t295 => (spec_GetReq.j2 k x0 x275000 x275001 x5 t295 ([] : List Bool) bt293.1))) else (spec_GetReq.j2 k x0 x275000 x275001 x5 ([] : List Int) ([] : List Bool) x275005))))
end
def spec_GetReq.f (k : Nat) (l0 : List Int) : Option (Int × Int × Int × List Int × List Bool × Int × Int) := if (l0.length : Int) = 0 then (spec_GetReq.j0 k l0 true) else (if 0 < (l0.length : Int) then ((spec_l3Kind.f (wrap64 (rd l0 0))).bind fun t272 => (spec_GetReq.j0 k l0 (!t272))) else (none))
theorem spec_GetReq.mono_l : ∀ k, (∀ y0 y1, LeO (spec_GetReq.j0 k y0 y1) (spec_GetReq.j0 (k + 1) y0 y1)) ∧ (∀ y0 y1 y2 y3 y4 y5 y6, LeO (spec_GetReq.j2 k y0 y1 y2 y3 y4 y5 y6) (spec_GetReq.j2 (k + 1) y0 y1 y2 y3 y4 y5 y6)) ∧ (∀ y0 y1 y2 y3 y4 y5 y6 y7, LeO (spec_GetReq.j1 k y0 y1 y2 y3 y4 y5 y6 y7) (spec_GetReq.j1 (k + 1) y0 y1 y2 y3 y4 y5 y6 y7))
 | 0 => ⟨fun _ _ r h => by simp [spec_GetReq.j0] at h, fun _ _ _ _ _ _ _ r h => by simp [spec_GetReq.j2] at h, fun _ _ _ _ _ _ _ _ r h => by simp [spec_GetReq.j1] at h⟩
 | k + 1 => by
  obtain ⟨ih0, ih1, ih2⟩ := spec_GetReq.mono_l k
  refine ⟨?_, ?_, ?_⟩
  ·intro y0 y1
   unfold spec_GetReq.j0
   repeat' first
   | (with_reducible exact ih0 _ _)
   | (with_reducible exact ih1 _ _ _ _ _ _ _)
   | (with_reducible exact ih2 _ _ _ _ _ _ _ _)
   | (with_reducible exact spec_PutReq.mono _ _ _ _ _ _ _)
   | (with_reducible exact spec_ReqOk.mono _ _ _ _ _ _ _)
   | (with_reducible exact spec_UnpackBits.mono _ _ _)
   | (with_reducible exact spec_l3GetWords.mono _ _ _)
   | (with_reducible exact spec_l3Same.mono _ _ _)
   | (with_reducible exact LeO.refl _)
   | (with_reducible exact LeO.none _)
   | (with_reducible refine LeO.ite ?_ ?_)
   | (with_reducible refine LeO.bind ?_ (fun _ => ?_))
   | exact ih0 _ _
   | exact ih1 _ _ _ _ _ _ _
   | exact ih2 _ _ _ _ _ _ _ _
   | exact spec_PutReq.mono _ _ _ _ _ _ _
   | exact spec_ReqOk.mono _ _ _ _ _ _ _
   | exact spec_UnpackBits.mono _ _ _
   | exact spec_l3GetWords.mono _ _ _
   | exact spec_l3Same.mono _ _ _
   | exact LeO.none _
   | refine LeO.ite ?_ ?_
   | refine LeO.bind ?_ (fun _ => ?_)
  ·intro y0 y1 y2 y3 y4 y5 y6
   unfold spec_GetReq.j2
   repeat' first
   | (with_reducible exact ih0 _ _)
   | (with_reducible exact ih1 _ _ _ _ _ _ _)
   | (with_reducible exact ih2 _ _ _ _ _ _ _ _)
   | (with_reducible exact spec_PutReq.mono _ _ _ _ _ _ _)
   | (with_reducible exact spec_ReqOk.mono _ _ _ _ _ _ _)
   | (with_reducible exact spec_UnpackBits.mono _ _ _)
   | (with_reducible exact spec_l3GetWords.mono _ _ _)
   | (with_reducible exact spec_l3Same.mono _ _ _)
   | (with_reducible exact LeO.refl _)
   | (with_reducible exact LeO.none _)
   | (with_reducible refine LeO.ite ?_ ?_)
   | (with_reducible refine LeO.bind ?_ (fun _ => ?_))
   | exact ih0 _ _
   | exact ih1 _ _ _ _ _ _ _
   | exact ih2 _ _ _ _ _ _ _ _
   | exact spec_PutReq.mono _ _ _ _ _ _ _
   | exact spec_ReqOk.mono _ _ _ _ _ _ _
   | exact spec_UnpackBits.mono _ _ _
   | exact spec_l3GetWords.mono _ _ _
   | exact spec_l3Same.mono _ _ _
   | exact LeO.none _
   | refine LeO.ite ?_ ?_
   | refine LeO.bind ?_ (fun _ => ?_)
  ·intro y0 y1 y2 y3 y4 y5 y6 y7
   unfold spec_GetReq.j1
   repeat' first
   | (with_reducible exact ih0 _ _)
   | (with_reducible exact ih1 _ _ _ _ _ _ _)
   | (with_reducible exact ih2 _ _ _ _ _ _ _ _)
   | (with_reducible exact spec_PutReq.mono _ _ _ _ _ _ _)
   | (with_reducible exact spec_ReqOk.mono _ _ _ _ _ _ _)
   | (with_reducible exact spec_UnpackBits.mono _ _ _)
   | (with_reducible exact spec_l3GetWords.mono _ _ _)
   | (with_reducible exact spec_l3Same.mono _ _ _)
   | (with_reducible exact LeO.refl _)
   | (with_reducible exact LeO.none _)
   | (with_reducible refine LeO.ite ?_ ?_)
   | (with_reducible refine LeO.bind ?_ (fun _ => ?_))
   | exact ih0 _ _
   | exact ih1 _ _ _ _ _ _ _
   | exact ih2 _ _ _ _ _ _ _ _
   | exact spec_PutReq.mono _ _ _ _ _ _ _
   | exact spec_ReqOk.mono _ _ _ _ _ _ _
   | exact spec_UnpackBits.mono _ _ _
   | exact spec_l3GetWords.mono _ _ _
   | exact spec_l3Same.mono _ _ _
   | exact LeO.none _
   | refine LeO.ite ?_ ?_
   | refine LeO.bind ?_ (fun _ => ?_)
theorem spec_GetReq.mono : ∀ a0 k, LeO (spec_GetReq.f k a0) (spec_GetReq.f (k + 1) a0) := by
 intro a0 k
 obtain ⟨ih0, ih1, ih2⟩ := spec_GetReq.mono_l k
 unfold spec_GetReq.f
 repeat' first
   | (with_reducible exact ih0 _ _)
   | (with_reducible exact ih1 _ _ _ _ _ _ _)
   | (with_reducible exact ih2 _ _ _ _ _ _ _ _)
   | (with_reducible exact spec_PutReq.mono _ _ _ _ _ _ _)
   | (with_reducible exact spec_ReqOk.mono _ _ _ _ _ _ _)
   | (with_reducible exact spec_UnpackBits.mono _ _ _)
   | (with_reducible exact spec_l3GetWords.mono _ _ _)
   | (with_reducible exact spec_l3Same.mono _ _ _)
   | (with_reducible exact LeO.refl _)
   | (with_reducible exact LeO.none _)
   | (with_reducible refine LeO.ite ?_ ?_)
   | (with_reducible refine LeO.bind ?_ (fun _ => ?_))
   | exact ih0 _ _
   | exact ih1 _ _ _ _ _ _ _
   | exact ih2 _ _ _ _ _ _ _ _
   | exact spec_PutReq.mono _ _ _ _ _ _ _
   | exact spec_ReqOk.mono _ _ _ _ _ _ _
   | exact spec_UnpackBits.mono _ _ _
   | exact spec_l3GetWords.mono _ _ _
   | exact spec_l3Same.mono _ _ _
   | exact LeO.none _
   | refine LeO.ite ?_ ?_
   | refine LeO.bind ?_ (fun _ => ?_)
set_option maxHeartbeats 8000000 in
set_option maxRecDepth 100000 in
theorem spec_GetReq.calls (k : Nat) (A0 : Option Addr) (c0 : Nat) (l0 : List Int) (r1 : Int) (r2 : Int) (r3 : Int) (r4 : List Int) (r5 : List Bool) (r6 : Int) (r7 : Int) (w : World) (hr0 : Kd.C (Kd.int .u8) w A0 l0.length l0) (hc0 : l0.length ≤ c0) (h : spec_GetReq.f k l0 = some (r1, r2, r3, r4, r5, r6, r7)) :
  Calls Try.prog 18 #[.slice A0 l0.length c0] w fun e w' => ∃ v3_ v4_ : Value, e = .returned (.tuple #[.agg #[.int .i64 r1, .int .i64 r2, .int .i64 r3, v3_, v4_, .int .i64 r6], .int .i64 r7]) ∧ Kd.R (Kd.int .i64) 3 w' w.heap.size (fun _ => True) v3_ r4 ∧ Kd.R Kd.bool 4 w' w.heap.size (fun _ => True) v4_ r5 ∧ Below w.heap.size w w' := by
 have hu29 := Try.underlying29
 have HR0 := aM hr0
 have HC0 := aM hc0
 clear hr0 hc0
 have HB := aM (Below.refl w.heap.size w)
 have H : (if (l0.length : Int) = 0 then (spec_GetReq.j0 k l0 true) else (if 0 < (l0.length : Int) then ((spec_l3Kind.f (wrap64 (rd l0 0))).bind fun t272 => (spec_GetReq.j0 k l0 (!t272))) else (none))) = some (r1, r2, r3, r4, r5, r6, r7) := h
 clear h
 have HC2 := aM H
 clear H
 go_enter Try.func18, Try.ntmps18
 go_upto_region 1 with (first | ((with_reducible refine gate_dst (N := 2) rfl ?_); refine box_event ?hg (N := 2) ?hd (cs := #[.int .i64 0, .int .i64 0, .int .i64 0, .slice none 0 0, .slice none 0 0, .int .i64 0]) (t := 29) ?hr ?_; (case hd => rfl); (case hg => rfl); (case hr => first | (go_simp; done) | (go_simp; rfl)); intro gb270 hg w3 hbox hb; have _ := aM (below_step (bS HB.out) hb); have _ := aM (hbox); have _ := aM (leG hg (bS HB.out)); have _ := aM (leG hg (bS HB.out)); clear HB; rename_i HB BK270 GW270 GE270; clear hb hbox hg))
 (try simp only [Act.put, List.setIfInBounds_toArray, List.set_cons_zero, List.set_cons_succ])
 go_cut [17] (fun v17 wc => ∃ (kq : Nat) (x17_1 : Bool), v17 = .bool x17_1 ∧ Aside0 (spec_GetReq.j0 kq l0 x17_1 = some (r1, r2, r3, r4, r5, r6, r7)) ∧ Aside0 (kq ≤ k) ∧ Aside0 (wc.heap[gb270]? = some (.cells #[.int .i64 0, .int .i64 0, .int .i64 0, (.slice none 0 0), (.slice none 0 0), .int .i64 0] 29 (0, 0))) ∧ Aside0 (Below w.heap.size w wc))
 case first =>
  have H := HC2.out
  clear HC2
  by_cases c4 : (l0.length : Int) = 0
  ·rw [if_pos c4] at H
   have c4b0 : ((l0.length : Int) == 0) = true := beq_iff_eq.mpr c4
   have c4b1 : ((l0.length : Int) != 0) = false := bne_eq_false_iff_eq.mpr c4
   clear c4
   (first | rw [c4b0] | (simp only [i64_w, i32_w]; rw [c4b0]) | skip)
   have H' := aM H
   clear H
   go_wp2
   go_meet
   case rel => exact ⟨_, (true), (by first | rfl | (simp; done) | (simp [*]; done)), H', ⟨by first | omega | exact Nat.le_refl _⟩, ⟨kX BK270.out⟩, ⟨bS HB.out⟩⟩
  ·rw [if_neg c4] at H
   have c4b0 : ((l0.length : Int) == 0) = false := beq_eq_false_iff_ne.mpr c4
   have c4b1 : ((l0.length : Int) != 0) = true := bne_iff_ne.mpr c4
   have c4b2 : ¬ (l0 = []) := fun h_ => c4 (by rw [h_]; rfl)
   (first | rw [c4b0] | (simp only [i64_w, i32_w]; rw [c4b0]) | skip)
   by_cases c5 : 0 < (l0.length : Int)
   ·rw [if_pos c5] at H
    have c5b0 : decide (0 < (l0.length : Int)) = true := decide_eq_true c5
    have c5b1 : decide (0 < l0.length) = true := decide_eq_true (by omega)
    clear c5
    replace H := Option.bind_eq_some_iff.mp H
    obtain ⟨t272, A60, H⟩ := H
    replace H : (spec_GetReq.j0 k l0 (!t272)) = some (r1, r2, r3, r4, r5, r6, r7) := H
    have A6 := aM A60
    clear A60
    have H' := aM H
    clear H
    have p271 : 0 ≤ (0 : Int) := (by omega)
    have q271 : 0 < (l0.length : Int) := of_decide_eq_true (by first | (with_reducible assumption) | assumption)
    obtain ⟨ad271, e271, hx271_0⟩ := Kd.at_int HR0.out 0 p271 q271
    cases e271
    have qi271 : (0 < l0.length) = True := eq_true (by omega)
    (try rw [show ((0 : Int)).toNat = 0 from rfl] at hx271_0)
    (try rw [Addr.add_zero'] at hx271_0)
    replace hx271_0 := (HB.out.cell (World.block_lt_of_cell? w _ hx271_0)).trans hx271_0
    replace p271 := eq_true p271
    replace q271 := eq_true q271
    go_wp2_with (first | (go_at_call 45; (with_reducible refine (spec_l3Kind.calls (wrap64 (rd l0 0)) t272 _ A6.out).mono ?_); rintro e w' ⟨rfl, ⟨nd, rfl⟩⟩))
    go_meet
    case rel => exact ⟨_, (!t272), (by first | rfl | (simp; done) | (simp [*]; done)), H', ⟨by first | omega | exact Nat.le_refl _⟩, ⟨kX BK270.out⟩, ⟨bS HB.out⟩⟩
   ·rw [if_neg c5] at H
    exact absurd H (by simp)
 case rest =>
  clear HC2
  obtain ⟨kq, x17_1, rfl, HA, HJ1, BK270, HB⟩ := hcut
  cases kq with
  | zero => exact absurd HA.out (by simp [spec_GetReq.j0])
  | succ kj1 =>
   have H := HA.out
   clear HA
   simp only [spec_GetReq.j0] at H
   by_cases c7 : x17_1 = true
   ·subst c7
    have H1 : (some (0, 0, 0, ([] : List Int), ([] : List Bool), 0, 1)) = some (r1, r2, r3, r4, r5, r6, r7) := by rw [if_pos rfl] at H; exact H
    clear H
    have H := H1
    clear H1
    simp only [Option.some.injEq, Prod.mk.injEq] at H
    obtain ⟨rfl, rfl, rfl, rfl, rfl, rfl, rfl⟩ := H
    obtain ⟨hcz8_0, hfz8_0, hcz8_1, hfz8_1, hcz8_2, hfz8_2, hcz8_3, hfz8_3, hcz8_4, hfz8_4, hcz8_5, hfz8_5⟩ := bk6 BK270.out
    go_wp2
    refine bodyPost_ret (results_ct rfl _ _ gb270 29 #[.int .i64 0, .int .i64 0, .int .i64 0, .slice none 0 0, .slice none 0 0, .int .i64 0] (0, 0) _ rfl (kP6 BK270.out) Try.underlying29 rfl (by kernel_rfl)) rfl ?_
    exact ⟨_, _, by first | rfl | (simp [errW_none, errW_some] <;> rfl) | (simp [*, errW_none, errW_some] <;> rfl), by first | exact Kd.R_nil _ _ _ _ _ | exact Kd.N_nil _ _ _ _ _ | exact Kd.V_nil _ _ _ _ _ | exact Kd.Q_nil _ _ _ _ _ | exact Kd.S_nil _ _ _ _ _, by first | exact Kd.R_nil _ _ _ _ _ | exact Kd.N_nil _ _ _ _ _ | exact Kd.V_nil _ _ _ _ _ | exact Kd.Q_nil _ _ _ _ _ | exact Kd.S_nil _ _ _ _ _, bS HB.out⟩
   ·replace c7 := Bool.eq_false_iff.mpr c7
    subst c7
    have H1 : (if 0 < (l0.length : Int) then ((spec_WordAt.f l0 1).bind fun bt275 => ((spec_WordAt.f l0 3).bind fun bt277 => (if (wrap64 (rd l0 0)) = 5 then (spec_GetReq.j2 kj1 l0 (wrap64 (rd l0 0)) bt275.1 0 ([] : List Int) (([(bt277.1 != 0)] : List Bool)) 0) else (if (wrap64 (rd l0 0)) = 6 then (spec_GetReq.j1 kj1 l0 bt277.1 (wrap64 (rd l0 0)) ((wrap64 (rd l0 0)) == 6) (wrap64 (rd l0 0)) bt275.1 0 0) else (spec_GetReq.j1 kj1 l0 bt277.1 (wrap64 (rd l0 0)) ((wrap64 (rd l0 0)) == 22) (wrap64 (rd l0 0)) bt275.1 0 0))))) else (none)) = some (r1, r2, r3, r4, r5, r6, r7) := by rw [if_neg (show ¬ (false = true) by decide)] at H; exact H
    clear H
    have H := H1
    clear H1
    by_cases c9 : 0 < (l0.length : Int)
    ·rw [if_pos c9] at H
     have c9b0 : decide (0 < (l0.length : Int)) = true := decide_eq_true c9
     have c9b1 : decide (0 < l0.length) = true := decide_eq_true (by omega)
     clear c9
     replace H := Option.bind_eq_some_iff.mp H
     obtain ⟨⟨t275, t276⟩, A100, H⟩ := H
     replace H : ((spec_WordAt.f l0 3).bind fun bt277 => (if (wrap64 (rd l0 0)) = 5 then (spec_GetReq.j2 kj1 l0 (wrap64 (rd l0 0)) t275 0 ([] : List Int) (([(bt277.1 != 0)] : List Bool)) 0) else (if (wrap64 (rd l0 0)) = 6 then (spec_GetReq.j1 kj1 l0 bt277.1 (wrap64 (rd l0 0)) ((wrap64 (rd l0 0)) == 6) (wrap64 (rd l0 0)) t275 0 0) else (spec_GetReq.j1 kj1 l0 bt277.1 (wrap64 (rd l0 0)) ((wrap64 (rd l0 0)) == 22) (wrap64 (rd l0 0)) t275 0 0)))) = some (r1, r2, r3, r4, r5, r6, r7) := H
     have A10 := aM A100
     clear A100
     replace H := Option.bind_eq_some_iff.mp H
     obtain ⟨⟨t277, t278⟩, A110, H⟩ := H
     replace H : (if (wrap64 (rd l0 0)) = 5 then (spec_GetReq.j2 kj1 l0 (wrap64 (rd l0 0)) t275 0 ([] : List Int) (([(t277 != 0)] : List Bool)) 0) else (if (wrap64 (rd l0 0)) = 6 then (spec_GetReq.j1 kj1 l0 t277 (wrap64 (rd l0 0)) ((wrap64 (rd l0 0)) == 6) (wrap64 (rd l0 0)) t275 0 0) else (spec_GetReq.j1 kj1 l0 t277 (wrap64 (rd l0 0)) ((wrap64 (rd l0 0)) == 22) (wrap64 (rd l0 0)) t275 0 0))) = some (r1, r2, r3, r4, r5, r6, r7) := H
     have A11 := aM A110
     clear A110
     have HC12 := aM H
     clear H
     have p273 : 0 ≤ (0 : Int) := (by omega)
     have q273 : 0 < (l0.length : Int) := of_decide_eq_true (by first | (with_reducible assumption) | assumption)
     obtain ⟨ad273, e273, hx273_0⟩ := Kd.at_int HR0.out 0 p273 q273
     cases e273
     have qi273 : (0 < l0.length) = True := eq_true (by omega)
     (try rw [show ((0 : Int)).toNat = 0 from rfl] at hx273_0)
     (try rw [Addr.add_zero'] at hx273_0)
     replace hx273_0 := (HB.out.cell (World.block_lt_of_cell? w _ hx273_0)).trans hx273_0
     replace p273 := eq_true p273
     replace q273 := eq_true q273
     go_upto_block 0 with (first | ((with_reducible refine gate_dst (N := 4) rfl ?_); refine box_event ?hg (N := 4) ?hd (cs := #[.int .i64 0, .int .i64 0, .int .i64 0, .slice none 0 0, .slice none 0 0, .int .i64 0]) (t := 29) ?hr ?_; (case hd => rfl); (case hg => rfl); (case hr => first | (go_simp; done) | (go_simp; rfl)); intro gb274 hg w13 hbox hb; have _ := aM (kB BK270.out hb); have _ := aM (below_step (bS HB.out) hb); have _ := aM (hbox); have _ := aM (leG hg (bS HB.out)); have _ := aM (leG hg (bS HB.out)); have _ := aM (neL hg (kA BK270.out)); have _ := aM (neG hg (kA BK270.out)); clear BK270 HB; rename_i BK270 HB BK274 GW274 GE274 NB270_274 NB274_270; clear hb hbox hg; have hnb14 := NB274_270.out; have hnc14 := NB270_274.out; obtain ⟨hcz15_0, hfz15_0, hcz15_1, hfz15_1, hcz15_2, hfz15_2, hcz15_3, hfz15_3, hcz15_4, hfz15_4, hcz15_5, hfz15_5⟩ := bk6 BK274.out) | ((with_reducible refine gate_callee (f := 46) rfl ?_); refine gL (some 26) rfl rfl Try.func46 (by kernel_rfl) rfl #[.slice (some ad273) l0.length c0, .int .i64 1] rfl ?_; (with_reducible refine (spec_WordAt.calls _ _ l0 1 t275 t276 _ ?side1 ?side2 A10.out).mono ?_); (case side1 => exact Kd.C_below HR0.out (bS HB.out)); (case side2 => exact HC0.out); rintro e w' ⟨rfl, ⟨nd, rfl⟩⟩; refine ⟨_, rfl, ?_⟩) | ((with_reducible refine gate_callee (f := 46) rfl ?_); refine gL (some 32) rfl rfl Try.func46 (by kernel_rfl) rfl #[.slice (some ad273) l0.length c0, .int .i64 3] rfl ?_; (with_reducible refine (spec_WordAt.calls _ _ l0 3 t277 t278 _ ?side1 ?side2 A11.out).mono ?_); (case side1 => exact Kd.C_below HR0.out (bS HB.out)); (case side2 => exact HC0.out); rintro e w' ⟨rfl, ⟨nd, rfl⟩⟩; refine ⟨_, rfl, ?_⟩))
     (try simp only [Act.put, List.setIfInBounds_toArray, List.set_cons_zero, List.set_cons_succ])
     go_cut [] (fun wc => ∃ (kq : Nat) (x275002_11 : Int) (x275003_11 : List Int) (x275004_11 : List Bool) (x275005_11 : Int) (u275003 : Value) (u275004 : Value), Aside0 (spec_GetReq.j2 kq l0 (wrap64 (rd l0 0)) t275 x275002_11 x275003_11 x275004_11 x275005_11 = some (r1, r2, r3, r4, r5, r6, r7)) ∧ Aside0 (kq ≤ kj1) ∧ Aside0 (Kd.R (Kd.int .i64) 3 wc w.heap.size (fun _ => True) u275003 x275003_11) ∧ Aside0 (Kd.R Kd.bool 4 wc w.heap.size (fun _ => True) u275004 x275004_11) ∧ Aside0 (wc.heap[gb270]? = some (.cells #[.int .i64 0, .int .i64 0, .int .i64 0, (.slice none 0 0), (.slice none 0 0), .int .i64 0] 29 (0, 0))) ∧ Aside0 (wc.heap[gb274]? = some (.cells #[.int .i64 (wrap64 (rd l0 0)), .int .i64 t275, .int .i64 x275002_11, u275003, u275004, .int .i64 x275005_11] 29 (0, 0))) ∧ Aside0 (Below w.heap.size w wc))
     case first =>
      have H := HC12.out
      clear HC12
      by_cases c16 : (wrap64 (rd l0 0)) = 5
      ·rw [if_pos c16] at H
       have c16b0 : ((wrap64 (rd l0 0)) == 5) = true := beq_iff_eq.mpr c16
       have c16b1 : ((wrap64 (rd l0 0)) != 5) = false := bne_eq_false_iff_eq.mpr c16
       clear c16
       (first | rw [c16b0] | (simp only [i64_w, i32_w]; rw [c16b0]) | skip)
       obtain ⟨y279, hy279⟩ : ∃ y_ : List Bool, y_ = (([(t277 != 0)] : List Bool)) := ⟨_, rfl⟩
       replace H : (spec_GetReq.j2 kj1 l0 (wrap64 (rd l0 0)) t275 0 ([] : List Int) y279 0) = some (r1, r2, r3, r4, r5, r6, r7) := by first | (rw [hy279]; with_reducible exact H) | (have H2_ := (Option.bind_some _ _).symm.trans H; rw [hy279]; with_reducible exact H2_) | (have H2_ := (Option.bind_some _ _).symm.trans H; with_reducible exact H2_) | with_reducible exact H | (rw [hy279]; exact H) | exact H
       have Ny279 := aM hy279
       clear hy279
       have H' := aM H
       clear H
       go_wp2_with (first | ((with_reducible refine gate_dst (N := 43) rfl ?_); refine Kd.R_lit Kd.bool _ 4 ?hg (N := 43) ?hd (xs := ([(t277 != 0)] : List Bool)) (inner := [.bool (t277 != 0)]) (ok := fun _ => True) (okp := fun _ => True) ?hr ?hp (fun _ hk => hk) trivial (Below.refl _ _) (Nat.le_refl _) (by simp) ?_; (case hd => rfl); (case hg => rfl); (case hr => first | (go_simp; done) | (go_simp; rfl)); (case hp => exact (Reps.one (show Kd.M Kd.bool _ _ _ (t277 != 0) [.bool (t277 != 0)] from rfl) (Reps.none _ _))); intro v280 w17 ho18 hb hg_ hnew_; clear hg_ hnew_; (first | rw [← Ny279.out] at ho18 | (simp only [Int.reduceToNat] at ho18; rw [← Ny279.out] at ho18)); have _ := aM (Kd.R_lower ho18 (below_size (bS HB.out))); have _ := aM (blk_below (g := gb270) (o := .cells #[.int .i64 0, .int .i64 0, .int .i64 0, .slice none 0 0, .slice none 0 0, .int .i64 0] 29 (0, 0)) (kX BK270.out) hb); have _ := aM (blk_below (g := gb274) (o := .cells #[.int .i64 (wrap64 (rd l0 0)), .int .i64 t275, .int .i64 0, .slice none 0 0, .slice none 0 0, .int .i64 0] 29 (0, 0)) (kX BK274.out) hb); have _ := aM (below_step (bS HB.out) hb); clear BK270 BK274 HB; rename_i HO281 BK270 BK274 HB; clear hb ho18; obtain ⟨Ao19, co19, eo19⟩ := Kd.R_slice HO281.out; subst eo19; have hnb20 := NB274_270.out; have hnc20 := NB270_274.out; obtain ⟨hcz21_0, hfz21_0, hcz21_1, hfz21_1, hcz21_2, hfz21_2, hcz21_3, hfz21_3, hcz21_4, hfz21_4, hcz21_5, hfz21_5⟩ := bk6 BK274.out))
       go_meet
       case rel => exact ⟨_, (0), (([] : List Int)), (y279), (0), (.slice none 0 0), (.slice Ao19 y279.length co19), H', ⟨by have := HJ1.out; first | omega | exact Nat.le_refl _⟩, ⟨by first | exact Kd.R_nil _ _ _ _ _ | exact Kd.N_nil _ _ _ _ _ | exact Kd.V_nil _ _ _ _ _ | exact Kd.Q_nil _ _ _ _ _ | exact Kd.S_nil _ _ _ _ _⟩, ⟨by (with_reducible repeat (first | apply Kd.R_alloc | apply Kd.R_drewN | apply Kd.R_drew)); exact Kd.R_mono (Kd.R_far (p := ⟨gb274, 4, none⟩) (Kd.R_types HO281.out BK274.out (by decide)) (fun _ hk => hk.2) (.slice Ao19 y279.length co19)) (fun _ hk => trivial)⟩, ⟨kX BK270.out⟩, ⟨kX BK274.out⟩, ⟨bS HB.out⟩⟩
      ·rw [if_neg c16] at H
       have c16b0 : ((wrap64 (rd l0 0)) == 5) = false := beq_eq_false_iff_ne.mpr c16
       have c16b1 : ((wrap64 (rd l0 0)) != 5) = true := bne_iff_ne.mpr c16
       (first | rw [c16b0] | (simp only [i64_w, i32_w]; rw [c16b0]) | skip)
       have HC22 := aM H
       clear H
       go_upto_if 45 with (fail)
       go_cut [45] (fun v45 wc => ∃ (kq : Nat) (x45_21 : Bool), v45 = .bool x45_21 ∧ Aside0 (spec_GetReq.j1 kq l0 t277 (wrap64 (rd l0 0)) x45_21 (wrap64 (rd l0 0)) t275 0 0 = some (r1, r2, r3, r4, r5, r6, r7)) ∧ Aside0 (kq ≤ kj1) ∧ Aside0 (wc.heap[gb270]? = some (.cells #[.int .i64 0, .int .i64 0, .int .i64 0, (.slice none 0 0), (.slice none 0 0), .int .i64 0] 29 (0, 0))) ∧ Aside0 (wc.heap[gb274]? = some (.cells #[.int .i64 (wrap64 (rd l0 0)), .int .i64 t275, .int .i64 0, (.slice none 0 0), (.slice none 0 0), .int .i64 0] 29 (0, 0))) ∧ Aside0 (Below w.heap.size w wc))
       case first =>
        have H := HC22.out
        clear HC22
        by_cases c23 : (wrap64 (rd l0 0)) = 6
        ·rw [if_pos c23] at H
         have c23b0 : ((wrap64 (rd l0 0)) == 6) = true := beq_iff_eq.mpr c23
         have c23b1 : ((wrap64 (rd l0 0)) != 6) = false := bne_eq_false_iff_eq.mpr c23
         clear c23
         (first | rw [c23b0] | (simp only [i64_w, i32_w]; rw [c23b0]) | skip)
         have H' := aM H
         clear H
         go_wp2
         go_meet
         case rel => exact ⟨_, (((wrap64 (rd l0 0)) == 6)), (by first | rfl | (simp; done) | (simp [*]; done)), H', ⟨by have := HJ1.out; first | omega | exact Nat.le_refl _⟩, ⟨kX BK270.out⟩, ⟨kX BK274.out⟩, ⟨bS HB.out⟩⟩
        ·rw [if_neg c23] at H
         have c23b0 : ((wrap64 (rd l0 0)) == 6) = false := beq_eq_false_iff_ne.mpr c23
         have c23b1 : ((wrap64 (rd l0 0)) != 6) = true := bne_iff_ne.mpr c23
         (first | rw [c23b0] | (simp only [i64_w, i32_w]; rw [c23b0]) | skip)
         have H' := aM H
         clear H
         go_wp2
         go_meet
         case rel => exact ⟨_, (((wrap64 (rd l0 0)) == 22)), (by first | rfl | (simp; done) | (simp [*]; done)), H', ⟨by have := HJ1.out; first | omega | exact Nat.le_refl _⟩, ⟨kX BK270.out⟩, ⟨kX BK274.out⟩, ⟨bS HB.out⟩⟩
       case rest =>
        clear HC22
        try clear c1
        try clear p2
        try clear q2
        try clear hx2
        try clear qi2
        try clear c4
        try clear c4b0
        try clear c4b1
        try clear c4b2
        try clear c5
        try clear c5b0
        try clear c5b1
        try clear p6
        try clear c7
        try clear c9
        try clear c9b0
        try clear c9b1
        try clear c16
        try clear c16b0
        try clear c16b1
        try clear hcz15_0
        try clear hcz15_1
        try clear hcz15_2
        try clear hcz15_3
        try clear hcz15_4
        try clear hcz15_5
        try clear hcz21_0
        try clear hcz21_1
        try clear hcz21_2
        try clear hcz21_3
        try clear hcz21_4
        try clear hcz21_5
        try clear hcz8_0
        try clear hcz8_1
        try clear hcz8_2
        try clear hcz8_3
        try clear hcz8_4
        try clear hcz8_5
        try clear hfz15_0
        try clear hfz15_1
        try clear hfz15_2
        try clear hfz15_3
        try clear hfz15_4
        try clear hfz15_5
        try clear hfz21_0
        try clear hfz21_1
        try clear hfz21_2
        try clear hfz21_3
        try clear hfz21_4
        try clear hfz21_5
        try clear hfz8_0
        try clear hfz8_1
        try clear hfz8_2
        try clear hfz8_3
        try clear hfz8_4
        try clear hfz8_5
        try clear hx271_0
        try clear hx273_0
        try clear p2
        try clear p271
        try clear p273
        try clear p6
        try clear q2
        try clear q271
        try clear q273
        obtain ⟨kq, x45_21, rfl, HA, HJ21, BK270, BK274, HB⟩ := hcut
        cases kq with
        | zero => exact absurd HA.out (by simp [spec_GetReq.j1])
        | succ kj21 =>
         have H := HA.out
         clear HA
         simp only [spec_GetReq.j1] at H
         by_cases c24 : x45_21 = true
         ·subst c24
          have H1 : ((spec_l3GetWords.f kj21 l0 3).bind fun t282 => (spec_GetReq.j2 kj21 l0 (wrap64 (rd l0 0)) t275 0 t282 ([] : List Bool) 0)) = some (r1, r2, r3, r4, r5, r6, r7) := by rw [if_pos rfl] at H; exact H
          clear H
          have H := H1
          clear H1
          replace H := Option.bind_eq_some_iff.mp H
          obtain ⟨t282, A250, H⟩ := H
          replace H : (spec_GetReq.j2 kj21 l0 (wrap64 (rd l0 0)) t275 0 t282 ([] : List Bool) 0) = some (r1, r2, r3, r4, r5, r6, r7) := H
          have A25 := aM A250
          clear A250
          have H' := aM H
          clear H
          go_wp2_with (first | ((with_reducible refine gate_callee (f := 47) rfl ?_); refine gL (some 49) rfl rfl Try.func47 (by kernel_rfl) rfl #[.slice (some ad273) l0.length c0, .int .i64 3] rfl ?_; (with_reducible refine (spec_l3GetWords.calls kj21 _ _ l0 3 t282 _ ?side1 ?side2 A25.out).mono ?_); (case side1 => exact cB HR0.out HB.out); (case side2 => exact HC0.out); rintro e w26 ⟨v283, rfl, ho0, hb⟩; refine ⟨_, rfl, ?_⟩; have _ := aM (Kd.R_lower ho0 (below_size (bS HB.out))); have _ := aM (kB BK270.out hb); have _ := aM (kB BK274.out hb); have _ := aM (below_step (bS HB.out) hb); clear BK270 BK274 HB; rename_i HO284 BK270 BK274 HB; (try clear hb); (try clear ho0); obtain ⟨Ao27, co27, eo27⟩ := Kd.R_slice HO284.out; subst eo27; have hnb28 := NB274_270.out; have hnc28 := NB270_274.out; obtain ⟨hcz29_0, hfz29_0, hcz29_1, hfz29_1, hcz29_2, hfz29_2, hcz29_3, hfz29_3, hcz29_4, hfz29_4, hcz29_5, hfz29_5⟩ := bk6 BK274.out))
          go_meet
          case rel => exact ⟨_, (0), (t282), (([] : List Bool)), (0), (.slice Ao27 t282.length co27), (.slice none 0 0), H', ⟨by have := HJ1.out; have := HJ21.out; first | omega | exact Nat.le_refl _⟩, ⟨by (with_reducible repeat (first | apply Kd.R_alloc | apply Kd.R_drewN | apply Kd.R_drew)); exact Kd.R_mono (Kd.R_far (p := ⟨gb274, 3, none⟩) (Kd.R_types HO284.out BK274.out (by decide)) (fun _ hk => hk.2) (.slice Ao27 t282.length co27)) (fun _ hk => trivial)⟩, ⟨by first | exact Kd.R_nil _ _ _ _ _ | exact Kd.N_nil _ _ _ _ _ | exact Kd.V_nil _ _ _ _ _ | exact Kd.Q_nil _ _ _ _ _ | exact Kd.S_nil _ _ _ _ _⟩, ⟨kX BK270.out⟩, ⟨kX BK274.out⟩, ⟨bS HB.out⟩⟩
         ·replace c24 := Bool.eq_false_iff.mpr c24
          subst c24
          have H1 : (if (wrap64 (rd l0 0)) = 15 then (if (l0.length : Int) > 6 then (if 6 ≤ (l0.length : Int) then ((spec_UnpackBits.f kj21 (l0.drop 6) t277).bind fun bt286 => (spec_GetReq.j2 kj21 l0 (wrap64 (rd l0 0)) t275 0 ([] : List Int) bt286.1 0)) else (none)) else (spec_GetReq.j2 kj21 l0 (wrap64 (rd l0 0)) t275 0 ([] : List Int) ([] : List Bool) 0)) else (if (wrap64 (rd l0 0)) = 16 then ((spec_l3GetWords.f kj21 l0 6).bind fun t290 => (spec_GetReq.j2 kj21 l0 (wrap64 (rd l0 0)) t275 0 t290 ([] : List Bool) 0)) else (if (wrap64 (rd l0 0)) = 23 then ((spec_WordAt.f l0 5).bind fun bt293 => ((spec_l3GetWords.f kj21 l0 10).bind fun t295 => (spec_GetReq.j2 kj21 l0 (wrap64 (rd l0 0)) t275 t277 t295 ([] : List Bool) bt293.1))) else (spec_GetReq.j2 kj21 l0 (wrap64 (rd l0 0)) t275 t277 ([] : List Int) ([] : List Bool) 0)))) = some (r1, r2, r3, r4, r5, r6, r7) := by rw [if_neg (show ¬ (false = true) by decide)] at H; exact H
          clear H
          have H := H1
          clear H1
          by_cases c30 : (wrap64 (rd l0 0)) = 15
          ·rw [if_pos c30] at H
           have c30b0 : ((wrap64 (rd l0 0)) == 15) = true := beq_iff_eq.mpr c30
           have c30b1 : ((wrap64 (rd l0 0)) != 15) = false := bne_eq_false_iff_eq.mpr c30
           clear c30
           by_cases c31 : (l0.length : Int) > 6
           ·rw [if_pos c31] at H
            have c31b0 : decide (6 < (l0.length : Int)) = true := decide_eq_true c31
            have c31b1 : decide (6 < l0.length) = true := decide_eq_true (by omega)
            clear c31
            by_cases c32 : 6 ≤ (l0.length : Int)
            ·rw [if_pos c32] at H
             have c32b0 := eq_true c32
             have c32b1 : decide (6 ≤ (l0.length : Int)) = true := decide_eq_true c32
             clear c32
             replace H := Option.bind_eq_some_iff.mp H
             obtain ⟨⟨t286, t287⟩, A330, H⟩ := H
             replace H : (spec_GetReq.j2 kj21 l0 (wrap64 (rd l0 0)) t275 0 ([] : List Int) t286 0) = some (r1, r2, r3, r4, r5, r6, r7) := H
             have A33 := aM A330
             clear A330
             have H' := aM H
             clear H
             obtain ⟨i034, hi034, _, hsz34, _⟩ := info_parts info5
             obtain ⟨A34, hcut34, hA34, hC34⟩ := print_drop_of (P := Try.prog) (Value.int .u8) 0 33 5 .i64 Try.underlying33 hi034 hsz34 (some ad273) c0 l0 6 (by omega) (of_decide_eq_true (by first | (with_reducible assumption) | assumption)) HC0.out
             have HR285 := aM (Kd.C_of_reads (h1 := fun _ => rfl) (hA34 _ (Kd.reads_of_C HR0.out)))
             have HC285 := aM hC34
             clear hA34 hC34 hi034 hsz34
             go_wp2_with (first | ((with_reducible refine gate_callee (f := 48) rfl ?_); refine goesL_ (some 60) rfl rfl Try.func48 (by kernel_rfl) rfl #[.slice A34 (l0.drop 6).length (c0 - 6), .int .i64 t277] rfl (by (try simp only [List.map_toArray, List.map_cons, List.map_nil]); first | done | (rw [show (l0.drop 6).length = (l0.length - 6) from List.length_drop] <;> rfl) | rfl | (simp only [List.length_drop, List.length_take]; rfl)) ?_; (with_reducible refine (spec_UnpackBits.calls kj21 _ _ (l0.drop 6) t277 t286 t287 _ ?side1 ?side2 A33.out).mono ?_); (case side1 => exact cB HR285.out HB.out); (case side2 => exact HC285.out); rintro e w35 ⟨v288, rfl, ho0, hb⟩; refine ⟨_, rfl, ?_⟩; have _ := aM (Kd.R_lower ho0 (below_size (bS HB.out))); have _ := aM (kB BK270.out hb); have _ := aM (kB BK274.out hb); have _ := aM (below_step (bS HB.out) hb); clear BK270 BK274 HB; rename_i HO289 BK270 BK274 HB; (try clear hb); (try clear ho0); obtain ⟨Ao36, co36, eo36⟩ := Kd.R_slice HO289.out; subst eo36; have hnb37 := NB274_270.out; have hnc37 := NB270_274.out; obtain ⟨hcz38_0, hfz38_0, hcz38_1, hfz38_1, hcz38_2, hfz38_2, hcz38_3, hfz38_3, hcz38_4, hfz38_4, hcz38_5, hfz38_5⟩ := bk6 BK274.out))
             go_meet
             case rel => exact ⟨_, (0), (([] : List Int)), (t286), (0), (.slice none 0 0), (.slice Ao36 t286.length co36), H', ⟨by have := HJ1.out; have := HJ21.out; first | omega | exact Nat.le_refl _⟩, ⟨by first | exact Kd.R_nil _ _ _ _ _ | exact Kd.N_nil _ _ _ _ _ | exact Kd.V_nil _ _ _ _ _ | exact Kd.Q_nil _ _ _ _ _ | exact Kd.S_nil _ _ _ _ _⟩, ⟨by (with_reducible repeat (first | apply Kd.R_alloc | apply Kd.R_drewN | apply Kd.R_drew)); exact Kd.R_mono (Kd.R_far (p := ⟨gb274, 4, none⟩) (Kd.R_types HO289.out BK274.out (by decide)) (fun _ hk => hk.2) (.slice Ao36 t286.length co36)) (fun _ hk => trivial)⟩, ⟨kX BK270.out⟩, ⟨kX BK274.out⟩, ⟨bS HB.out⟩⟩
            ·rw [if_neg c32] at H
             exact absurd H (by simp)
           ·rw [if_neg c31] at H
            have c31b0 : decide (6 < (l0.length : Int)) = false := decide_eq_false c31
            have c31b1 : decide (6 < l0.length) = false := decide_eq_false (by omega)
            clear c31
            have H' := aM H
            clear H
            go_wp2
            go_meet
            case rel => exact ⟨_, (0), (([] : List Int)), (([] : List Bool)), (0), (.slice none 0 0), (.slice none 0 0), H', ⟨by have := HJ1.out; have := HJ21.out; first | omega | exact Nat.le_refl _⟩, ⟨by first | exact Kd.R_nil _ _ _ _ _ | exact Kd.N_nil _ _ _ _ _ | exact Kd.V_nil _ _ _ _ _ | exact Kd.Q_nil _ _ _ _ _ | exact Kd.S_nil _ _ _ _ _⟩, ⟨by first | exact Kd.R_nil _ _ _ _ _ | exact Kd.N_nil _ _ _ _ _ | exact Kd.V_nil _ _ _ _ _ | exact Kd.Q_nil _ _ _ _ _ | exact Kd.S_nil _ _ _ _ _⟩, ⟨kX BK270.out⟩, ⟨kX BK274.out⟩, ⟨bS HB.out⟩⟩
          ·rw [if_neg c30] at H
           have c30b0 : ((wrap64 (rd l0 0)) == 15) = false := beq_eq_false_iff_ne.mpr c30
           have c30b1 : ((wrap64 (rd l0 0)) != 15) = true := bne_iff_ne.mpr c30
           by_cases c39 : (wrap64 (rd l0 0)) = 16
           ·rw [if_pos c39] at H
            have c39b0 : ((wrap64 (rd l0 0)) == 16) = true := beq_iff_eq.mpr c39
            have c39b1 : ((wrap64 (rd l0 0)) != 16) = false := bne_eq_false_iff_eq.mpr c39
            clear c39
            replace H := Option.bind_eq_some_iff.mp H
            obtain ⟨t290, A400, H⟩ := H
            replace H : (spec_GetReq.j2 kj21 l0 (wrap64 (rd l0 0)) t275 0 t290 ([] : List Bool) 0) = some (r1, r2, r3, r4, r5, r6, r7) := H
            have A40 := aM A400
            clear A400
            have H' := aM H
            clear H
            go_wp2_with (first | ((with_reducible refine gate_callee (f := 47) rfl ?_); refine gL (some 67) rfl rfl Try.func47 (by kernel_rfl) rfl #[.slice (some ad273) l0.length c0, .int .i64 6] rfl ?_; (with_reducible refine (spec_l3GetWords.calls kj21 _ _ l0 6 t290 _ ?side1 ?side2 A40.out).mono ?_); (case side1 => exact cB HR0.out HB.out); (case side2 => exact HC0.out); rintro e w41 ⟨v291, rfl, ho0, hb⟩; refine ⟨_, rfl, ?_⟩; have _ := aM (Kd.R_lower ho0 (below_size (bS HB.out))); have _ := aM (kB BK270.out hb); have _ := aM (kB BK274.out hb); have _ := aM (below_step (bS HB.out) hb); clear BK270 BK274 HB; rename_i HO292 BK270 BK274 HB; (try clear hb); (try clear ho0); obtain ⟨Ao42, co42, eo42⟩ := Kd.R_slice HO292.out; subst eo42; have hnb43 := NB274_270.out; have hnc43 := NB270_274.out; obtain ⟨hcz44_0, hfz44_0, hcz44_1, hfz44_1, hcz44_2, hfz44_2, hcz44_3, hfz44_3, hcz44_4, hfz44_4, hcz44_5, hfz44_5⟩ := bk6 BK274.out))
            go_meet
            case rel => exact ⟨_, (0), (t290), (([] : List Bool)), (0), (.slice Ao42 t290.length co42), (.slice none 0 0), H', ⟨by have := HJ1.out; have := HJ21.out; first | omega | exact Nat.le_refl _⟩, ⟨by (with_reducible repeat (first | apply Kd.R_alloc | apply Kd.R_drewN | apply Kd.R_drew)); exact Kd.R_mono (Kd.R_far (p := ⟨gb274, 3, none⟩) (Kd.R_types HO292.out BK274.out (by decide)) (fun _ hk => hk.2) (.slice Ao42 t290.length co42)) (fun _ hk => trivial)⟩, ⟨by first | exact Kd.R_nil _ _ _ _ _ | exact Kd.N_nil _ _ _ _ _ | exact Kd.V_nil _ _ _ _ _ | exact Kd.Q_nil _ _ _ _ _ | exact Kd.S_nil _ _ _ _ _⟩, ⟨kX BK270.out⟩, ⟨kX BK274.out⟩, ⟨bS HB.out⟩⟩
           ·rw [if_neg c39] at H
            have c39b0 : ((wrap64 (rd l0 0)) == 16) = false := beq_eq_false_iff_ne.mpr c39
            have c39b1 : ((wrap64 (rd l0 0)) != 16) = true := bne_iff_ne.mpr c39
            by_cases c45 : (wrap64 (rd l0 0)) = 23
            ·rw [if_pos c45] at H
             have c45b0 : ((wrap64 (rd l0 0)) == 23) = true := beq_iff_eq.mpr c45
             have c45b1 : ((wrap64 (rd l0 0)) != 23) = false := bne_eq_false_iff_eq.mpr c45
             clear c45
             replace H := Option.bind_eq_some_iff.mp H
             obtain ⟨⟨t293, t294⟩, A460, H⟩ := H
             replace H : ((spec_l3GetWords.f kj21 l0 10).bind fun t295 => (spec_GetReq.j2 kj21 l0 (wrap64 (rd l0 0)) t275 t277 t295 ([] : List Bool) t293)) = some (r1, r2, r3, r4, r5, r6, r7) := H
             have A46 := aM A460
             clear A460
             replace H := Option.bind_eq_some_iff.mp H
             obtain ⟨t295, A470, H⟩ := H
             replace H : (spec_GetReq.j2 kj21 l0 (wrap64 (rd l0 0)) t275 t277 t295 ([] : List Bool) t293) = some (r1, r2, r3, r4, r5, r6, r7) := H
             have A47 := aM A470
             clear A470
             have H' := aM H
             clear H
             have hnb48 := NB274_270.out
             have hnc48 := NB270_274.out
             obtain ⟨hcz49_0, hfz49_0, hcz49_1, hfz49_1, hcz49_2, hfz49_2, hcz49_3, hfz49_3, hcz49_4, hfz49_4, hcz49_5, hfz49_5⟩ := bk6 BK274.out
             go_wp2_with (first | ((with_reducible refine gate_callee (f := 46) rfl ?_); refine gL (some 75) rfl rfl Try.func46 (by kernel_rfl) rfl #[.slice (some ad273) l0.length c0, .int .i64 5] rfl ?_; (with_reducible refine (spec_WordAt.calls _ _ l0 5 t293 t294 _ ?side1 ?side2 A46.out).mono ?_); (case side1 => exact Kd.C_below HR0.out (bS HB.out)); (case side2 => exact HC0.out); rintro e w' ⟨rfl, ⟨nd, rfl⟩⟩; refine ⟨_, rfl, ?_⟩) | ((with_reducible refine gate_callee (f := 47) rfl ?_); refine gL (some 80) rfl rfl Try.func47 (by kernel_rfl) rfl #[.slice (some ad273) l0.length c0, .int .i64 10] rfl ?_; (with_reducible refine (spec_l3GetWords.calls kj21 _ _ l0 10 t295 _ ?side1 ?side2 A47.out).mono ?_); (case side1 => exact Kd.C_below HR0.out (bS HB.out)); (case side2 => exact HC0.out); rintro e w50 ⟨v296, rfl, ho0, hb⟩; refine ⟨_, rfl, ?_⟩; have _ := aM (Kd.R_lower ho0 (below_size (bS HB.out))); have _ := aM (blk_below (blk_far (p := ⟨gb274, 5, none⟩) (blk_drewN (blk_far (p := ⟨gb274, 2, none⟩) BK270.out NB270_274.out _) _) NB270_274.out _) hb); have _ := aM (blk_below (g := gb274) (o := .cells #[.int .i64 (wrap64 (rd l0 0)), .int .i64 t275, .int .i64 t277, .slice none 0 0, .slice none 0 0, .int .i64 t293] 29 (0, 0)) (kX BK274.out) hb); have _ := aM (below_step (bS HB.out) hb); clear BK270 BK274 HB; rename_i HO297 BK270 BK274 HB; (try clear hb); (try clear ho0); obtain ⟨Ao51, co51, eo51⟩ := Kd.R_slice HO297.out; subst eo51; obtain ⟨hcz52_0, hfz52_0, hcz52_1, hfz52_1, hcz52_2, hfz52_2, hcz52_3, hfz52_3, hcz52_4, hfz52_4, hcz52_5, hfz52_5⟩ := bk6 BK274.out))
             go_meet
             case rel => exact ⟨_, (t277), (t295), (([] : List Bool)), (t293), (.slice Ao51 t295.length co51), (.slice none 0 0), H', ⟨by have := HJ1.out; have := HJ21.out; first | omega | exact Nat.le_refl _⟩, ⟨by (with_reducible repeat (first | apply Kd.R_alloc | apply Kd.R_drewN | apply Kd.R_drew)); exact Kd.R_mono (Kd.R_far (p := ⟨gb274, 3, none⟩) (Kd.R_types HO297.out BK274.out (by decide)) (fun _ hk => hk.2) (.slice Ao51 t295.length co51)) (fun _ hk => trivial)⟩, ⟨by first | exact Kd.R_nil _ _ _ _ _ | exact Kd.N_nil _ _ _ _ _ | exact Kd.V_nil _ _ _ _ _ | exact Kd.Q_nil _ _ _ _ _ | exact Kd.S_nil _ _ _ _ _⟩, ⟨kX BK270.out⟩, ⟨kX BK274.out⟩, ⟨bS HB.out⟩⟩
            ·rw [if_neg c45] at H
             have c45b0 : ((wrap64 (rd l0 0)) == 23) = false := beq_eq_false_iff_ne.mpr c45
             have c45b1 : ((wrap64 (rd l0 0)) != 23) = true := bne_iff_ne.mpr c45
             have H' := aM H
             clear H
             have hnb53 := NB274_270.out
             have hnc53 := NB270_274.out
             obtain ⟨hcz54_0, hfz54_0, hcz54_1, hfz54_1, hcz54_2, hfz54_2, hcz54_3, hfz54_3, hcz54_4, hfz54_4, hcz54_5, hfz54_5⟩ := bk6 BK274.out
             go_wp2
             go_meet
             case rel => exact ⟨_, (t277), (([] : List Int)), (([] : List Bool)), (0), (.slice none 0 0), (.slice none 0 0), H', ⟨by have := HJ1.out; have := HJ21.out; first | omega | exact Nat.le_refl _⟩, ⟨by first | exact Kd.R_nil _ _ _ _ _ | exact Kd.N_nil _ _ _ _ _ | exact Kd.V_nil _ _ _ _ _ | exact Kd.Q_nil _ _ _ _ _ | exact Kd.S_nil _ _ _ _ _⟩, ⟨by first | exact Kd.R_nil _ _ _ _ _ | exact Kd.N_nil _ _ _ _ _ | exact Kd.V_nil _ _ _ _ _ | exact Kd.Q_nil _ _ _ _ _ | exact Kd.S_nil _ _ _ _ _⟩, ⟨kX BK270.out⟩, ⟨kX BK274.out⟩, ⟨bS HB.out⟩⟩
     case rest =>
      clear HC12
      try clear c1
      try clear p2
      try clear q2
      try clear hx2
      try clear qi2
      try clear c4
      try clear c4b0
      try clear c4b1
      try clear c4b2
      try clear c5
      try clear c5b0
      try clear c5b1
      try clear p6
      try clear c7
      try clear c9
      try clear c9b0
      try clear c9b1
      try clear hcz15_0
      try clear hcz15_1
      try clear hcz15_2
      try clear hcz15_3
      try clear hcz15_4
      try clear hcz15_5
      try clear hcz8_0
      try clear hcz8_1
      try clear hcz8_2
      try clear hcz8_3
      try clear hcz8_4
      try clear hcz8_5
      try clear hfz15_0
      try clear hfz15_1
      try clear hfz15_2
      try clear hfz15_3
      try clear hfz15_4
      try clear hfz15_5
      try clear hfz8_0
      try clear hfz8_1
      try clear hfz8_2
      try clear hfz8_3
      try clear hfz8_4
      try clear hfz8_5
      try clear hx271_0
      try clear hx273_0
      try clear p2
      try clear p271
      try clear p273
      try clear p6
      try clear q2
      try clear q271
      try clear q273
      obtain ⟨kq, x275002_11, x275003_11, x275004_11, x275005_11, u275003, u275004, HA, HJ11, HO_275003, HO_275004, BK270, BK274, HB⟩ := hcut
      cases kq with
      | zero => exact absurd HA.out (by simp [spec_GetReq.j2])
      | succ kj11 =>
       have H := HA.out
       clear HA
       simp only [spec_GetReq.j2] at H
       replace H := Option.bind_eq_some_iff.mp H
       obtain ⟨t298, A550, H⟩ := H
       replace H : (if t298 = true then ((spec_PutReq.f kj11 (wrap64 (rd l0 0)) t275 x275002_11 x275003_11 x275004_11 x275005_11).bind fun t299 => ((spec_l3Same.f kj11 t299 l0).bind fun t302 => (if t302 = true then (some ((wrap64 (rd l0 0)), t275, x275002_11, x275003_11, x275004_11, x275005_11, 0)) else (some (0, 0, 0, ([] : List Int), ([] : List Bool), 0, 3))))) else (some (0, 0, 0, ([] : List Int), ([] : List Bool), 0, 3))) = some (r1, r2, r3, r4, r5, r6, r7) := H
       have A55 := aM A550
       clear A550
       by_cases c56 : t298 = true
       ·subst c56
        have H1 : ((spec_PutReq.f kj11 (wrap64 (rd l0 0)) t275 x275002_11 x275003_11 x275004_11 x275005_11).bind fun t299 => ((spec_l3Same.f kj11 t299 l0).bind fun t302 => (if t302 = true then (some ((wrap64 (rd l0 0)), t275, x275002_11, x275003_11, x275004_11, x275005_11, 0)) else (some (0, 0, 0, ([] : List Int), ([] : List Bool), 0, 3))))) = some (r1, r2, r3, r4, r5, r6, r7) := by rw [if_pos rfl] at H; exact H
        clear H
        have H := H1
        clear H1
        replace H := Option.bind_eq_some_iff.mp H
        obtain ⟨t299, A570, H⟩ := H
        replace H : ((spec_l3Same.f kj11 t299 l0).bind fun t302 => (if t302 = true then (some ((wrap64 (rd l0 0)), t275, x275002_11, x275003_11, x275004_11, x275005_11, 0)) else (some (0, 0, 0, ([] : List Int), ([] : List Bool), 0, 3)))) = some (r1, r2, r3, r4, r5, r6, r7) := H
        have A57 := aM A570
        clear A570
        replace H := Option.bind_eq_some_iff.mp H
        obtain ⟨t302, A580, H⟩ := H
        replace H : (if t302 = true then (some ((wrap64 (rd l0 0)), t275, x275002_11, x275003_11, x275004_11, x275005_11, 0)) else (some (0, 0, 0, ([] : List Int), ([] : List Bool), 0, 3))) = some (r1, r2, r3, r4, r5, r6, r7) := H
        have A58 := aM A580
        clear A580
        by_cases c59 : t302 = true
        ·subst c59
         have H1 : (some ((wrap64 (rd l0 0)), t275, x275002_11, x275003_11, x275004_11, x275005_11, 0)) = some (r1, r2, r3, r4, r5, r6, r7) := by rw [if_pos rfl] at H; exact H
         clear H
         have H := H1
         clear H1
         simp only [Option.some.injEq, Prod.mk.injEq] at H
         obtain ⟨rfl, rfl, rfl, rfl, rfl, rfl, rfl⟩ := H
         have hnb60 := NB274_270.out
         have hnc60 := NB270_274.out
         obtain ⟨hcz61_0, hfz61_0, hcz61_1, hfz61_1, hcz61_2, hfz61_2, hcz61_3, hfz61_3, hcz61_4, hfz61_4, hcz61_5, hfz61_5⟩ := bk6 BK274.out
         obtain ⟨Ao62, co62, eo62⟩ := Kd.R_slice HO_275003.out
         subst eo62
         obtain ⟨Ao63, co63, eo63⟩ := Kd.R_slice HO_275004.out
         subst eo63
         go_wp2_with (first | ((with_reducible refine gate_callee (f := 24) rfl ?_); refine gL (some 83) rfl rfl Try.func24 (by kernel_rfl) rfl #[.agg #[.int .i64 (wrap64 (rd l0 0)), .int .i64 t275, .int .i64 x275002_11, .slice Ao62 x275003_11.length co62, .slice Ao63 x275004_11.length co63, .int .i64 x275005_11]] rfl ?_; (with_reducible refine (spec_ReqOk.calls kj11 (wrap64 (rd l0 0)) t275 x275002_11 _ _ x275003_11 _ _ x275004_11 x275005_11 true _ ?side1 ?side2 ?side3 ?side4 A55.out).mono ?_); (case side1 => exact cR HO_275003.out); (case side2 => exact (Kd.R_reads' HO_275003.out).2.1); (case side3 => exact cR HO_275004.out); (case side4 => exact (Kd.R_reads' HO_275004.out).2.1); rintro e w64 ⟨rfl, hb⟩; refine ⟨_, rfl, ?_⟩; have _ := aM (rB HO_275003.out hb); have _ := aM (rB HO_275004.out hb); have _ := aM (kB BK270.out hb); have _ := aM (kB BK274.out hb); have _ := aM (below_step (bS HB.out) hb); clear HO_275003 HO_275004 BK270 BK274 HB; rename_i HO_275003 HO_275004 BK270 BK274 HB; (try clear hb); obtain ⟨hcz65_0, hfz65_0, hcz65_1, hfz65_1, hcz65_2, hfz65_2, hcz65_3, hfz65_3, hcz65_4, hfz65_4, hcz65_5, hfz65_5⟩ := bk6 BK274.out) | (go_at_call 12; (with_reducible refine (spec_PutReq.calls kj11 (wrap64 (rd l0 0)) t275 x275002_11 _ _ x275003_11 _ _ x275004_11 x275005_11 t299 _ ?side1 ?side2 ?side3 ?side4 A57.out).mono ?_); (case side1 => exact cR HO_275003.out); (case side2 => exact (Kd.R_reads' HO_275003.out).2.1); (case side3 => exact cR HO_275004.out); (case side4 => exact (Kd.R_reads' HO_275004.out).2.1); rintro e w66 ⟨v300, rfl, ho0, hb⟩; have _ := aM (rB HO_275003.out hb); have _ := aM (rB HO_275004.out hb); have _ := aM (Kd.V_lower (Kd.V_mono (ok' := fun k_ => some k_ ≠ (.slice Ao62 x275003_11.length co62 : Value).ownBlock ∧ some k_ ≠ (.slice Ao63 x275004_11.length co63 : Value).ownBlock ∧ k_ ≠ gb270 ∧ k_ ≠ gb274) ho0 (fun k_ hk_ => ⟨(Kd.fresh' (Kd.R_lt (rA HO_275003.out)) k_ hk_), (Kd.fresh' (Kd.R_lt (rA HO_275004.out)) k_ hk_), (Kd.freshB (g := gb270) (o := .cells #[.int .i64 0, .int .i64 0, .int .i64 0, .slice none 0 0, .slice none 0 0, .int .i64 0] 29 (0, 0)) (kA BK270.out) k_ hk_), (Kd.freshB (g := gb274) (o := .cells #[.int .i64 (wrap64 (rd l0 0)), .int .i64 t275, .int .i64 x275002_11, .slice Ao62 x275003_11.length co62, .slice Ao63 x275004_11.length co63, .int .i64 x275005_11] 29 (0, 0)) (kA BK274.out) k_ hk_)⟩)) (below_size (bS HB.out))); have _ := aM (kB BK270.out hb); have _ := aM (kB BK274.out hb); have _ := aM (below_step (bS HB.out) hb); clear HO_275003 HO_275004 BK270 BK274 HB; rename_i HO_275003 HO_275004 HO301 BK270 BK274 HB; (try clear hb); (try clear ho0); obtain ⟨Ao67, co67, eo67⟩ := Kd.V_slice HO301.out; subst eo67) | (go_at_call 49; (with_reducible refine (spec_l3Same.calls kj11 _ _ t299 _ _ l0 true _ ?side1 ?side2 ?side3 ?side4 A58.out).mono ?_); (case side1 => repeat (first | exact (Kd.V_reads' HO301.out).2.2 | (with_reducible refine Kd.C_alloc ?_ _) | (with_reducible refine Kd.C_drewN ?_ _) | (with_reducible refine Kd.C_drew ?_))); (case side2 => exact (Kd.V_reads' HO301.out).2.1); (case side3 => exact cB HR0.out HB.out); (case side4 => exact HC0.out); rintro e w' ⟨rfl, ⟨nd, rfl⟩⟩; (try (rw [drewN_self w66]; generalize hq_ : World.drewN w66 _ = w66; have n0_ : Aside0 (Kd.V (Kd.int .u8) 5 w66 w.heap.size (fun k_ => some k_ ≠ (.slice Ao62 x275003_11.length co62 : Value).ownBlock ∧ some k_ ≠ (.slice Ao63 x275004_11.length co63 : Value).ownBlock ∧ k_ ≠ gb270 ∧ k_ ≠ gb274) (.slice Ao67 t299.length co67) t299) := ⟨by rw [← hq_]; exact (by (with_reducible repeat (first | apply Kd.V_alloc | apply Kd.V_drewN | apply Kd.V_drew)); exact HO301.out)⟩; have n1_ : Aside0 (Kd.R (Kd.int .i64) 3 w66 w.heap.size (fun _ => True) (.slice Ao62 x275003_11.length co62) x275003_11) := ⟨by rw [← hq_]; exact (rA HO_275003.out)⟩; have n2_ : Aside0 (Kd.R Kd.bool 4 w66 w.heap.size (fun _ => True) (.slice Ao63 x275004_11.length co63) x275004_11) := ⟨by rw [← hq_]; exact (rA HO_275004.out)⟩; have n3_ : Aside0 (w66.heap[gb270]? = some (.cells #[.int .i64 0, .int .i64 0, .int .i64 0, .slice none 0 0, .slice none 0 0, .int .i64 0] 29 (0, 0))) := ⟨by rw [← hq_]; exact (kA BK270.out)⟩; have n4_ : Aside0 (w66.heap[gb274]? = some (.cells #[.int .i64 (wrap64 (rd l0 0)), .int .i64 t275, .int .i64 x275002_11, .slice Ao62 x275003_11.length co62, .slice Ao63 x275004_11.length co63, .int .i64 x275005_11] 29 (0, 0))) := ⟨by rw [← hq_]; exact (kA BK274.out)⟩; have n5_ : Aside0 (Below w.heap.size w w66) := ⟨by rw [← hq_]; exact (bS HB.out)⟩; clear HO301 HO_275003 HO_275004 BK270 BK274 HB hq_; have HO301 := n0_; have HO_275003 := n1_; have HO_275004 := n2_; have BK270 := n3_; have BK274 := n4_; have HB := n5_; clear n0_ n1_ n2_ n3_ n4_ n5_; have hcugb270_0 : w66.cell? ⟨gb270, 0, none⟩ = some (.int .i64 0) := (blk_cell BK270.out 0).trans rfl; have hfugb270_0 := blk_frozen BK270.out 0; have hcugb270_1 : w66.cell? ⟨gb270, 1, none⟩ = some (.int .i64 0) := (blk_cell BK270.out 1).trans rfl; have hfugb270_1 := blk_frozen BK270.out 1; have hcugb270_2 : w66.cell? ⟨gb270, 2, none⟩ = some (.int .i64 0) := (blk_cell BK270.out 2).trans rfl; have hfugb270_2 := blk_frozen BK270.out 2; have hcugb270_3 : w66.cell? ⟨gb270, 3, none⟩ = some (.slice none 0 0) := (blk_cell BK270.out 3).trans rfl; have hfugb270_3 := blk_frozen BK270.out 3; have hcugb270_4 : w66.cell? ⟨gb270, 4, none⟩ = some (.slice none 0 0) := (blk_cell BK270.out 4).trans rfl; have hfugb270_4 := blk_frozen BK270.out 4; have hcugb270_5 : w66.cell? ⟨gb270, 5, none⟩ = some (.int .i64 0) := (blk_cell BK270.out 5).trans rfl; have hfugb270_5 := blk_frozen BK270.out 5; have hcugb274_0 : w66.cell? ⟨gb274, 0, none⟩ = some (.int .i64 (wrap64 (rd l0 0))) := (blk_cell BK274.out 0).trans rfl; have hfugb274_0 := blk_frozen BK274.out 0; have hcugb274_1 : w66.cell? ⟨gb274, 1, none⟩ = some (.int .i64 t275) := (blk_cell BK274.out 1).trans rfl; have hfugb274_1 := blk_frozen BK274.out 1; have hcugb274_2 : w66.cell? ⟨gb274, 2, none⟩ = some (.int .i64 x275002_11) := (blk_cell BK274.out 2).trans rfl; have hfugb274_2 := blk_frozen BK274.out 2; have hcugb274_3 : w66.cell? ⟨gb274, 3, none⟩ = some (.slice Ao62 x275003_11.length co62) := (blk_cell BK274.out 3).trans rfl; have hfugb274_3 := blk_frozen BK274.out 3; have hcugb274_4 : w66.cell? ⟨gb274, 4, none⟩ = some (.slice Ao63 x275004_11.length co63) := (blk_cell BK274.out 4).trans rfl; have hfugb274_4 := blk_frozen BK274.out 4; have hcugb274_5 : w66.cell? ⟨gb274, 5, none⟩ = some (.int .i64 x275005_11) := (blk_cell BK274.out 5).trans rfl; have hfugb274_5 := blk_frozen BK274.out 5)); obtain ⟨hcz68_0, hfz68_0, hcz68_1, hfz68_1, hcz68_2, hfz68_2, hcz68_3, hfz68_3, hcz68_4, hfz68_4, hcz68_5, hfz68_5⟩ := bk6 BK274.out; obtain ⟨hcz69_0, hfz69_0, hcz69_1, hfz69_1, hcz69_2, hfz69_2, hcz69_3, hfz69_3, hcz69_4, hfz69_4, hcz69_5, hfz69_5⟩ := bk6 BK270.out))
         refine bodyPost_ret (results_ct rfl _ _ gb270 29 #[.int .i64 (wrap64 (rd l0 0)), .int .i64 t275, .int .i64 x275002_11, .slice Ao62 x275003_11.length co62, .slice Ao63 x275004_11.length co63, .int .i64 x275005_11] (0, 0) _ rfl (kP6 BK270.out) Try.underlying29 rfl (by kernel_rfl)) rfl ?_
         exact ⟨_, _, by first | rfl | (simp [errW_none, errW_some] <;> rfl) | (simp [*, errW_none, errW_some] <;> rfl), by (with_reducible repeat (first | apply Kd.R_alloc | apply Kd.R_drewN | apply Kd.R_drew)); exact Kd.R_mono (Kd.R_far (p := ⟨gb270, 5, none⟩) (Kd.R_far (p := ⟨gb270, 4, none⟩) (Kd.R_far (p := ⟨gb270, 3, none⟩) (Kd.R_far (p := ⟨gb270, 2, none⟩) (Kd.R_far (p := ⟨gb270, 1, none⟩) (Kd.R_far (p := ⟨gb270, 0, none⟩) (Kd.R_types HO_275003.out BK270.out (by decide)) (fun _ hk => hk.2) (.int .i64 (wrap64 (rd l0 0)))) (fun _ hk => hk.2) (.int .i64 t275)) (fun _ hk => hk.2) (.int .i64 x275002_11)) (fun _ hk => hk.2) (.slice Ao62 x275003_11.length co62)) (fun _ hk => hk.2) (.slice Ao63 x275004_11.length co63)) (fun _ hk => hk.2) (.int .i64 x275005_11)) (fun _ hk => trivial), by (with_reducible repeat (first | apply Kd.R_alloc | apply Kd.R_drewN | apply Kd.R_drew)); exact Kd.R_mono (Kd.R_far (p := ⟨gb270, 5, none⟩) (Kd.R_far (p := ⟨gb270, 4, none⟩) (Kd.R_far (p := ⟨gb270, 3, none⟩) (Kd.R_far (p := ⟨gb270, 2, none⟩) (Kd.R_far (p := ⟨gb270, 1, none⟩) (Kd.R_far (p := ⟨gb270, 0, none⟩) (Kd.R_types HO_275004.out BK270.out (by decide)) (fun _ hk => hk.2) (.int .i64 (wrap64 (rd l0 0)))) (fun _ hk => hk.2) (.int .i64 t275)) (fun _ hk => hk.2) (.int .i64 x275002_11)) (fun _ hk => hk.2) (.slice Ao62 x275003_11.length co62)) (fun _ hk => hk.2) (.slice Ao63 x275004_11.length co63)) (fun _ hk => hk.2) (.int .i64 x275005_11)) (fun _ hk => trivial), bS HB.out⟩
        ·replace c59 := Bool.eq_false_iff.mpr c59
         subst c59
         have H1 : (some (0, 0, 0, ([] : List Int), ([] : List Bool), 0, 3)) = some (r1, r2, r3, r4, r5, r6, r7) := by rw [if_neg (show ¬ (false = true) by decide)] at H; exact H
         clear H
         have H := H1
         clear H1
         simp only [Option.some.injEq, Prod.mk.injEq] at H
         obtain ⟨rfl, rfl, rfl, rfl, rfl, rfl, rfl⟩ := H
         have hnb70 := NB274_270.out
         have hnc70 := NB270_274.out
         obtain ⟨hcz71_0, hfz71_0, hcz71_1, hfz71_1, hcz71_2, hfz71_2, hcz71_3, hfz71_3, hcz71_4, hfz71_4, hcz71_5, hfz71_5⟩ := bk6 BK274.out
         obtain ⟨Ao72, co72, eo72⟩ := Kd.R_slice HO_275003.out
         subst eo72
         obtain ⟨Ao73, co73, eo73⟩ := Kd.R_slice HO_275004.out
         subst eo73
         go_wp2_with (first | ((with_reducible refine gate_callee (f := 24) rfl ?_); refine gL (some 83) rfl rfl Try.func24 (by kernel_rfl) rfl #[.agg #[.int .i64 (wrap64 (rd l0 0)), .int .i64 t275, .int .i64 x275002_11, .slice Ao72 x275003_11.length co72, .slice Ao73 x275004_11.length co73, .int .i64 x275005_11]] rfl ?_; (with_reducible refine (spec_ReqOk.calls kj11 (wrap64 (rd l0 0)) t275 x275002_11 _ _ x275003_11 _ _ x275004_11 x275005_11 true _ ?side1 ?side2 ?side3 ?side4 A55.out).mono ?_); (case side1 => exact cR HO_275003.out); (case side2 => exact (Kd.R_reads' HO_275003.out).2.1); (case side3 => exact cR HO_275004.out); (case side4 => exact (Kd.R_reads' HO_275004.out).2.1); rintro e w74 ⟨rfl, hb⟩; refine ⟨_, rfl, ?_⟩; have _ := aM (rB HO_275003.out hb); have _ := aM (rB HO_275004.out hb); have _ := aM (kB BK270.out hb); have _ := aM (kB BK274.out hb); have _ := aM (below_step (bS HB.out) hb); clear HO_275003 HO_275004 BK270 BK274 HB; rename_i HO_275003 HO_275004 BK270 BK274 HB; (try clear hb); obtain ⟨hcz75_0, hfz75_0, hcz75_1, hfz75_1, hcz75_2, hfz75_2, hcz75_3, hfz75_3, hcz75_4, hfz75_4, hcz75_5, hfz75_5⟩ := bk6 BK274.out) | (go_at_call 12; (with_reducible refine (spec_PutReq.calls kj11 (wrap64 (rd l0 0)) t275 x275002_11 _ _ x275003_11 _ _ x275004_11 x275005_11 t299 _ ?side1 ?side2 ?side3 ?side4 A57.out).mono ?_); (case side1 => exact cR HO_275003.out); (case side2 => exact (Kd.R_reads' HO_275003.out).2.1); (case side3 => exact cR HO_275004.out); (case side4 => exact (Kd.R_reads' HO_275004.out).2.1); rintro e w76 ⟨v300, rfl, ho0, hb⟩; have _ := aM (rB HO_275003.out hb); have _ := aM (rB HO_275004.out hb); have _ := aM (Kd.V_lower (Kd.V_mono (ok' := fun k_ => some k_ ≠ (.slice Ao72 x275003_11.length co72 : Value).ownBlock ∧ some k_ ≠ (.slice Ao73 x275004_11.length co73 : Value).ownBlock ∧ k_ ≠ gb270 ∧ k_ ≠ gb274) ho0 (fun k_ hk_ => ⟨(Kd.fresh' (Kd.R_lt (rA HO_275003.out)) k_ hk_), (Kd.fresh' (Kd.R_lt (rA HO_275004.out)) k_ hk_), (Kd.freshB (g := gb270) (o := .cells #[.int .i64 0, .int .i64 0, .int .i64 0, .slice none 0 0, .slice none 0 0, .int .i64 0] 29 (0, 0)) (kA BK270.out) k_ hk_), (Kd.freshB (g := gb274) (o := .cells #[.int .i64 (wrap64 (rd l0 0)), .int .i64 t275, .int .i64 x275002_11, .slice Ao72 x275003_11.length co72, .slice Ao73 x275004_11.length co73, .int .i64 x275005_11] 29 (0, 0)) (kA BK274.out) k_ hk_)⟩)) (below_size (bS HB.out))); have _ := aM (kB BK270.out hb); have _ := aM (kB BK274.out hb); have _ := aM (below_step (bS HB.out) hb); clear HO_275003 HO_275004 BK270 BK274 HB; rename_i HO_275003 HO_275004 HO301 BK270 BK274 HB; (try clear hb); (try clear ho0); obtain ⟨Ao77, co77, eo77⟩ := Kd.V_slice HO301.out; subst eo77) | (go_at_call 49; (with_reducible refine (spec_l3Same.calls kj11 _ _ t299 _ _ l0 false _ ?side1 ?side2 ?side3 ?side4 A58.out).mono ?_); (case side1 => repeat (first | exact (Kd.V_reads' HO301.out).2.2 | (with_reducible refine Kd.C_alloc ?_ _) | (with_reducible refine Kd.C_drewN ?_ _) | (with_reducible refine Kd.C_drew ?_))); (case side2 => exact (Kd.V_reads' HO301.out).2.1); (case side3 => exact cB HR0.out HB.out); (case side4 => exact HC0.out); rintro e w' ⟨rfl, ⟨nd, rfl⟩⟩; (try (rw [drewN_self w76]; generalize hq_ : World.drewN w76 _ = w76; have n0_ : Aside0 (Kd.V (Kd.int .u8) 5 w76 w.heap.size (fun k_ => some k_ ≠ (.slice Ao72 x275003_11.length co72 : Value).ownBlock ∧ some k_ ≠ (.slice Ao73 x275004_11.length co73 : Value).ownBlock ∧ k_ ≠ gb270 ∧ k_ ≠ gb274) (.slice Ao77 t299.length co77) t299) := ⟨by rw [← hq_]; exact (by (with_reducible repeat (first | apply Kd.V_alloc | apply Kd.V_drewN | apply Kd.V_drew)); exact HO301.out)⟩; have n1_ : Aside0 (Kd.R (Kd.int .i64) 3 w76 w.heap.size (fun _ => True) (.slice Ao72 x275003_11.length co72) x275003_11) := ⟨by rw [← hq_]; exact (rA HO_275003.out)⟩; have n2_ : Aside0 (Kd.R Kd.bool 4 w76 w.heap.size (fun _ => True) (.slice Ao73 x275004_11.length co73) x275004_11) := ⟨by rw [← hq_]; exact (rA HO_275004.out)⟩; have n3_ : Aside0 (w76.heap[gb270]? = some (.cells #[.int .i64 0, .int .i64 0, .int .i64 0, .slice none 0 0, .slice none 0 0, .int .i64 0] 29 (0, 0))) := ⟨by rw [← hq_]; exact (kA BK270.out)⟩; have n4_ : Aside0 (w76.heap[gb274]? = some (.cells #[.int .i64 (wrap64 (rd l0 0)), .int .i64 t275, .int .i64 x275002_11, .slice Ao72 x275003_11.length co72, .slice Ao73 x275004_11.length co73, .int .i64 x275005_11] 29 (0, 0))) := ⟨by rw [← hq_]; exact (kA BK274.out)⟩; have n5_ : Aside0 (Below w.heap.size w w76) := ⟨by rw [← hq_]; exact (bS HB.out)⟩; clear HO301 HO_275003 HO_275004 BK270 BK274 HB hq_; have HO301 := n0_; have HO_275003 := n1_; have HO_275004 := n2_; have BK270 := n3_; have BK274 := n4_; have HB := n5_; clear n0_ n1_ n2_ n3_ n4_ n5_; have hcugb270_0 : w76.cell? ⟨gb270, 0, none⟩ = some (.int .i64 0) := (blk_cell BK270.out 0).trans rfl; have hfugb270_0 := blk_frozen BK270.out 0; have hcugb270_1 : w76.cell? ⟨gb270, 1, none⟩ = some (.int .i64 0) := (blk_cell BK270.out 1).trans rfl; have hfugb270_1 := blk_frozen BK270.out 1; have hcugb270_2 : w76.cell? ⟨gb270, 2, none⟩ = some (.int .i64 0) := (blk_cell BK270.out 2).trans rfl; have hfugb270_2 := blk_frozen BK270.out 2; have hcugb270_3 : w76.cell? ⟨gb270, 3, none⟩ = some (.slice none 0 0) := (blk_cell BK270.out 3).trans rfl; have hfugb270_3 := blk_frozen BK270.out 3; have hcugb270_4 : w76.cell? ⟨gb270, 4, none⟩ = some (.slice none 0 0) := (blk_cell BK270.out 4).trans rfl; have hfugb270_4 := blk_frozen BK270.out 4; have hcugb270_5 : w76.cell? ⟨gb270, 5, none⟩ = some (.int .i64 0) := (blk_cell BK270.out 5).trans rfl; have hfugb270_5 := blk_frozen BK270.out 5; have hcugb274_0 : w76.cell? ⟨gb274, 0, none⟩ = some (.int .i64 (wrap64 (rd l0 0))) := (blk_cell BK274.out 0).trans rfl; have hfugb274_0 := blk_frozen BK274.out 0; have hcugb274_1 : w76.cell? ⟨gb274, 1, none⟩ = some (.int .i64 t275) := (blk_cell BK274.out 1).trans rfl; have hfugb274_1 := blk_frozen BK274.out 1; have hcugb274_2 : w76.cell? ⟨gb274, 2, none⟩ = some (.int .i64 x275002_11) := (blk_cell BK274.out 2).trans rfl; have hfugb274_2 := blk_frozen BK274.out 2; have hcugb274_3 : w76.cell? ⟨gb274, 3, none⟩ = some (.slice Ao72 x275003_11.length co72) := (blk_cell BK274.out 3).trans rfl; have hfugb274_3 := blk_frozen BK274.out 3; have hcugb274_4 : w76.cell? ⟨gb274, 4, none⟩ = some (.slice Ao73 x275004_11.length co73) := (blk_cell BK274.out 4).trans rfl; have hfugb274_4 := blk_frozen BK274.out 4; have hcugb274_5 : w76.cell? ⟨gb274, 5, none⟩ = some (.int .i64 x275005_11) := (blk_cell BK274.out 5).trans rfl; have hfugb274_5 := blk_frozen BK274.out 5)); obtain ⟨hcz78_0, hfz78_0, hcz78_1, hfz78_1, hcz78_2, hfz78_2, hcz78_3, hfz78_3, hcz78_4, hfz78_4, hcz78_5, hfz78_5⟩ := bk6 BK270.out))
         refine bodyPost_ret (results_ct rfl _ _ gb270 29 #[.int .i64 0, .int .i64 0, .int .i64 0, .slice none 0 0, .slice none 0 0, .int .i64 0] (0, 0) _ rfl (kP6 BK270.out) Try.underlying29 rfl (by kernel_rfl)) rfl ?_
         exact ⟨_, _, by first | rfl | (simp [errW_none, errW_some] <;> rfl) | (simp [*, errW_none, errW_some] <;> rfl), by first | exact Kd.R_nil _ _ _ _ _ | exact Kd.N_nil _ _ _ _ _ | exact Kd.V_nil _ _ _ _ _ | exact Kd.Q_nil _ _ _ _ _ | exact Kd.S_nil _ _ _ _ _, by first | exact Kd.R_nil _ _ _ _ _ | exact Kd.N_nil _ _ _ _ _ | exact Kd.V_nil _ _ _ _ _ | exact Kd.Q_nil _ _ _ _ _ | exact Kd.S_nil _ _ _ _ _, bS HB.out⟩
       ·replace c56 := Bool.eq_false_iff.mpr c56
        subst c56
        have H1 : (some (0, 0, 0, ([] : List Int), ([] : List Bool), 0, 3)) = some (r1, r2, r3, r4, r5, r6, r7) := by rw [if_neg (show ¬ (false = true) by decide)] at H; exact H
        clear H
        have H := H1
        clear H1
        simp only [Option.some.injEq, Prod.mk.injEq] at H
        obtain ⟨rfl, rfl, rfl, rfl, rfl, rfl, rfl⟩ := H
        have hnb79 := NB274_270.out
        have hnc79 := NB270_274.out
        obtain ⟨hcz80_0, hfz80_0, hcz80_1, hfz80_1, hcz80_2, hfz80_2, hcz80_3, hfz80_3, hcz80_4, hfz80_4, hcz80_5, hfz80_5⟩ := bk6 BK274.out
        obtain ⟨Ao81, co81, eo81⟩ := Kd.R_slice HO_275003.out
        subst eo81
        obtain ⟨Ao82, co82, eo82⟩ := Kd.R_slice HO_275004.out
        subst eo82
        go_wp2_with (first | ((with_reducible refine gate_callee (f := 24) rfl ?_); refine gL (some 83) rfl rfl Try.func24 (by kernel_rfl) rfl #[.agg #[.int .i64 (wrap64 (rd l0 0)), .int .i64 t275, .int .i64 x275002_11, .slice Ao81 x275003_11.length co81, .slice Ao82 x275004_11.length co82, .int .i64 x275005_11]] rfl ?_; (with_reducible refine (spec_ReqOk.calls kj11 (wrap64 (rd l0 0)) t275 x275002_11 _ _ x275003_11 _ _ x275004_11 x275005_11 false _ ?side1 ?side2 ?side3 ?side4 A55.out).mono ?_); (case side1 => exact cR HO_275003.out); (case side2 => exact (Kd.R_reads' HO_275003.out).2.1); (case side3 => exact cR HO_275004.out); (case side4 => exact (Kd.R_reads' HO_275004.out).2.1); rintro e w83 ⟨rfl, hb⟩; refine ⟨_, rfl, ?_⟩; have _ := aM (rB HO_275003.out hb); have _ := aM (rB HO_275004.out hb); have _ := aM (kB BK270.out hb); have _ := aM (kB BK274.out hb); have _ := aM (below_step (bS HB.out) hb); clear HO_275003 HO_275004 BK270 BK274 HB; rename_i HO_275003 HO_275004 BK270 BK274 HB; (try clear hb); obtain ⟨hcz84_0, hfz84_0, hcz84_1, hfz84_1, hcz84_2, hfz84_2, hcz84_3, hfz84_3, hcz84_4, hfz84_4, hcz84_5, hfz84_5⟩ := bk6 BK270.out))
        refine bodyPost_ret (results_ct rfl _ _ gb270 29 #[.int .i64 0, .int .i64 0, .int .i64 0, .slice none 0 0, .slice none 0 0, .int .i64 0] (0, 0) _ rfl (kP6 BK270.out) Try.underlying29 rfl (by kernel_rfl)) rfl ?_
        exact ⟨_, _, by first | rfl | (simp [errW_none, errW_some] <;> rfl) | (simp [*, errW_none, errW_some] <;> rfl), by first | exact Kd.R_nil _ _ _ _ _ | exact Kd.N_nil _ _ _ _ _ | exact Kd.V_nil _ _ _ _ _ | exact Kd.Q_nil _ _ _ _ _ | exact Kd.S_nil _ _ _ _ _, by first | exact Kd.R_nil _ _ _ _ _ | exact Kd.N_nil _ _ _ _ _ | exact Kd.V_nil _ _ _ _ _ | exact Kd.Q_nil _ _ _ _ _ | exact Kd.S_nil _ _ _ _ _, bS HB.out⟩
    ·rw [if_neg c9] at H
     exact absurd H (by simp)

end Go.Proofs.Yteoghpcgompajaa.PFnExactGetReq
