/- Functions and contracts of the law FnExactPutReq: what the Go text computes, step by step. -/
import Derived.Test.YteoghpcgompajaaL
import Derived.Test.YteoghpcgompajaaQFnExactPutReqx0
import Derived.Test.YteoghpcgompajaaQFnExactPutReqx1
import Derived.Test.YteoghpcgompajaaQFnExactPutReqx5
import Derived.Test.YteoghpcgompajaaQFnExactPutReqx11
import Derived.Test.YteoghpcgompajaaQFnExactPutReqx12
namespace Go.Proofs.Yteoghpcgompajaa.PFnExactPutReq
open Go.Proofs.Yteoghpcgompajaa.K Go.Proofs.Yteoghpcgompajaa.G Go.RowKit Go.Proofs.YteoghpcgompajaaW.PrintWords Go.Proofs.YteoghpcgompajaaW.PrintLast Go.Proofs.YteoghpcgompajaaW.PrintMore
attribute [local go_sem] max2_int min2_int max_two min_two max_three min_three max_four min_four   -- for this text's walks alone
set_option linter.unusedVariables false
set_option linter.unusedSimpArgs false

/-! ### laws_FnExactPutReq: function 4 -/
def laws_FnExactPutReq.j0 : Nat → List Int → List Int → Bool → Int → Int → Int → List Int → List Bool → Int → Option (Bool)
 | 0, _, _, _, _, _, _, _, _, _ => none
 | k + 1, x4, x6, x42, x367000, x367001, x367002, x367003, x367004, x367005 => if x42 = true then (some false) else ((laws_markByteS.f k x6 1).bind fun bt411 => ((laws_heldByteS.f k bt411.2 1).bind fun t413 => (if t413 < 0 then (some false) else (if t413 = bt411.1 then ((laws_toReq.f k x367000 x367001 x367002 x367003 x367004 x367005).bind fun bt414 => ((impl_PutReq.f k bt414.1 bt414.2.1 bt414.2.2.1 bt414.2.2.2.1 bt414.2.2.2.2.1 bt414.2.2.2.2.2).bind fun t424 => ((laws_eqByteS.f k t424 x4).bind fun t427 => (if t427 = true then ((laws_heldByteS.f k bt411.2 1).bind fun t428 => (if t428 < 0 then (some false) else (if t428 = bt411.1 then (some true) else (some false)))) else (some false))))) else (some false)))))
def laws_FnExactPutReq.f (k : Nat) (a0_0 : Int) (a0_1 : Int) (a0_2 : Int) (l0_3 : List Int) (l0_4 : List Bool) (a0_5 : Int) : Option (Bool) := (laws_szReq.f a0_0 a0_1 a0_2 l0_3 l0_4 a0_5 1048576).bind fun t367 => (if t367 < 0 then (some true) else ((laws_toReq.f k a0_0 a0_1 a0_2 l0_3 l0_4 a0_5).bind fun bt368 => ((spec_PutReq.f k bt368.1 bt368.2.1 bt368.2.2.1 bt368.2.2.2.1 bt368.2.2.2.2.1 bt368.2.2.2.2.2).bind fun t378 => ((laws_toReq.f k a0_0 a0_1 a0_2 l0_3 l0_4 a0_5).bind fun bt381 => ((impl_PutReq.f k bt381.1 bt381.2.1 bt381.2.2.1 bt381.2.2.2.1 bt381.2.2.2.2.1 bt381.2.2.2.2.2).bind fun t392 => ((laws_eqByteS.f k t392 t378).bind fun t395 => (if t395 = true then ((laws_toReq.f k a0_0 a0_1 a0_2 l0_3 l0_4 a0_5).bind fun bt396 => ((laws_eqReq.f k bt381.1 bt381.2.1 bt381.2.2.1 bt381.2.2.2.1 bt381.2.2.2.2.1 bt381.2.2.2.2.2 bt396.1 bt396.2.1 bt396.2.2.1 bt396.2.2.2.1 bt396.2.2.2.2.1 bt396.2.2.2.2.2).bind fun t406 => (if t406 = true then ((laws_markReq.f k bt381.1 bt381.2.1 bt381.2.2.1 bt381.2.2.2.1 bt381.2.2.2.2.1 bt381.2.2.2.2.2 1).bind fun bt407 => (if bt407.1 < 0 then (laws_FnExactPutReq.j0 k t378 t392 true a0_0 a0_1 a0_2 l0_3 l0_4 a0_5) else ((laws_eqByteS.f k t392 t378).bind fun t410 => (laws_FnExactPutReq.j0 k t378 t392 (!t410) a0_0 a0_1 a0_2 l0_3 l0_4 a0_5)))) else (some false)))) else (some false))))))))
theorem laws_FnExactPutReq.mono_l : ∀ k, (∀ y0 y1 y2 y3 y4 y5 y6 y7 y8, LeO (laws_FnExactPutReq.j0 k y0 y1 y2 y3 y4 y5 y6 y7 y8) (laws_FnExactPutReq.j0 (k + 1) y0 y1 y2 y3 y4 y5 y6 y7 y8))
 | 0 => fun _ _ _ _ _ _ _ _ _ r h => by simp [laws_FnExactPutReq.j0] at h
 | k + 1 => by
  have ih0 := laws_FnExactPutReq.mono_l k
  ·intro y0 y1 y2 y3 y4 y5 y6 y7 y8
   unfold laws_FnExactPutReq.j0
   repeat' first
   | (with_reducible exact ih0 _ _ _ _ _ _ _ _ _)
   | (with_reducible exact impl_PutReq.mono _ _ _ _ _ _ _)
   | (with_reducible exact laws_eqByteS.mono _ _ _)
   | (with_reducible exact laws_eqReq.mono _ _ _ _ _ _ _ _ _ _ _ _ _)
   | (with_reducible exact laws_heldByteS.mono _ _ _)
   | (with_reducible exact laws_markByteS.mono _ _ _)
   | (with_reducible exact laws_markReq.mono _ _ _ _ _ _ _ _)
   | (with_reducible exact laws_toReq.mono _ _ _ _ _ _ _)
   | (with_reducible exact spec_PutReq.mono _ _ _ _ _ _ _)
   | (with_reducible exact LeO.refl _)
   | (with_reducible exact LeO.none _)
   | (with_reducible refine LeO.ite ?_ ?_)
   | (with_reducible refine LeO.bind ?_ (fun _ => ?_))
   | exact ih0 _ _ _ _ _ _ _ _ _
   | exact impl_PutReq.mono _ _ _ _ _ _ _
   | exact laws_eqByteS.mono _ _ _
   | exact laws_eqReq.mono _ _ _ _ _ _ _ _ _ _ _ _ _
   | exact laws_heldByteS.mono _ _ _
   | exact laws_markByteS.mono _ _ _
   | exact laws_markReq.mono _ _ _ _ _ _ _ _
   | exact laws_toReq.mono _ _ _ _ _ _ _
   | exact spec_PutReq.mono _ _ _ _ _ _ _
   | exact LeO.none _
   | refine LeO.ite ?_ ?_
   | refine LeO.bind ?_ (fun _ => ?_)
theorem laws_FnExactPutReq.mono : ∀ a0 a1 a2 a3 a4 a5 k, LeO (laws_FnExactPutReq.f k a0 a1 a2 a3 a4 a5) (laws_FnExactPutReq.f (k + 1) a0 a1 a2 a3 a4 a5) := by
 intro a0 a1 a2 a3 a4 a5 k
 have ih0 := laws_FnExactPutReq.mono_l k
 unfold laws_FnExactPutReq.f
 repeat' first
   | (with_reducible exact ih0 _ _ _ _ _ _ _ _ _)
   | (with_reducible exact impl_PutReq.mono _ _ _ _ _ _ _)
   | (with_reducible exact laws_eqByteS.mono _ _ _)
   | (with_reducible exact laws_eqReq.mono _ _ _ _ _ _ _ _ _ _ _ _ _)
   | (with_reducible exact laws_heldByteS.mono _ _ _)
   | (with_reducible exact laws_markByteS.mono _ _ _)
   | (with_reducible exact laws_markReq.mono _ _ _ _ _ _ _ _)
   | (with_reducible exact laws_toReq.mono _ _ _ _ _ _ _)
   | (with_reducible exact spec_PutReq.mono _ _ _ _ _ _ _)
   | (with_reducible exact LeO.refl _)
   | (with_reducible exact LeO.none _)
   | (with_reducible refine LeO.ite ?_ ?_)
   | (with_reducible refine LeO.bind ?_ (fun _ => ?_))
   | exact ih0 _ _ _ _ _ _ _ _ _
   | exact impl_PutReq.mono _ _ _ _ _ _ _
   | exact laws_eqByteS.mono _ _ _
   | exact laws_eqReq.mono _ _ _ _ _ _ _ _ _ _ _ _ _
   | exact laws_heldByteS.mono _ _ _
   | exact laws_markByteS.mono _ _ _
   | exact laws_markReq.mono _ _ _ _ _ _ _ _
   | exact laws_toReq.mono _ _ _ _ _ _ _
   | exact spec_PutReq.mono _ _ _ _ _ _ _
   | exact LeO.none _
   | refine LeO.ite ?_ ?_
   | refine LeO.bind ?_ (fun _ => ?_)
set_option maxHeartbeats 8000000 in
set_option maxRecDepth 100000 in
theorem laws_FnExactPutReq.calls (k : Nat) (a0_0 : Int) (a0_1 : Int) (a0_2 : Int) (A0_3 : Option Addr) (c0_3 : Nat) (l0_3 : List Int) (A0_4 : Option Addr) (c0_4 : Nat) (l0_4 : List Bool) (a0_5 : Int) (r : Bool) (w : World) (hr0_3 : Kd.C (Kd.int .i64) w A0_3 l0_3.length l0_3) (hc0_3 : l0_3.length ≤ c0_3) (hr0_4 : Kd.C Kd.bool w A0_4 l0_4.length l0_4) (hc0_4 : l0_4.length ≤ c0_4) (h : laws_FnExactPutReq.f k a0_0 a0_1 a0_2 l0_3 l0_4 a0_5 = some r) :
  Calls Try.prog 4 #[.agg #[.int .i64 a0_0, .int .i64 a0_1, .int .i64 a0_2, .slice A0_3 l0_3.length c0_3, .slice A0_4 l0_4.length c0_4, .int .i64 a0_5]] w fun e w' => e = .returned (.bool r) ∧ Below w.heap.size w w' := by
 have hu25 := Try.underlying25
 have hu29 := Try.underlying29
 have HR0_3 := aM hr0_3
 have HC0_3 := aM hc0_3
 clear hr0_3 hc0_3
 have HR0_4 := aM hr0_4
 have HC0_4 := aM hc0_4
 clear hr0_4 hc0_4
 have HB := aM (Below.refl w.heap.size w)
 have H : ((laws_szReq.f a0_0 a0_1 a0_2 l0_3 l0_4 a0_5 1048576).bind fun t367 => (if t367 < 0 then (some true) else ((laws_toReq.f k a0_0 a0_1 a0_2 l0_3 l0_4 a0_5).bind fun bt368 => ((spec_PutReq.f k bt368.1 bt368.2.1 bt368.2.2.1 bt368.2.2.2.1 bt368.2.2.2.2.1 bt368.2.2.2.2.2).bind fun t378 => ((laws_toReq.f k a0_0 a0_1 a0_2 l0_3 l0_4 a0_5).bind fun bt381 => ((impl_PutReq.f k bt381.1 bt381.2.1 bt381.2.2.1 bt381.2.2.2.1 bt381.2.2.2.2.1 bt381.2.2.2.2.2).bind fun t392 => ((laws_eqByteS.f k t392 t378).bind fun t395 => (if t395 = true then ((laws_toReq.f k a0_0 a0_1 a0_2 l0_3 l0_4 a0_5).bind fun bt396 => ((laws_eqReq.f k bt381.1 bt381.2.1 bt381.2.2.1 bt381.2.2.2.1 bt381.2.2.2.2.1 bt381.2.2.2.2.2 bt396.1 bt396.2.1 bt396.2.2.1 bt396.2.2.2.1 bt396.2.2.2.2.1 bt396.2.2.2.2.2).bind fun t406 => (if t406 = true then ((laws_markReq.f k bt381.1 bt381.2.1 bt381.2.2.1 bt381.2.2.2.1 bt381.2.2.2.2.1 bt381.2.2.2.2.2 1).bind fun bt407 => (if bt407.1 < 0 then (laws_FnExactPutReq.j0 k t378 t392 true a0_0 a0_1 a0_2 l0_3 l0_4 a0_5) else ((laws_eqByteS.f k t392 t378).bind fun t410 => (laws_FnExactPutReq.j0 k t378 t392 (!t410) a0_0 a0_1 a0_2 l0_3 l0_4 a0_5)))) else (some false)))) else (some false))))))))) = some r := h
 clear h
 replace H := Option.bind_eq_some_iff.mp H
 obtain ⟨t367, A20, H⟩ := H
 replace H : (if t367 < 0 then (some true) else ((laws_toReq.f k a0_0 a0_1 a0_2 l0_3 l0_4 a0_5).bind fun bt368 => ((spec_PutReq.f k bt368.1 bt368.2.1 bt368.2.2.1 bt368.2.2.2.1 bt368.2.2.2.2.1 bt368.2.2.2.2.2).bind fun t378 => ((laws_toReq.f k a0_0 a0_1 a0_2 l0_3 l0_4 a0_5).bind fun bt381 => ((impl_PutReq.f k bt381.1 bt381.2.1 bt381.2.2.1 bt381.2.2.2.1 bt381.2.2.2.2.1 bt381.2.2.2.2.2).bind fun t392 => ((laws_eqByteS.f k t392 t378).bind fun t395 => (if t395 = true then ((laws_toReq.f k a0_0 a0_1 a0_2 l0_3 l0_4 a0_5).bind fun bt396 => ((laws_eqReq.f k bt381.1 bt381.2.1 bt381.2.2.1 bt381.2.2.2.1 bt381.2.2.2.2.1 bt381.2.2.2.2.2 bt396.1 bt396.2.1 bt396.2.2.1 bt396.2.2.2.1 bt396.2.2.2.2.1 bt396.2.2.2.2.2).bind fun t406 => (if t406 = true then ((laws_markReq.f k bt381.1 bt381.2.1 bt381.2.2.1 bt381.2.2.2.1 bt381.2.2.2.2.1 bt381.2.2.2.2.2 1).bind fun bt407 => (if bt407.1 < 0 then (laws_FnExactPutReq.j0 k t378 t392 true a0_0 a0_1 a0_2 l0_3 l0_4 a0_5) else ((laws_eqByteS.f k t392 t378).bind fun t410 => (laws_FnExactPutReq.j0 k t378 t392 (!t410) a0_0 a0_1 a0_2 l0_3 l0_4 a0_5)))) else (some false)))) else (some false)))))))) = some r := H
 have A2 := aM A20
 clear A20
 by_cases c3 : t367 < 0
 ·rw [if_pos c3] at H
  have c3b0 : decide (t367 < 0) = true := decide_eq_true c3
  clear c3
  obtain rfl := Option.some.inj H
  go_enter Try.func4, Try.ntmps4
  go_wp2_with (first | ((with_reducible refine gate_dst (N := 1) rfl ?_); refine box_event ?hg (N := 1) ?hd (cs := #[.int .i64 a0_0, .int .i64 a0_1, .int .i64 a0_2, .slice A0_3 l0_3.length c0_3, .slice A0_4 l0_4.length c0_4, .int .i64 a0_5]) (t := 25) ?hr ?_; (case hd => rfl); (case hg => rfl); (case hr => first | (go_simp; done) | (go_simp; rfl)); intro gb366 hg w4 hbox hb; have _ := aM (below_step (bS HB.out) hb); have _ := aM (hbox); have _ := aM (leG hg (bS HB.out)); have _ := aM (leG hg (bS HB.out)); clear HB; rename_i HB BK366 GW366 GE366; clear hb hbox hg; obtain ⟨hcz5_0, hfz5_0, hcz5_1, hfz5_1, hcz5_2, hfz5_2, hcz5_3, hfz5_3, hcz5_4, hfz5_4, hcz5_5, hfz5_5⟩ := bk6 BK366.out) | ((with_reducible refine gate_callee (f := 7) rfl ?_); refine gL (some 13) rfl rfl Try.func7 (by kernel_rfl) rfl #[.agg #[.int .i64 a0_0, .int .i64 a0_1, .int .i64 a0_2, .slice A0_3 l0_3.length c0_3, .slice A0_4 l0_4.length c0_4, .int .i64 a0_5], .int .i64 1048576] rfl ?_; (with_reducible refine (laws_szReq.calls a0_0 a0_1 a0_2 _ _ l0_3 _ _ l0_4 a0_5 1048576 t367 _ ?side1 ?side2 ?side3 ?side4 A2.out).mono ?_); (case side1 => exact cB HR0_3.out HB.out); (case side2 => exact HC0_3.out); (case side3 => exact cB HR0_4.out HB.out); (case side4 => exact HC0_4.out); rintro e w6 ⟨rfl, hb⟩; refine ⟨_, rfl, ?_⟩; have _ := aM (kB BK366.out hb); have _ := aM (below_step (bS HB.out) hb); clear BK366 HB; rename_i BK366 HB; (try clear hb)))
  go_ret
  exact ⟨by first | rfl | (simp [errW_none, errW_some] <;> rfl) | (simp [*, errW_none, errW_some] <;> rfl), bS HB.out⟩
 ·rw [if_neg c3] at H
  have c3b0 : decide (t367 < 0) = false := decide_eq_false c3
  clear c3
  replace H := Option.bind_eq_some_iff.mp H
  obtain ⟨⟨t368, t369, t370, t371, t374, t377⟩, A70, H⟩ := H
  replace H : ((spec_PutReq.f k t368 t369 t370 t371 t374 t377).bind fun t378 => ((laws_toReq.f k a0_0 a0_1 a0_2 l0_3 l0_4 a0_5).bind fun bt381 => ((impl_PutReq.f k bt381.1 bt381.2.1 bt381.2.2.1 bt381.2.2.2.1 bt381.2.2.2.2.1 bt381.2.2.2.2.2).bind fun t392 => ((laws_eqByteS.f k t392 t378).bind fun t395 => (if t395 = true then ((laws_toReq.f k a0_0 a0_1 a0_2 l0_3 l0_4 a0_5).bind fun bt396 => ((laws_eqReq.f k bt381.1 bt381.2.1 bt381.2.2.1 bt381.2.2.2.1 bt381.2.2.2.2.1 bt381.2.2.2.2.2 bt396.1 bt396.2.1 bt396.2.2.1 bt396.2.2.2.1 bt396.2.2.2.2.1 bt396.2.2.2.2.2).bind fun t406 => (if t406 = true then ((laws_markReq.f k bt381.1 bt381.2.1 bt381.2.2.1 bt381.2.2.2.1 bt381.2.2.2.2.1 bt381.2.2.2.2.2 1).bind fun bt407 => (if bt407.1 < 0 then (laws_FnExactPutReq.j0 k t378 t392 true a0_0 a0_1 a0_2 l0_3 l0_4 a0_5) else ((laws_eqByteS.f k t392 t378).bind fun t410 => (laws_FnExactPutReq.j0 k t378 t392 (!t410) a0_0 a0_1 a0_2 l0_3 l0_4 a0_5)))) else (some false)))) else (some false)))))) = some r := H
  have A7 := aM A70
  clear A70
  replace H := Option.bind_eq_some_iff.mp H
  obtain ⟨t378, A80, H⟩ := H
  replace H : ((laws_toReq.f k a0_0 a0_1 a0_2 l0_3 l0_4 a0_5).bind fun bt381 => ((impl_PutReq.f k bt381.1 bt381.2.1 bt381.2.2.1 bt381.2.2.2.1 bt381.2.2.2.2.1 bt381.2.2.2.2.2).bind fun t392 => ((laws_eqByteS.f k t392 t378).bind fun t395 => (if t395 = true then ((laws_toReq.f k a0_0 a0_1 a0_2 l0_3 l0_4 a0_5).bind fun bt396 => ((laws_eqReq.f k bt381.1 bt381.2.1 bt381.2.2.1 bt381.2.2.2.1 bt381.2.2.2.2.1 bt381.2.2.2.2.2 bt396.1 bt396.2.1 bt396.2.2.1 bt396.2.2.2.1 bt396.2.2.2.2.1 bt396.2.2.2.2.2).bind fun t406 => (if t406 = true then ((laws_markReq.f k bt381.1 bt381.2.1 bt381.2.2.1 bt381.2.2.2.1 bt381.2.2.2.2.1 bt381.2.2.2.2.2 1).bind fun bt407 => (if bt407.1 < 0 then (laws_FnExactPutReq.j0 k t378 t392 true a0_0 a0_1 a0_2 l0_3 l0_4 a0_5) else ((laws_eqByteS.f k t392 t378).bind fun t410 => (laws_FnExactPutReq.j0 k t378 t392 (!t410) a0_0 a0_1 a0_2 l0_3 l0_4 a0_5)))) else (some false)))) else (some false))))) = some r := H
  have A8 := aM A80
  clear A80
  replace H := Option.bind_eq_some_iff.mp H
  obtain ⟨⟨t381, t382, t383, t384, t387, t390⟩, A90, H⟩ := H
  replace H : ((impl_PutReq.f k t381 t382 t383 t384 t387 t390).bind fun t392 => ((laws_eqByteS.f k t392 t378).bind fun t395 => (if t395 = true then ((laws_toReq.f k a0_0 a0_1 a0_2 l0_3 l0_4 a0_5).bind fun bt396 => ((laws_eqReq.f k t381 t382 t383 t384 t387 t390 bt396.1 bt396.2.1 bt396.2.2.1 bt396.2.2.2.1 bt396.2.2.2.2.1 bt396.2.2.2.2.2).bind fun t406 => (if t406 = true then ((laws_markReq.f k t381 t382 t383 t384 t387 t390 1).bind fun bt407 => (if bt407.1 < 0 then (laws_FnExactPutReq.j0 k t378 t392 true a0_0 a0_1 a0_2 l0_3 l0_4 a0_5) else ((laws_eqByteS.f k t392 t378).bind fun t410 => (laws_FnExactPutReq.j0 k t378 t392 (!t410) a0_0 a0_1 a0_2 l0_3 l0_4 a0_5)))) else (some false)))) else (some false)))) = some r := H
  have A9 := aM A90
  clear A90
  replace H := Option.bind_eq_some_iff.mp H
  obtain ⟨t392, A100, H⟩ := H
  replace H : ((laws_eqByteS.f k t392 t378).bind fun t395 => (if t395 = true then ((laws_toReq.f k a0_0 a0_1 a0_2 l0_3 l0_4 a0_5).bind fun bt396 => ((laws_eqReq.f k t381 t382 t383 t384 t387 t390 bt396.1 bt396.2.1 bt396.2.2.1 bt396.2.2.2.1 bt396.2.2.2.2.1 bt396.2.2.2.2.2).bind fun t406 => (if t406 = true then ((laws_markReq.f k t381 t382 t383 t384 t387 t390 1).bind fun bt407 => (if bt407.1 < 0 then (laws_FnExactPutReq.j0 k t378 t392 true a0_0 a0_1 a0_2 l0_3 l0_4 a0_5) else ((laws_eqByteS.f k t392 t378).bind fun t410 => (laws_FnExactPutReq.j0 k t378 t392 (!t410) a0_0 a0_1 a0_2 l0_3 l0_4 a0_5)))) else (some false)))) else (some false))) = some r := H
  have A10 := aM A100
  clear A100
  replace H := Option.bind_eq_some_iff.mp H
  obtain ⟨t395, A110, H⟩ := H
  replace H : (if t395 = true then ((laws_toReq.f k a0_0 a0_1 a0_2 l0_3 l0_4 a0_5).bind fun bt396 => ((laws_eqReq.f k t381 t382 t383 t384 t387 t390 bt396.1 bt396.2.1 bt396.2.2.1 bt396.2.2.2.1 bt396.2.2.2.2.1 bt396.2.2.2.2.2).bind fun t406 => (if t406 = true then ((laws_markReq.f k t381 t382 t383 t384 t387 t390 1).bind fun bt407 => (if bt407.1 < 0 then (laws_FnExactPutReq.j0 k t378 t392 true a0_0 a0_1 a0_2 l0_3 l0_4 a0_5) else ((laws_eqByteS.f k t392 t378).bind fun t410 => (laws_FnExactPutReq.j0 k t378 t392 (!t410) a0_0 a0_1 a0_2 l0_3 l0_4 a0_5)))) else (some false)))) else (some false)) = some r := H
  have A11 := aM A110
  clear A110
  by_cases c12 : t395 = true
  ·subst c12
   have H1 : ((laws_toReq.f k a0_0 a0_1 a0_2 l0_3 l0_4 a0_5).bind fun bt396 => ((laws_eqReq.f k t381 t382 t383 t384 t387 t390 bt396.1 bt396.2.1 bt396.2.2.1 bt396.2.2.2.1 bt396.2.2.2.2.1 bt396.2.2.2.2.2).bind fun t406 => (if t406 = true then ((laws_markReq.f k t381 t382 t383 t384 t387 t390 1).bind fun bt407 => (if bt407.1 < 0 then (laws_FnExactPutReq.j0 k t378 t392 true a0_0 a0_1 a0_2 l0_3 l0_4 a0_5) else ((laws_eqByteS.f k t392 t378).bind fun t410 => (laws_FnExactPutReq.j0 k t378 t392 (!t410) a0_0 a0_1 a0_2 l0_3 l0_4 a0_5)))) else (some false)))) = some r := by rw [if_pos rfl] at H; exact H
   clear H
   have H := H1
   clear H1
   replace H := Option.bind_eq_some_iff.mp H
   obtain ⟨⟨t396, t397, t398, t399, t402, t405⟩, A130, H⟩ := H
   replace H : ((laws_eqReq.f k t381 t382 t383 t384 t387 t390 t396 t397 t398 t399 t402 t405).bind fun t406 => (if t406 = true then ((laws_markReq.f k t381 t382 t383 t384 t387 t390 1).bind fun bt407 => (if bt407.1 < 0 then (laws_FnExactPutReq.j0 k t378 t392 true a0_0 a0_1 a0_2 l0_3 l0_4 a0_5) else ((laws_eqByteS.f k t392 t378).bind fun t410 => (laws_FnExactPutReq.j0 k t378 t392 (!t410) a0_0 a0_1 a0_2 l0_3 l0_4 a0_5)))) else (some false))) = some r := H
   have A13 := aM A130
   clear A130
   replace H := Option.bind_eq_some_iff.mp H
   obtain ⟨t406, A140, H⟩ := H
   replace H : (if t406 = true then ((laws_markReq.f k t381 t382 t383 t384 t387 t390 1).bind fun bt407 => (if bt407.1 < 0 then (laws_FnExactPutReq.j0 k t378 t392 true a0_0 a0_1 a0_2 l0_3 l0_4 a0_5) else ((laws_eqByteS.f k t392 t378).bind fun t410 => (laws_FnExactPutReq.j0 k t378 t392 (!t410) a0_0 a0_1 a0_2 l0_3 l0_4 a0_5)))) else (some false)) = some r := H
   have A14 := aM A140
   clear A140
   by_cases c15 : t406 = true
   ·subst c15
    have H1 : ((laws_markReq.f k t381 t382 t383 t384 t387 t390 1).bind fun bt407 => (if bt407.1 < 0 then (laws_FnExactPutReq.j0 k t378 t392 true a0_0 a0_1 a0_2 l0_3 l0_4 a0_5) else ((laws_eqByteS.f k t392 t378).bind fun t410 => (laws_FnExactPutReq.j0 k t378 t392 (!t410) a0_0 a0_1 a0_2 l0_3 l0_4 a0_5)))) = some r := by rw [if_pos rfl] at H; exact H
    clear H
    have H := H1
    clear H1
    replace H := Option.bind_eq_some_iff.mp H
    obtain ⟨⟨t407, t408, t409⟩, A160, H⟩ := H
    replace H : (if t407 < 0 then (laws_FnExactPutReq.j0 k t378 t392 true a0_0 a0_1 a0_2 l0_3 l0_4 a0_5) else ((laws_eqByteS.f k t392 t378).bind fun t410 => (laws_FnExactPutReq.j0 k t378 t392 (!t410) a0_0 a0_1 a0_2 l0_3 l0_4 a0_5))) = some r := H
    have A16 := aM A160
    clear A160
    have HC17 := aM H
    clear H
    go_enter Try.func4, Try.ntmps4
    try go_wp2_with (first | ((with_reducible refine gate_dst (N := 1) rfl ?_); refine box_event ?hg (N := 1) ?hd (cs := #[.int .i64 a0_0, .int .i64 a0_1, .int .i64 a0_2, .slice A0_3 l0_3.length c0_3, .slice A0_4 l0_4.length c0_4, .int .i64 a0_5]) (t := 25) ?hr ?_; (case hd => rfl); (case hg => rfl); (case hr => first | (go_simp; done) | (go_simp; rfl)); intro gb366 hg w18 hbox hb; have _ := aM (below_step (bS HB.out) hb); have _ := aM (hbox); have _ := aM (leG hg (bS HB.out)); have _ := aM (leG hg (bS HB.out)); clear HB; rename_i HB BK366 GW366 GE366; clear hb hbox hg; obtain ⟨hcz19_0, hfz19_0, hcz19_1, hfz19_1, hcz19_2, hfz19_2, hcz19_3, hfz19_3, hcz19_4, hfz19_4, hcz19_5, hfz19_5⟩ := bk6 BK366.out) | ((with_reducible refine gate_callee (f := 7) rfl ?_); refine gL (some 13) rfl rfl Try.func7 (by kernel_rfl) rfl #[.agg #[.int .i64 a0_0, .int .i64 a0_1, .int .i64 a0_2, .slice A0_3 l0_3.length c0_3, .slice A0_4 l0_4.length c0_4, .int .i64 a0_5], .int .i64 1048576] rfl ?_; (with_reducible refine (laws_szReq.calls a0_0 a0_1 a0_2 _ _ l0_3 _ _ l0_4 a0_5 1048576 t367 _ ?side1 ?side2 ?side3 ?side4 A2.out).mono ?_); (case side1 => exact cB HR0_3.out HB.out); (case side2 => exact HC0_3.out); (case side3 => exact cB HR0_4.out HB.out); (case side4 => exact HC0_4.out); rintro e w20 ⟨rfl, hb⟩; refine ⟨_, rfl, ?_⟩; have _ := aM (kB BK366.out hb); have _ := aM (below_step (bS HB.out) hb); clear BK366 HB; rename_i BK366 HB; (try clear hb); obtain ⟨hcz21_0, hfz21_0, hcz21_1, hfz21_1, hcz21_2, hfz21_2, hcz21_3, hfz21_3, hcz21_4, hfz21_4, hcz21_5, hfz21_5⟩ := bk6 BK366.out) | ((with_reducible refine gate_callee (f := 9) rfl ?_); refine gL (some 17) rfl rfl Try.func9 (by kernel_rfl) rfl #[.agg #[.int .i64 a0_0, .int .i64 a0_1, .int .i64 a0_2, .slice A0_3 l0_3.length c0_3, .slice A0_4 l0_4.length c0_4, .int .i64 a0_5]] rfl ?_; (with_reducible refine (laws_toReq.calls k a0_0 a0_1 a0_2 _ _ l0_3 _ _ l0_4 a0_5 t368 t369 t370 t371 t374 t377 _ ?side1 ?side2 ?side3 ?side4 A7.out).mono ?_); (case side1 => exact cB HR0_3.out HB.out); (case side2 => exact HC0_3.out); (case side3 => exact cB HR0_4.out HB.out); (case side4 => exact HC0_4.out); rintro e w22 ⟨v372, v375, rfl, ho0, ho1, hb⟩; refine ⟨_, rfl, ?_⟩; have _ := aM (Kd.R_lower ho0 (below_size (bS HB.out))); have _ := aM (Kd.R_lower ho1 (below_size (bS HB.out))); have _ := aM (kB BK366.out hb); have _ := aM (below_step (bS HB.out) hb); clear BK366 HB; rename_i HO373 HO376 BK366 HB; (try clear hb); (try clear ho0); (try clear ho1); obtain ⟨Ao23, co23, eo23⟩ := Kd.R_slice HO373.out; subst eo23; obtain ⟨Ao24, co24, eo24⟩ := Kd.R_slice HO376.out; subst eo24) | ((with_reducible refine gate_callee (f := 12) rfl ?_); refine gL (some 18) rfl rfl Try.func12 (by kernel_rfl) rfl #[.agg #[.int .i64 t368, .int .i64 t369, .int .i64 t370, .slice Ao23 t371.length co23, .slice Ao24 t374.length co24, .int .i64 t377]] rfl ?_; (with_reducible refine (spec_PutReq.calls k t368 t369 t370 _ _ t371 _ _ t374 t377 t378 _ ?side1 ?side2 ?side3 ?side4 A8.out).mono ?_); (case side1 => exact cR HO373.out); (case side2 => exact (Kd.R_reads' HO373.out).2.1); (case side3 => exact cR HO376.out); (case side4 => exact (Kd.R_reads' HO376.out).2.1); rintro e w25 ⟨v379, rfl, ho0, hb⟩; refine ⟨_, rfl, ?_⟩; have _ := aM (rB HO373.out hb); have _ := aM (rB HO376.out hb); have _ := aM (Kd.V_lower (Kd.V_mono (ok' := fun k_ => some k_ ≠ (.slice Ao23 t371.length co23 : Value).ownBlock ∧ some k_ ≠ (.slice Ao24 t374.length co24 : Value).ownBlock ∧ k_ ≠ gb366) ho0 (fun k_ hk_ => ⟨(Kd.fresh' (Kd.R_lt (rA HO373.out)) k_ hk_), (Kd.fresh' (Kd.R_lt (rA HO376.out)) k_ hk_), (Kd.freshB (g := gb366) (o := .cells #[.int .i64 a0_0, .int .i64 a0_1, .int .i64 a0_2, .slice A0_3 l0_3.length c0_3, .slice A0_4 l0_4.length c0_4, .int .i64 a0_5] 25 (0, 0)) (kA BK366.out) k_ hk_)⟩)) (below_size (bS HB.out))); have _ := aM (kB BK366.out hb); have _ := aM (below_step (bS HB.out) hb); clear HO373 HO376 BK366 HB; rename_i HO373 HO376 HO380 BK366 HB; (try clear hb); (try clear ho0); obtain ⟨hcz26_0, hfz26_0, hcz26_1, hfz26_1, hcz26_2, hfz26_2, hcz26_3, hfz26_3, hcz26_4, hfz26_4, hcz26_5, hfz26_5⟩ := bk6 BK366.out) | ((with_reducible refine gate_callee (f := 9) rfl ?_); refine gL (some 20) rfl rfl Try.func9 (by kernel_rfl) rfl #[.agg #[.int .i64 a0_0, .int .i64 a0_1, .int .i64 a0_2, .slice A0_3 l0_3.length c0_3, .slice A0_4 l0_4.length c0_4, .int .i64 a0_5]] rfl ?_; (with_reducible refine (laws_toReq.calls k a0_0 a0_1 a0_2 _ _ l0_3 _ _ l0_4 a0_5 t381 t382 t383 t384 t387 t390 _ ?side1 ?side2 ?side3 ?side4 A9.out).mono ?_); (case side1 => exact cB HR0_3.out HB.out); (case side2 => exact HC0_3.out); (case side3 => exact cB HR0_4.out HB.out); (case side4 => exact HC0_4.out); rintro e w27 ⟨v385, v388, rfl, ho0, ho1, hb⟩; refine ⟨_, rfl, ?_⟩; have _ := aM (Kd.R_elder' (rA HO373.out) (Kd.R_base ho0) hb); have _ := aM (Kd.R_elder' (rA HO376.out) (Kd.R_base ho1) hb); have _ := aM (Kd.V_mono (Kd.V_told (Kd.V_told (Kd.V_old (by (with_reducible repeat (first | apply Kd.V_alloc | apply Kd.V_drewN | apply Kd.V_drew)); exact HO380.out) hb) (Kd.R_base ho0)) (Kd.R_base ho1)) (fun _ h_ => by first | exact h_.1 | (have h2_ := h_.1; simp only [ne_eq] at h2_ ⊢; simp [h2_]))); have _ := aM (Kd.R_lower (Kd.R_new' ho0 (Kd.R_lt (rA HO373.out))) (below_size (bS HB.out))); have _ := aM (Kd.R_lower (Kd.R_new' ho1 (Kd.R_lt (rA HO376.out))) (below_size (bS HB.out))); have _ := aM (kB BK366.out hb); have _ := aM (below_step (bS HB.out) hb); clear HO373 HO376 HO380 BK366 HB; rename_i HO373 HO376 HO380 HO386 HO389 BK366 HB; (try clear hb); (try clear ho0); (try clear ho1)) | ((with_reducible refine gate_dst (N := 5) rfl ?_); refine box_event ?hg (N := 5) ?hd (cs := #[.int .i64 0, .int .i64 0, .int .i64 0, .slice none 0 0, .slice none 0 0, .int .i64 0]) (t := 29) ?hr ?_; (case hd => rfl); (case hg => rfl); (case hr => first | (go_simp; done) | (go_simp; rfl)); intro gb391 hg w28 hbox hb; have _ := aM (rB HO373.out hb); have _ := aM (rB HO376.out hb); have _ := aM (Kd.V_below (Kd.V_elderB (by (with_reducible repeat (first | apply Kd.V_alloc | apply Kd.V_drewN | apply Kd.V_drew)); exact HO380.out) gb391 (Nat.le_of_eq hg.symm)) hb); have _ := aM (rB HO386.out hb); have _ := aM (rB HO389.out hb); have _ := aM (kB BK366.out hb); have _ := aM (below_step (bS HB.out) hb); have _ := aM (hbox); have _ := aM (leG hg (bS HB.out)); have _ := aM (leG hg (bS HB.out)); have _ := aM (neL hg (kA BK366.out)); have _ := aM (neG hg (kA BK366.out)); clear HO373 HO376 HO380 HO386 HO389 BK366 HB; rename_i HO373 HO376 HO380 HO386 HO389 BK366 HB BK391 GW391 GE391 NB366_391 NB391_366; clear hb hbox hg; have hnb29 := NB391_366.out; have hnc29 := NB366_391.out; obtain ⟨hcz30_0, hfz30_0, hcz30_1, hfz30_1, hcz30_2, hfz30_2, hcz30_3, hfz30_3, hcz30_4, hfz30_4, hcz30_5, hfz30_5⟩ := bk6 BK391.out; obtain ⟨Ao31, co31, eo31⟩ := Kd.R_slice HO386.out; subst eo31; obtain ⟨Ao32, co32, eo32⟩ := Kd.R_slice HO389.out; subst eo32) | ((with_reducible refine gate_callee (f := 13) rfl ?_); refine gL (some 22) rfl rfl Try.func13 (by kernel_rfl) rfl #[.agg #[.int .i64 t381, .int .i64 t382, .int .i64 t383, .slice Ao31 t384.length co31, .slice Ao32 t387.length co32, .int .i64 t390]] rfl ?_; (with_reducible refine (impl_PutReq.calls k t381 t382 t383 _ _ t384 _ _ t387 t390 t392 _ ?side1 ?side2 ?side3 ?side4 A10.out).mono ?_); (case side1 => exact (Kd.R_reads' (rF6 HO386.out BK391.out)).2.2); (case side2 => exact (Kd.R_reads' HO386.out).2.1); (case side3 => exact (Kd.R_reads' (rF6 HO389.out BK391.out)).2.2); (case side4 => exact (Kd.R_reads' HO389.out).2.1); rintro e w33 ⟨v393, rfl, ho0, hb⟩; refine ⟨_, rfl, ?_⟩; have _ := aM (Kd.R_below (rF6 HO373.out BK391.out) hb); have _ := aM (Kd.R_below (rF6 HO376.out BK391.out) hb); have _ := aM (Kd.V_elder' (by (with_reducible repeat (first | apply Kd.V_alloc | apply Kd.V_drewN | apply Kd.V_drew)); exact (Kd.V_mono (Kd.V_far (p := ⟨gb391, 5, none⟩) (Kd.V_far (p := ⟨gb391, 4, none⟩) (Kd.V_far (p := ⟨gb391, 3, none⟩) (Kd.V_far (p := ⟨gb391, 2, none⟩) (Kd.V_far (p := ⟨gb391, 1, none⟩) (Kd.V_far (p := ⟨gb391, 0, none⟩) (Kd.V_mono HO380.out (fun k_ hk => (⟨hk, hk.2⟩ : _ ∧ k_ ≠ gb391))) (fun _ hk => hk.2) (.int .i64 t381)) (fun _ hk => hk.2) (.int .i64 t382)) (fun _ hk => hk.2) (.int .i64 t383)) (fun _ hk => hk.2) (.slice Ao31 t384.length co31)) (fun _ hk => hk.2) (.slice Ao32 t387.length co32)) (fun _ hk => hk.2) (.int .i64 t390)) (fun _ h_ => by first | exact h_.1 | (have h2_ := h_.1; simp only [ne_eq] at h2_ ⊢; simp [h2_])))) (Kd.R_base ho0) hb); have _ := aM (Kd.R_below (rF6 HO386.out BK391.out) hb); have _ := aM (Kd.R_below (rF6 HO389.out BK391.out) hb); have _ := aM (Kd.R_lower ho0 (below_size (bS HB.out))); have _ := aM (blk_below (kF6 BK366.out NB366_391.out) hb); have _ := aM (blk_below (kP6 BK391.out) hb); have _ := aM (below_step (bS HB.out) hb); clear HO373 HO376 HO380 HO386 HO389 BK366 BK391 HB; rename_i HO373 HO376 HO380 HO386 HO389 HO394 BK366 BK391 HB; (try clear hb); (try clear hk); (try clear ho0); obtain ⟨Ao34, co34, eo34⟩ := Kd.R_slice HO394.out; subst eo34; obtain ⟨Ao35, co35, eo35⟩ := Kd.V_slice HO380.out; subst eo35) | ((with_reducible refine gate_callee (f := 14) rfl ?_); refine gL (some 25) rfl rfl Try.func14 (by kernel_rfl) rfl #[.slice Ao34 t392.length co34, .slice Ao35 t378.length co35] rfl ?_; (with_reducible refine (laws_eqByteS.calls k _ _ t392 _ _ t378 true _ ?side1 ?side2 ?side3 ?side4 A11.out).mono ?_); (case side1 => exact cR HO394.out); (case side2 => exact (Kd.R_reads' HO394.out).2.1); (case side3 => repeat (first | exact (Kd.V_reads' HO380.out).2.2 | (with_reducible refine Kd.C_alloc ?_ _) | (with_reducible refine Kd.C_drewN ?_ _) | (with_reducible refine Kd.C_drew ?_))); (case side4 => exact (Kd.V_reads' HO380.out).2.1); rintro e w' ⟨rfl, ⟨nd, rfl⟩⟩; refine ⟨_, rfl, ?_⟩))
    (try (rw [drewN_self w33]; generalize hq_ : World.drewN w33 _ = w33; have n0_ : Aside0 (Kd.R (Kd.int .i64) 3 w33 w.heap.size (fun k_ => some k_ ≠ (.slice Ao31 t384.length co31 : Value).ownBlock) (.slice Ao23 t371.length co23) t371) := ⟨by rw [← hq_]; exact (by (with_reducible repeat (first | apply Kd.R_alloc | apply Kd.R_drewN | apply Kd.R_drew)); exact Kd.R_mono HO373.out (fun _ hk => hk.2))⟩; have n1_ : Aside0 (Kd.R Kd.bool 4 w33 w.heap.size (fun k_ => some k_ ≠ (.slice Ao32 t387.length co32 : Value).ownBlock) (.slice Ao24 t374.length co24) t374) := ⟨by rw [← hq_]; exact (by (with_reducible repeat (first | apply Kd.R_alloc | apply Kd.R_drewN | apply Kd.R_drew)); exact Kd.R_mono HO376.out (fun _ hk => hk.2))⟩; have n2_ : Aside0 (Kd.V (Kd.int .u8) 5 w33 w.heap.size (fun k_ => some k_ ≠ (.slice Ao23 t371.length co23 : Value).ownBlock ∧ some k_ ≠ (.slice Ao24 t374.length co24 : Value).ownBlock ∧ some k_ ≠ (.slice Ao31 t384.length co31 : Value).ownBlock ∧ some k_ ≠ (.slice Ao32 t387.length co32 : Value).ownBlock ∧ some k_ ≠ (.slice Ao34 t392.length co34 : Value).ownBlock ∧ k_ ≠ gb366 ∧ k_ ≠ gb391) (.slice Ao35 t378.length co35) t378) := ⟨by rw [← hq_]; exact (by (with_reducible repeat (first | apply Kd.V_alloc | apply Kd.V_drewN | apply Kd.V_drew)); exact Kd.V_mono HO380.out (fun _ hk => by first | exact ⟨hk.1.1.1.1.1, ⟨hk.1.1.1.1.2.1, ⟨hk.1.1.1.2, ⟨hk.1.1.2, ⟨hk.2, ⟨hk.1.1.1.1.2.2, hk.1.2⟩⟩⟩⟩⟩⟩ | (simp only [ne_eq] at hk ⊢; simp [hk])))⟩; have n3_ : Aside0 (Kd.R (Kd.int .i64) 3 w33 w.heap.size (fun k_ => some k_ ≠ (.slice Ao23 t371.length co23 : Value).ownBlock) (.slice Ao31 t384.length co31) t384) := ⟨by rw [← hq_]; exact (by (with_reducible repeat (first | apply Kd.R_alloc | apply Kd.R_drewN | apply Kd.R_drew)); exact Kd.R_mono HO386.out (fun _ hk => hk.2))⟩; have n4_ : Aside0 (Kd.R Kd.bool 4 w33 w.heap.size (fun k_ => some k_ ≠ (.slice Ao24 t374.length co24 : Value).ownBlock) (.slice Ao32 t387.length co32) t387) := ⟨by rw [← hq_]; exact (by (with_reducible repeat (first | apply Kd.R_alloc | apply Kd.R_drewN | apply Kd.R_drew)); exact Kd.R_mono HO389.out (fun _ hk => hk.2))⟩; have n5_ : Aside0 (Kd.R (Kd.int .u8) 5 w33 w.heap.size (fun _ => True) (.slice Ao34 t392.length co34) t392) := ⟨by rw [← hq_]; exact (rA HO394.out)⟩; have n6_ : Aside0 (w33.heap[gb366]? = some (.cells #[.int .i64 a0_0, .int .i64 a0_1, .int .i64 a0_2, .slice A0_3 l0_3.length c0_3, .slice A0_4 l0_4.length c0_4, .int .i64 a0_5] 25 (0, 0))) := ⟨by rw [← hq_]; exact (kA BK366.out)⟩; have n7_ : Aside0 (w33.heap[gb391]? = some (.cells #[.int .i64 t381, .int .i64 t382, .int .i64 t383, .slice Ao31 t384.length co31, .slice Ao32 t387.length co32, .int .i64 t390] 29 (0, 0))) := ⟨by rw [← hq_]; exact (kA BK391.out)⟩; have n8_ : Aside0 (Below w.heap.size w w33) := ⟨by rw [← hq_]; exact (bS HB.out)⟩; clear HO373 HO376 HO380 HO386 HO389 HO394 BK366 BK391 HB hq_; have HO373 := n0_; have HO376 := n1_; have HO380 := n2_; have HO386 := n3_; have HO389 := n4_; have HO394 := n5_; have BK366 := n6_; have BK391 := n7_; have HB := n8_; clear n0_ n1_ n2_ n3_ n4_ n5_ n6_ n7_ n8_; have hcugb366_0 : w33.cell? ⟨gb366, 0, none⟩ = some (.int .i64 a0_0) := (blk_cell BK366.out 0).trans rfl; have hfugb366_0 := blk_frozen BK366.out 0; have hcugb366_1 : w33.cell? ⟨gb366, 1, none⟩ = some (.int .i64 a0_1) := (blk_cell BK366.out 1).trans rfl; have hfugb366_1 := blk_frozen BK366.out 1; have hcugb366_2 : w33.cell? ⟨gb366, 2, none⟩ = some (.int .i64 a0_2) := (blk_cell BK366.out 2).trans rfl; have hfugb366_2 := blk_frozen BK366.out 2; have hcugb366_3 : w33.cell? ⟨gb366, 3, none⟩ = some (.slice A0_3 l0_3.length c0_3) := (blk_cell BK366.out 3).trans rfl; have hfugb366_3 := blk_frozen BK366.out 3; have hcugb366_4 : w33.cell? ⟨gb366, 4, none⟩ = some (.slice A0_4 l0_4.length c0_4) := (blk_cell BK366.out 4).trans rfl; have hfugb366_4 := blk_frozen BK366.out 4; have hcugb366_5 : w33.cell? ⟨gb366, 5, none⟩ = some (.int .i64 a0_5) := (blk_cell BK366.out 5).trans rfl; have hfugb366_5 := blk_frozen BK366.out 5; have hcugb391_0 : w33.cell? ⟨gb391, 0, none⟩ = some (.int .i64 t381) := (blk_cell BK391.out 0).trans rfl; have hfugb391_0 := blk_frozen BK391.out 0; have hcugb391_1 : w33.cell? ⟨gb391, 1, none⟩ = some (.int .i64 t382) := (blk_cell BK391.out 1).trans rfl; have hfugb391_1 := blk_frozen BK391.out 1; have hcugb391_2 : w33.cell? ⟨gb391, 2, none⟩ = some (.int .i64 t383) := (blk_cell BK391.out 2).trans rfl; have hfugb391_2 := blk_frozen BK391.out 2; have hcugb391_3 : w33.cell? ⟨gb391, 3, none⟩ = some (.slice Ao31 t384.length co31) := (blk_cell BK391.out 3).trans rfl; have hfugb391_3 := blk_frozen BK391.out 3; have hcugb391_4 : w33.cell? ⟨gb391, 4, none⟩ = some (.slice Ao32 t387.length co32) := (blk_cell BK391.out 4).trans rfl; have hfugb391_4 := blk_frozen BK391.out 4; have hcugb391_5 : w33.cell? ⟨gb391, 5, none⟩ = some (.int .i64 t390) := (blk_cell BK391.out 5).trans rfl; have hfugb391_5 := blk_frozen BK391.out 5))
    have n0_ := aM (Kd.R_drew HO373.out)
    have n1_ := aM (Kd.R_drew HO376.out)
    have n2_ := aM (Kd.V_drew HO380.out)
    have n3_ := aM (Kd.R_drew HO386.out)
    have n4_ := aM (Kd.R_drew HO389.out)
    have n5_ := aM (Kd.R_drew HO394.out)
    have n6_ := aM (blk_drew BK366.out)
    have n7_ := aM (blk_drew BK391.out)
    have n8_ := aM (below_drew1 HB.out)
    clear HO373
    clear HO376
    clear HO380
    clear HO386
    clear HO389
    clear HO394
    clear BK366
    clear BK391
    clear HB
    have HO373 := n0_
    have HO376 := n1_
    have HO380 := n2_
    have HO386 := n3_
    have HO389 := n4_
    have HO394 := n5_
    have BK366 := n6_
    have BK391 := n7_
    have HB := n8_
    clear n0_ n1_ n2_ n3_ n4_ n5_ n6_ n7_ n8_
    refine start_ (n := 5) (S := fun w' => w'.cell? ⟨gb391, 0, none⟩ = some (.int .i64 t381) ∧ w'.cell? ⟨gb391, 1, none⟩ = some (.int .i64 t382) ∧ w'.cell? ⟨gb391, 2, none⟩ = some (.int .i64 t383) ∧ w'.cell? ⟨gb391, 3, none⟩ = some (.slice Ao31 t384.length co31) ∧ w'.cell? ⟨gb391, 4, none⟩ = some (.slice Ao32 t387.length co32) ∧ w'.cell? ⟨gb391, 5, none⟩ = some (.int .i64 t390) ∧ w'.cell? ⟨gb366, 0, none⟩ = some (.int .i64 a0_0) ∧ w'.cell? ⟨gb366, 1, none⟩ = some (.int .i64 a0_1) ∧ w'.cell? ⟨gb366, 2, none⟩ = some (.int .i64 a0_2) ∧ w'.cell? ⟨gb366, 3, none⟩ = some (.slice A0_3 l0_3.length c0_3) ∧ w'.cell? ⟨gb366, 4, none⟩ = some (.slice A0_4 l0_4.length c0_4) ∧ w'.cell? ⟨gb366, 5, none⟩ = some (.int .i64 a0_5)) (ds := []) #[false, false, false, false, false] (by kernel_rfl) rfl rfl ⟨(blk_cell BK391.out 0).trans rfl, (blk_cell BK391.out 1).trans rfl, (blk_cell BK391.out 2).trans rfl, (blk_cell BK391.out 3).trans rfl, (blk_cell BK391.out 4).trans rfl, (blk_cell BK391.out 5).trans rfl, (blk_cell BK366.out 0).trans rfl, (blk_cell BK366.out 1).trans rfl, (blk_cell BK366.out 2).trans rfl, (blk_cell BK366.out 3).trans rfl, (blk_cell BK366.out 4).trans rfl, (blk_cell BK366.out 5).trans rfl⟩ (fun hHeld => ?_)
    generalize w33.drew = w36 at HO373 HO376 HO380 HO386 HO389 HO394 BK366 BK391 HB hHeld ⊢
    refine take_ (i := 0) (N := some 27) (v := ?_) (a' := ?_) #[true, false, false, false, false] rfl rfl (by kernel_rfl) (fun _ _ _ h => h) (Or.inl ⟨by rfl, ?_⟩) hHeld ?_ ?_
    rotate_left
    ·rintro w' ⟨s0, s1, s2, s3, s4, s5, s6, s7, s8, s9, s10, s11⟩
     go_simp
     with_reducible rfl
    rotate_left
    ·simp only [Act.put, List.setIfInBounds_toArray, List.set_cons_zero, List.set_cons_succ, i64_w, i32_w]
     rfl
    refine take_ (i := 1) (N := some 28) (v := ?_) (a' := ?_) #[true, true, false, false, false] rfl rfl (by kernel_rfl) (fun _ _ _ h => h) (Or.inl ⟨by rfl, ?_⟩) hHeld ?_ ?_
    rotate_left
    ·rintro w' ⟨s0, s1, s2, s3, s4, s5, s6, s7, s8, s9, s10, s11⟩
     go_simp
     with_reducible rfl
    rotate_left
    ·simp only [Act.put, List.setIfInBounds_toArray, List.set_cons_zero, List.set_cons_succ, i64_w, i32_w]
     rfl
    refine one_ (i := 2) (N := some 29) #[true, true, true, false, false] rfl rfl (by kernel_rfl) (by decide) (fun K hK => ?_)
    refine goes_ Try.func9 (by kernel_rfl) rfl #[.agg #[.int .i64 a0_0, .int .i64 a0_1, .int .i64 a0_2, .slice A0_3 l0_3.length c0_3, .slice A0_4 l0_4.length c0_4, .int .i64 a0_5]] (by rfl) rfl rfl (by (try simp only [List.map_toArray, List.map_cons, List.map_nil]); first | done | rfl | (simp only [List.length_drop, List.length_take]; rfl)) ?_
    with_reducible refine (laws_toReq.calls k a0_0 a0_1 a0_2 _ _ l0_3 _ _ l0_4 a0_5 t396 t397 t398 t399 t402 t405 _ ?side1 ?side2 ?side3 ?side4 A13.out).mono ?_
    (case side1 => exact cB HR0_3.out HB.out)
    (case side2 => exact HC0_3.out)
    (case side3 => exact cB HR0_4.out HB.out)
    (case side4 => exact HC0_4.out)
    rintro e w37 ⟨v400, v403, rfl, ho0, ho1, hb⟩
    refine ⟨_, rfl, ?_⟩
    have n0_ := aM (Kd.R_elder' (rA HO373.out) (Kd.R_base ho0) hb)
    have n1_ := aM (Kd.R_elder' (rA HO376.out) (Kd.R_base ho1) hb)
    have n2_ := aM (Kd.V_mono (Kd.V_told (Kd.V_told (Kd.V_old (by (with_reducible repeat (first | apply Kd.V_alloc | apply Kd.V_drewN | apply Kd.V_drew)); exact HO380.out) hb) (Kd.R_base ho0)) (Kd.R_base ho1)) (fun _ h_ => by first | exact h_.1 | (have h2_ := h_.1; simp only [ne_eq] at h2_ ⊢; simp [h2_])))
    have n3_ := aM (Kd.R_elder' (rA HO386.out) (Kd.R_base ho0) hb)
    have n4_ := aM (Kd.R_elder' (rA HO389.out) (Kd.R_base ho1) hb)
    have n5_ := aM (rB HO394.out hb)
    have n6_ := aM (Kd.R_lower (Kd.R_new' (Kd.R_new' ho0 (Kd.R_lt (rA HO373.out))) (Kd.R_lt (rA HO386.out))) (below_size (bS HB.out)))
    have n7_ := aM (Kd.R_lower (Kd.R_new' (Kd.R_new' ho1 (Kd.R_lt (rA HO376.out))) (Kd.R_lt (rA HO389.out))) (below_size (bS HB.out)))
    have n8_ := aM (kB BK366.out hb)
    have n9_ := aM (kB BK391.out hb)
    have n10_ := aM (below_step (bS HB.out) hb)
    clear HO373
    clear HO376
    clear HO380
    clear HO386
    clear HO389
    clear HO394
    clear BK366
    clear BK391
    clear HB
    have HO373 := n0_
    have HO376 := n1_
    have HO380 := n2_
    have HO386 := n3_
    have HO389 := n4_
    have HO394 := n5_
    have HO401 := n6_
    have HO404 := n7_
    have BK366 := n8_
    have BK391 := n9_
    have HB := n10_
    clear n0_ n1_ n2_ n3_ n4_ n5_ n6_ n7_ n8_ n9_ n10_
    (try clear hb)
    (try clear hb2)
    (try clear hk)
    (try clear hi)
    (try clear ho0)
    (try clear ho1)
    obtain ⟨Ao38, co38, eo38⟩ := Kd.R_slice HO401.out
    (first | subst eo38 | (injection eo38 with f1_ f2_ f3_; have f4_ := f1_.symm; have f5_ := f3_.symm; clear f1_ f2_ f3_; subst f4_; subst f5_))
    obtain ⟨Ao39, co39, eo39⟩ := Kd.R_slice HO404.out
    (first | subst eo39 | (injection eo39 with f1_ f2_ f3_; have f4_ := f1_.symm; have f5_ := f3_.symm; clear f1_ f2_ f3_; subst f4_; subst f5_))
    refine hK.out _ _ ⟨(blk_cell BK391.out 0).trans rfl, (blk_cell BK391.out 1).trans rfl, (blk_cell BK391.out 2).trans rfl, (blk_cell BK391.out 3).trans rfl, (blk_cell BK391.out 4).trans rfl, (blk_cell BK391.out 5).trans rfl, (blk_cell BK366.out 0).trans rfl, (blk_cell BK366.out 1).trans rfl, (blk_cell BK366.out 2).trans rfl, (blk_cell BK366.out 3).trans rfl, (blk_cell BK366.out 4).trans rfl, (blk_cell BK366.out 5).trans rfl⟩ (fun hHeld => ?_)
    clear hK K
    refine norm_ (a' := ?_) ?_ ?_
    rotate_left
    ·show Act.put _ (some 29) _ = _
     simp only [Act.put, List.setIfInBounds_toArray, List.set_cons_zero, List.set_cons_succ, i64_w, i32_w]
     rfl
    refine one_ (i := 3) (N := some 30) #[true, true, true, true, false] rfl rfl (by kernel_rfl) (by decide) (fun K hK => ?_)
    refine goes_ Try.func11 (by kernel_rfl) rfl #[.agg #[.int .i64 t381, .int .i64 t382, .int .i64 t383, .slice Ao31 t384.length co31, .slice Ao32 t387.length co32, .int .i64 t390], .agg #[.int .i64 t396, .int .i64 t397, .int .i64 t398, .slice Ao38 t399.length co38, .slice Ao39 t402.length co39, .int .i64 t405]] (by rfl) rfl rfl (by (try simp only [List.map_toArray, List.map_cons, List.map_nil]); first | done | rfl | (simp only [List.length_drop, List.length_take]; rfl)) ?_
    with_reducible refine (laws_eqReq.calls k t381 t382 t383 _ _ t384 _ _ t387 t390 t396 t397 t398 _ _ t399 _ _ t402 t405 true _ ?side1 ?side2 ?side3 ?side4 ?side5 ?side6 ?side7 ?side8 A14.out).mono ?_
    (case side1 => exact cR HO386.out)
    (case side2 => exact (Kd.R_reads' HO386.out).2.1)
    (case side3 => exact cR HO389.out)
    (case side4 => exact (Kd.R_reads' HO389.out).2.1)
    (case side5 => exact cR HO401.out)
    (case side6 => exact (Kd.R_reads' HO401.out).2.1)
    (case side7 => exact cR HO404.out)
    (case side8 => exact (Kd.R_reads' HO404.out).2.1)
    rintro e w40 ⟨rfl, hb⟩
    refine ⟨_, rfl, ?_⟩
    have n0_ := aM (rB HO373.out hb)
    have n1_ := aM (rB HO376.out hb)
    have n2_ := aM (Kd.V_below (by (with_reducible repeat (first | apply Kd.V_alloc | apply Kd.V_drewN | apply Kd.V_drew)); exact HO380.out) hb)
    have n3_ := aM (rB HO386.out hb)
    have n4_ := aM (rB HO389.out hb)
    have n5_ := aM (rB HO394.out hb)
    have n6_ := aM (rB HO401.out hb)
    have n7_ := aM (rB HO404.out hb)
    have n8_ := aM (kB BK366.out hb)
    have n9_ := aM (kB BK391.out hb)
    have n10_ := aM (below_step (bS HB.out) hb)
    clear HO373
    clear HO376
    clear HO380
    clear HO386
    clear HO389
    clear HO394
    clear HO401
    clear HO404
    clear BK366
    clear BK391
    clear HB
    have HO373 := n0_
    have HO376 := n1_
    have HO380 := n2_
    have HO386 := n3_
    have HO389 := n4_
    have HO394 := n5_
    have HO401 := n6_
    have HO404 := n7_
    have BK366 := n8_
    have BK391 := n9_
    have HB := n10_
    clear n0_ n1_ n2_ n3_ n4_ n5_ n6_ n7_ n8_ n9_ n10_
    (try clear hb)
    (try clear hb2)
    (try clear hk)
    (try clear hi)
    refine hK.out _ _ ⟨(blk_cell BK391.out 0).trans rfl, (blk_cell BK391.out 1).trans rfl, (blk_cell BK391.out 2).trans rfl, (blk_cell BK391.out 3).trans rfl, (blk_cell BK391.out 4).trans rfl, (blk_cell BK391.out 5).trans rfl, (blk_cell BK366.out 0).trans rfl, (blk_cell BK366.out 1).trans rfl, (blk_cell BK366.out 2).trans rfl, (blk_cell BK366.out 3).trans rfl, (blk_cell BK366.out 4).trans rfl, (blk_cell BK366.out 5).trans rfl⟩ (fun hHeld => ?_)
    clear hK K
    refine norm_ (a' := ?_) ?_ ?_
    rotate_left
    ·show Act.put _ (some 30) _ = _
     simp only [Act.put, List.setIfInBounds_toArray, List.set_cons_zero, List.set_cons_succ, i64_w, i32_w]
     rfl
    refine pure_ (i := 4) (N := some 31) (v := ?_) (a' := ?_) #[true, true, true, true, true] rfl rfl (by kernel_rfl) (fun _ _ _ h => h) (Or.inl ⟨by rfl, ?_⟩) ?_ ?_
    rotate_left
    ·intro w'
     go_simp
     with_reducible rfl
    rotate_left
    ·simp only [Act.put, List.setIfInBounds_toArray, List.set_cons_zero, List.set_cons_succ, i64_w, i32_w]
     rfl
    refine done_ (by kernel_rfl) ?_
    obtain ⟨hcz41_0, hfz41_0, hcz41_1, hfz41_1, hcz41_2, hfz41_2, hcz41_3, hfz41_3, hcz41_4, hfz41_4, hcz41_5, hfz41_5⟩ := bk6 BK391.out
    go_upto_region 14 with (first | ((with_reducible refine gate_callee (f := 15) rfl ?_); refine gL (some 34) rfl rfl Try.func15 (by kernel_rfl) rfl #[.agg #[.int .i64 t381, .int .i64 t382, .int .i64 t383, .slice Ao31 t384.length co31, .slice Ao32 t387.length co32, .int .i64 t390], .int .i64 1] rfl ?_; (with_reducible refine (laws_markReq.calls k t381 t382 t383 (fun k_ => some k_ = (.slice Ao31 t384.length co31 : Value).ownBlock) (.slice Ao31 t384.length co31) t384 (fun k_ => some k_ = (.slice Ao32 t387.length co32 : Value).ownBlock) (.slice Ao32 t387.length co32) t387 t390 1 t407 t408 t409 w _ ?side1 ?side2 ?side3 A16.out).mono ?_); (case side1 => repeat (first | (with_reducible first | exact HB.out | apply below_alloc | apply pw_below_drewN | apply below_drew1 | refine below_set ?_ GE366.out | refine below_set ?_ GE391.out) | exact HB.out)); (case side2 => exact Kd.R_tight rfl HO386.out); (case side3 => exact Kd.R_tight rfl HO389.out); rintro e w42 ⟨rfl, hy0, hy1, hb, hkp⟩; refine ⟨_, rfl, ?_⟩; have _ := aM (blk_kept (kA BK366.out) hkp (fun hs_ => Or.elim hs_ (fun e_ => (fun e_ => (Kd.R_ne HO386.out BK366.out (by decide)) e_) e_) (fun e_ => (fun e_ => (Kd.R_ne HO389.out BK366.out (by decide)) e_) e_))); have _ := aM (rN (ok' := fun k_ => some k_ ≠ (.slice Ao31 t384.length co31 : Value).ownBlock ∧ some k_ ≠ (.slice Ao38 t399.length co38 : Value).ownBlock) (Kd.R_keptB ((Kd.R_apart' HO373.out (Kd.R_typed HO389.out) (by decide))) hkp (fun k_ hk_ hs_ => by first | exact Or.elim hs_ (fun e_ => (hk_.1.1.2) e_) (fun e_ => (hk_.2) e_) | (rcases hs_ with e_ | e_ <;> simp [e_] at hk_)))); have _ := aM (rN (ok' := fun k_ => some k_ ≠ (.slice Ao32 t387.length co32 : Value).ownBlock ∧ some k_ ≠ (.slice Ao39 t402.length co39 : Value).ownBlock) (Kd.R_keptB ((Kd.R_apart' HO376.out (Kd.R_typed HO386.out) (by decide))) hkp (fun k_ hk_ hs_ => by first | exact Or.elim hs_ (fun e_ => (hk_.2) e_) (fun e_ => (hk_.1.1.2) e_) | (rcases hs_ with e_ | e_ <;> simp [e_] at hk_)))); have _ := aM (Kd.V_mono (ok' := fun k_ => some k_ ≠ (.slice Ao23 t371.length co23 : Value).ownBlock ∧ some k_ ≠ (.slice Ao24 t374.length co24 : Value).ownBlock ∧ some k_ ≠ (.slice Ao31 t384.length co31 : Value).ownBlock ∧ some k_ ≠ (.slice Ao32 t387.length co32 : Value).ownBlock ∧ some k_ ≠ (.slice Ao34 t392.length co34 : Value).ownBlock ∧ some k_ ≠ (.slice Ao38 t399.length co38 : Value).ownBlock ∧ some k_ ≠ (.slice Ao39 t402.length co39 : Value).ownBlock ∧ k_ ≠ gb366 ∧ k_ ≠ gb391) (Kd.V_keptB (HO380.out) hkp (fun k_ hk_ hs_ => by first | exact Or.elim hs_ (fun e_ => (hk_.1.1.1.1.1.2) e_) (fun e_ => (hk_.1.1.1.1.2) e_) | (rcases hs_ with e_ | e_ <;> simp [e_] at hk_))) (fun k_ hk_ => by first | exact ⟨hk_.1.1.1.1.1.1.1.1, hk_.1.1.1.1.1.1.1.2.1, hk_.1.1.1.1.1.1.2, hk_.1.1.1.1.1.2, hk_.1.1.1.2, hk_.1.1.2, hk_.1.2, hk_.1.1.1.1.1.1.1.2.2, hk_.1.1.1.1.2⟩ | (simp only [ne_eq] at hk_ ⊢; simp [hk_]))); have _ := aM (Kd.R_reok rfl hy0 (fun k_ e_ => HO386.out.1 k_ e_)); have _ := aM (Kd.R_reok rfl hy1 (fun k_ e_ => HO389.out.1 k_ e_)); have _ := aM (blk_kept (kA BK391.out) hkp (fun hs_ => Or.elim hs_ (fun e_ => (fun e_ => (Kd.R_ne HO386.out BK391.out (by decide)) e_) e_) (fun e_ => (fun e_ => (Kd.R_ne HO389.out BK391.out (by decide)) e_) e_))); have _ := aM (Kd.R_mono (ok' := fun k_ => True) (Kd.R_keptB ((Kd.R_apart' (Kd.R_apart' HO394.out (Kd.R_typed HO386.out) (by decide)) (Kd.R_typed HO389.out) (by decide))) hkp (fun k_ hk_ hs_ => by first | exact Or.elim hs_ (fun e_ => (hk_.1.2) e_) (fun e_ => (hk_.2) e_) | (rcases hs_ with e_ | e_ <;> simp [e_] at hk_))) (fun k_ hk_ => trivial)); have _ := aM (rN (ok' := fun k_ => some k_ ≠ (.slice Ao23 t371.length co23 : Value).ownBlock ∧ some k_ ≠ (.slice Ao31 t384.length co31 : Value).ownBlock) (Kd.R_keptB ((Kd.R_apart' HO401.out (Kd.R_typed HO389.out) (by decide))) hkp (fun k_ hk_ hs_ => by first | exact Or.elim hs_ (fun e_ => (hk_.1.2) e_) (fun e_ => (hk_.2) e_) | (rcases hs_ with e_ | e_ <;> simp [e_] at hk_)))); have _ := aM (rN (ok' := fun k_ => some k_ ≠ (.slice Ao24 t374.length co24 : Value).ownBlock ∧ some k_ ≠ (.slice Ao32 t387.length co32 : Value).ownBlock) (Kd.R_keptB ((Kd.R_apart' HO404.out (Kd.R_typed HO386.out) (by decide))) hkp (fun k_ hk_ hs_ => by first | exact Or.elim hs_ (fun e_ => (hk_.2) e_) (fun e_ => (hk_.1.2) e_) | (rcases hs_ with e_ | e_ <;> simp [e_] at hk_)))); have _ := aM (hb); clear BK366 HO373 HO376 HO380 HO386 HO389 BK391 HO394 HO401 HO404 HB; rename_i BK366 HO373 HO376 HO380 HO386 HO389 BK391 HO394 HO401 HO404 HB; (try clear hb); (try clear hkp); (try clear hy0); (try clear hy1)))
    (try simp only [Act.put, List.setIfInBounds_toArray, List.set_cons_zero, List.set_cons_succ])
    go_cut [42] (fun v42 wc => ∃ (kq : Nat) (x42_16 : Bool), v42 = .bool x42_16 ∧ Aside0 (laws_FnExactPutReq.j0 kq t378 t392 x42_16 a0_0 a0_1 a0_2 l0_3 l0_4 a0_5 = some r) ∧ Aside0 (kq ≤ k) ∧ Aside0 (Kd.V (Kd.int .u8) 5 wc w.heap.size (fun k_ => some k_ ≠ ((.slice Ao34 t392.length co34) : Value).ownBlock ∧ some k_ ≠ ((.slice Ao31 t384.length co31) : Value).ownBlock ∧ some k_ ≠ ((.slice Ao32 t387.length co32) : Value).ownBlock ∧ k_ ≠ gb366 ∧ k_ ≠ gb391) (.slice Ao35 t378.length co35) t378) ∧ Aside0 (Kd.R (Kd.int .u8) 5 wc w.heap.size (fun _ => True) (.slice Ao34 t392.length co34) t392) ∧ Aside0 (Kd.R (Kd.int .i64) 3 wc w.heap.size (fun _ => True) (.slice Ao31 t384.length co31) t408) ∧ Aside0 (Kd.R Kd.bool 4 wc w.heap.size (fun _ => True) (.slice Ao32 t387.length co32) t409) ∧ Aside0 (wc.heap[gb366]? = some (.cells #[.int .i64 a0_0, .int .i64 a0_1, .int .i64 a0_2, (.slice A0_3 l0_3.length c0_3), (.slice A0_4 l0_4.length c0_4), .int .i64 a0_5] 25 (0, 0))) ∧ Aside0 (wc.heap[gb391]? = some (.cells #[.int .i64 t381, .int .i64 t382, .int .i64 t383, (.slice Ao31 t384.length co31), (.slice Ao32 t387.length co32), .int .i64 t390] 29 (0, 0))) ∧ Aside0 (Below w.heap.size w wc))
    case first =>
     have H := HC17.out
     clear HC17
     by_cases c43 : t407 < 0
     ·rw [if_pos c43] at H
      have c43b0 : decide (t407 < 0) = true := decide_eq_true c43
      clear c43
      (first | rw [c43b0] | (simp only [i64_w, i32_w]; rw [c43b0]) | skip)
      have H' := aM H
      clear H
      go_wp2
      go_meet
      case rel => exact ⟨_, (true), (by first | rfl | (simp; done) | (simp [*]; done)), H', ⟨by first | omega | exact Nat.le_refl _⟩, ⟨by (with_reducible repeat (first | apply Kd.V_alloc | apply Kd.V_drewN | apply Kd.V_drew)); exact Kd.V_mono HO380.out (fun _ hk => by first | exact ⟨hk.2.2.2.2.1, ⟨hk.2.2.1, ⟨hk.2.2.2.1, ⟨hk.2.2.2.2.2.2.2.1, hk.2.2.2.2.2.2.2.2⟩⟩⟩⟩ | (simp only [ne_eq] at hk ⊢; simp [hk]))⟩, ⟨by (with_reducible repeat (first | apply Kd.R_alloc | apply Kd.R_drewN | apply Kd.R_drew)); exact HO394.out⟩, ⟨by (with_reducible repeat (first | apply Kd.R_alloc | apply Kd.R_drewN | apply Kd.R_drew)); exact Kd.R_mono HO386.out (fun _ hk => trivial)⟩, ⟨by (with_reducible repeat (first | apply Kd.R_alloc | apply Kd.R_drewN | apply Kd.R_drew)); exact Kd.R_mono HO389.out (fun _ hk => trivial)⟩, ⟨kX BK366.out⟩, ⟨kX BK391.out⟩, ⟨bS HB.out⟩⟩
     ·rw [if_neg c43] at H
      have c43b0 : decide (t407 < 0) = false := decide_eq_false c43
      clear c43
      (first | rw [c43b0] | (simp only [i64_w, i32_w]; rw [c43b0]) | skip)
      replace H := Option.bind_eq_some_iff.mp H
      obtain ⟨t410, A440, H⟩ := H
      replace H : (laws_FnExactPutReq.j0 k t378 t392 (!t410) a0_0 a0_1 a0_2 l0_3 l0_4 a0_5) = some r := H
      have A44 := aM A440
      clear A440
      have H' := aM H
      clear H
      go_wp2_with (first | (go_at_call 14; (with_reducible refine (laws_eqByteS.calls k _ _ t392 _ _ t378 t410 _ ?side1 ?side2 ?side3 ?side4 A44.out).mono ?_); (case side1 => exact cR HO394.out); (case side2 => exact (Kd.R_reads' HO394.out).2.1); (case side3 => repeat (first | exact (Kd.V_reads' HO380.out).2.2 | (with_reducible refine Kd.C_alloc ?_ _) | (with_reducible refine Kd.C_drewN ?_ _) | (with_reducible refine Kd.C_drew ?_))); (case side4 => exact (Kd.V_reads' HO380.out).2.1); rintro e w' ⟨rfl, ⟨nd, rfl⟩⟩))
      go_meet
      case rel => exact ⟨_, (!t410), (by first | rfl | (simp; done) | (simp [*]; done)), H', ⟨by first | omega | exact Nat.le_refl _⟩, ⟨by (with_reducible repeat (first | apply Kd.V_alloc | apply Kd.V_drewN | apply Kd.V_drew)); exact Kd.V_mono HO380.out (fun _ hk => by first | exact ⟨hk.2.2.2.2.1, ⟨hk.2.2.1, ⟨hk.2.2.2.1, ⟨hk.2.2.2.2.2.2.2.1, hk.2.2.2.2.2.2.2.2⟩⟩⟩⟩ | (simp only [ne_eq] at hk ⊢; simp [hk]))⟩, ⟨by (with_reducible repeat (first | apply Kd.R_alloc | apply Kd.R_drewN | apply Kd.R_drew)); exact HO394.out⟩, ⟨by (with_reducible repeat (first | apply Kd.R_alloc | apply Kd.R_drewN | apply Kd.R_drew)); exact Kd.R_mono HO386.out (fun _ hk => trivial)⟩, ⟨by (with_reducible repeat (first | apply Kd.R_alloc | apply Kd.R_drewN | apply Kd.R_drew)); exact Kd.R_mono HO389.out (fun _ hk => trivial)⟩, ⟨kX BK366.out⟩, ⟨kX BK391.out⟩, ⟨bS HB.out⟩⟩
    case rest =>
     clear HC17
     try clear c3
     try clear c3b0
     try clear c12
     try clear c15
     try clear hcz19_0
     try clear hcz19_1
     try clear hcz19_2
     try clear hcz19_3
     try clear hcz19_4
     try clear hcz19_5
     try clear hcz21_0
     try clear hcz21_1
     try clear hcz21_2
     try clear hcz21_3
     try clear hcz21_4
     try clear hcz21_5
     try clear hcz26_0
     try clear hcz26_1
     try clear hcz26_2
     try clear hcz26_3
     try clear hcz26_4
     try clear hcz26_5
     try clear hcz30_0
     try clear hcz30_1
     try clear hcz30_2
     try clear hcz30_3
     try clear hcz30_4
     try clear hcz30_5
     try clear hcz41_0
     try clear hcz41_1
     try clear hcz41_2
     try clear hcz41_3
     try clear hcz41_4
     try clear hcz41_5
     try clear hcz5_0
     try clear hcz5_1
     try clear hcz5_2
     try clear hcz5_3
     try clear hcz5_4
     try clear hcz5_5
     try clear hfz19_0
     try clear hfz19_1
     try clear hfz19_2
     try clear hfz19_3
     try clear hfz19_4
     try clear hfz19_5
     try clear hfz21_0
     try clear hfz21_1
     try clear hfz21_2
     try clear hfz21_3
     try clear hfz21_4
     try clear hfz21_5
     try clear hfz26_0
     try clear hfz26_1
     try clear hfz26_2
     try clear hfz26_3
     try clear hfz26_4
     try clear hfz26_5
     try clear hfz30_0
     try clear hfz30_1
     try clear hfz30_2
     try clear hfz30_3
     try clear hfz30_4
     try clear hfz30_5
     try clear hfz41_0
     try clear hfz41_1
     try clear hfz41_2
     try clear hfz41_3
     try clear hfz41_4
     try clear hfz41_5
     try clear hfz5_0
     try clear hfz5_1
     try clear hfz5_2
     try clear hfz5_3
     try clear hfz5_4
     try clear hfz5_5
     obtain ⟨kq, x42_16, rfl, HA, HJ16, HO_4, HO_6, HO_392003, HO_392004, BK366, BK391, HB⟩ := hcut
     have hl392003_16 := (Kd.R_reads' HO_392003.out).1
     rw [hl392003_16] at HO_392003
     (try simp only [hl392003_16])
     (try simp only [hl392003_16] at BK366)
     (try simp only [hl392003_16] at BK391)
     (try simp only [hl392003_16] at HO_4)
     (try simp only [hl392003_16] at HO_6)
     (try simp only [hl392003_16] at HO_392004)
     have hl392004_16 := (Kd.R_reads' HO_392004.out).1
     rw [hl392004_16] at HO_392004
     (try simp only [hl392004_16])
     (try simp only [hl392004_16] at BK366)
     (try simp only [hl392004_16] at BK391)
     (try simp only [hl392004_16] at HO_4)
     (try simp only [hl392004_16] at HO_6)
     (try simp only [hl392004_16] at HO_392003)
     cases kq with
     | zero => exact absurd HA.out (by simp [laws_FnExactPutReq.j0])
     | succ kj16 =>
      have H := HA.out
      clear HA
      simp only [laws_FnExactPutReq.j0] at H
      by_cases c45 : x42_16 = true
      ·subst c45
       have H1 : (some false) = some r := by rw [if_pos rfl] at H; exact H
       clear H
       have H := H1
       clear H1
       obtain rfl := Option.some.inj H
       go_wp2
       go_ret
       exact ⟨by first | rfl | (simp [errW_none, errW_some] <;> rfl) | (simp [*, errW_none, errW_some] <;> rfl), bS HB.out⟩
      ·replace c45 := Bool.eq_false_iff.mpr c45
       subst c45
       have H1 : ((laws_markByteS.f kj16 t392 1).bind fun bt411 => ((laws_heldByteS.f kj16 bt411.2 1).bind fun t413 => (if t413 < 0 then (some false) else (if t413 = bt411.1 then ((laws_toReq.f kj16 a0_0 a0_1 a0_2 l0_3 l0_4 a0_5).bind fun bt414 => ((impl_PutReq.f kj16 bt414.1 bt414.2.1 bt414.2.2.1 bt414.2.2.2.1 bt414.2.2.2.2.1 bt414.2.2.2.2.2).bind fun t424 => ((laws_eqByteS.f kj16 t424 t378).bind fun t427 => (if t427 = true then ((laws_heldByteS.f kj16 bt411.2 1).bind fun t428 => (if t428 < 0 then (some false) else (if t428 = bt411.1 then (some true) else (some false)))) else (some false))))) else (some false))))) = some r := by rw [if_neg (show ¬ (false = true) by decide)] at H; exact H
       clear H
       have H := H1
       clear H1
       replace H := Option.bind_eq_some_iff.mp H
       obtain ⟨⟨t411, t412⟩, A460, H⟩ := H
       replace H : ((laws_heldByteS.f kj16 t412 1).bind fun t413 => (if t413 < 0 then (some false) else (if t413 = t411 then ((laws_toReq.f kj16 a0_0 a0_1 a0_2 l0_3 l0_4 a0_5).bind fun bt414 => ((impl_PutReq.f kj16 bt414.1 bt414.2.1 bt414.2.2.1 bt414.2.2.2.1 bt414.2.2.2.2.1 bt414.2.2.2.2.2).bind fun t424 => ((laws_eqByteS.f kj16 t424 t378).bind fun t427 => (if t427 = true then ((laws_heldByteS.f kj16 t412 1).bind fun t428 => (if t428 < 0 then (some false) else (if t428 = t411 then (some true) else (some false)))) else (some false))))) else (some false)))) = some r := H
       have A46 := aM A460
       clear A460
       replace H := Option.bind_eq_some_iff.mp H
       obtain ⟨t413, A470, H⟩ := H
       replace H : (if t413 < 0 then (some false) else (if t413 = t411 then ((laws_toReq.f kj16 a0_0 a0_1 a0_2 l0_3 l0_4 a0_5).bind fun bt414 => ((impl_PutReq.f kj16 bt414.1 bt414.2.1 bt414.2.2.1 bt414.2.2.2.1 bt414.2.2.2.2.1 bt414.2.2.2.2.2).bind fun t424 => ((laws_eqByteS.f kj16 t424 t378).bind fun t427 => (if t427 = true then ((laws_heldByteS.f kj16 t412 1).bind fun t428 => (if t428 < 0 then (some false) else (if t428 = t411 then (some true) else (some false)))) else (some false))))) else (some false))) = some r := H
       have A47 := aM A470
       clear A470
       by_cases c48 : t413 < 0
       ·rw [if_pos c48] at H
        have c48b0 : decide (t413 < 0) = true := decide_eq_true c48
        clear c48
        obtain rfl := Option.some.inj H
        go_wp2_with (first | ((with_reducible refine gate_callee (f := 16) rfl ?_); refine gL (some 45) rfl rfl Try.func16 (by kernel_rfl) rfl #[.slice Ao34 t392.length co34, .int .i64 1] rfl ?_; (with_reducible refine (laws_markByteS.calls kj16 (fun k_ => some k_ = (.slice Ao34 t392.length co34 : Value).ownBlock) (.slice Ao34 t392.length co34) t392 1 t411 t412 w _ ?side1 ?side2 A46.out).mono ?_); (case side1 => repeat (first | (with_reducible first | exact HB.out | apply below_alloc | apply pw_below_drewN | apply below_drew1 | refine below_set ?_ GE366.out | refine below_set ?_ GE391.out) | exact HB.out)); (case side2 => exact Kd.R_tight rfl HO_6.out); rintro e w49 ⟨rfl, hy0, hb, hkp⟩; refine ⟨_, rfl, ?_⟩; have _ := aM (Kd.V_mono (ok' := fun k_ => some k_ ≠ (.slice Ao34 t392.length co34 : Value).ownBlock ∧ some k_ ≠ (.slice Ao31 t408.length co31 : Value).ownBlock ∧ some k_ ≠ (.slice Ao32 t409.length co32 : Value).ownBlock ∧ k_ ≠ gb366 ∧ k_ ≠ gb391) (Kd.V_keptB (HO_4.out) hkp (fun k_ hk_ hs_ => (hk_.1) hs_)) (fun k_ hk_ => by first | exact ⟨hk_.1.1, hk_.1.2.1, hk_.1.2.2.1, hk_.1.2.2.2.1, hk_.1.2.2.2.2⟩ | (simp only [ne_eq] at hk_ ⊢; simp [hk_]))); have _ := aM (Kd.R_reok rfl hy0 (fun k_ e_ => HO_6.out.1 k_ e_)); have _ := aM (Kd.R_mono (ok' := fun k_ => True) (Kd.R_keptB ((Kd.R_apart' HO_392003.out (Kd.R_typed HO_6.out) (by decide))) hkp (fun k_ hk_ hs_ => (hk_.2) hs_)) (fun k_ hk_ => trivial)); have _ := aM (Kd.R_mono (ok' := fun k_ => True) (Kd.R_keptB ((Kd.R_apart' HO_392004.out (Kd.R_typed HO_6.out) (by decide))) hkp (fun k_ hk_ hs_ => (hk_.2) hs_)) (fun k_ hk_ => trivial)); have _ := aM (blk_kept (kA BK366.out) hkp (fun hs_ => (fun e_ => (Kd.R_ne HO_6.out BK366.out (by decide)) e_) hs_)); have _ := aM (blk_kept (kA BK391.out) hkp (fun hs_ => (fun e_ => (Kd.R_ne HO_6.out BK391.out (by decide)) e_) hs_)); have _ := aM (hb); clear HO_4 HO_6 HO_392003 HO_392004 BK366 BK391 HB; rename_i HO_4 HO_6 HO_392003 HO_392004 BK366 BK391 HB; (try clear hb); (try clear hkp); (try clear hy0)) | ((with_reducible refine gate_callee (f := 17) rfl ?_); refine goesL_ (some 48) rfl rfl Try.func17 (by kernel_rfl) rfl #[.slice Ao34 t412.length co34, .int .i64 1] rfl (by (try simp only [List.map_toArray, List.map_cons, List.map_nil]); first | done | (rw [show t412.length = t392.length from (Kd.R_reads' HO_6.out).1.symm] <;> rfl) | rfl | (simp only [List.length_drop, List.length_take]; rfl)) ?_; (with_reducible refine (laws_heldByteS.calls kj16 _ _ t412 1 t413 _ ?side1 ?side2 A47.out).mono ?_); (case side1 => exact cR HO_6.out); (case side2 => rw [show t412.length = t392.length from (Kd.R_reads' HO_6.out).1.symm]; exact (Kd.R_reads' HO_6.out).2.1); rintro e w' ⟨rfl, ⟨nd, rfl⟩⟩; refine ⟨_, rfl, ?_⟩))
        go_ret
        exact ⟨by first | rfl | (simp [errW_none, errW_some] <;> rfl) | (simp [*, errW_none, errW_some] <;> rfl), bS HB.out⟩
       ·rw [if_neg c48] at H
        have c48b0 : decide (t413 < 0) = false := decide_eq_false c48
        clear c48
        by_cases c50 : t413 = t411
        ·rw [if_pos c50] at H
         have c50b0 : (t413 == t411) = true := beq_iff_eq.mpr c50
         have c50b1 : (t413 != t411) = false := bne_eq_false_iff_eq.mpr c50
         clear c50
         replace H := Option.bind_eq_some_iff.mp H
         obtain ⟨⟨t414, t415, t416, t417, t420, t423⟩, A510, H⟩ := H
         replace H : ((impl_PutReq.f kj16 t414 t415 t416 t417 t420 t423).bind fun t424 => ((laws_eqByteS.f kj16 t424 t378).bind fun t427 => (if t427 = true then ((laws_heldByteS.f kj16 t412 1).bind fun t428 => (if t428 < 0 then (some false) else (if t428 = t411 then (some true) else (some false)))) else (some false)))) = some r := H
         have A51 := aM A510
         clear A510
         replace H := Option.bind_eq_some_iff.mp H
         obtain ⟨t424, A520, H⟩ := H
         replace H : ((laws_eqByteS.f kj16 t424 t378).bind fun t427 => (if t427 = true then ((laws_heldByteS.f kj16 t412 1).bind fun t428 => (if t428 < 0 then (some false) else (if t428 = t411 then (some true) else (some false)))) else (some false))) = some r := H
         have A52 := aM A520
         clear A520
         replace H := Option.bind_eq_some_iff.mp H
         obtain ⟨t427, A530, H⟩ := H
         replace H : (if t427 = true then ((laws_heldByteS.f kj16 t412 1).bind fun t428 => (if t428 < 0 then (some false) else (if t428 = t411 then (some true) else (some false)))) else (some false)) = some r := H
         have A53 := aM A530
         clear A530
         by_cases c54 : t427 = true
         ·subst c54
          have H1 : ((laws_heldByteS.f kj16 t412 1).bind fun t428 => (if t428 < 0 then (some false) else (if t428 = t411 then (some true) else (some false)))) = some r := by rw [if_pos rfl] at H; exact H
          clear H
          have H := H1
          clear H1
          replace H := Option.bind_eq_some_iff.mp H
          obtain ⟨t428, A550, H⟩ := H
          replace H : (if t428 < 0 then (some false) else (if t428 = t411 then (some true) else (some false))) = some r := H
          have A55 := aM A550
          clear A550
          by_cases c56 : t428 < 0
          ·rw [if_pos c56] at H
           have c56b0 : decide (t428 < 0) = true := decide_eq_true c56
           clear c56
           obtain rfl := Option.some.inj H
           go_wp2_with (first | ((with_reducible refine gate_callee (f := 16) rfl ?_); refine gL (some 45) rfl rfl Try.func16 (by kernel_rfl) rfl #[.slice Ao34 t392.length co34, .int .i64 1] rfl ?_; (with_reducible refine (laws_markByteS.calls kj16 (fun k_ => some k_ = (.slice Ao34 t392.length co34 : Value).ownBlock) (.slice Ao34 t392.length co34) t392 1 t411 t412 w _ ?side1 ?side2 A46.out).mono ?_); (case side1 => repeat (first | (with_reducible first | exact HB.out | apply below_alloc | apply pw_below_drewN | apply below_drew1 | refine below_set ?_ GE366.out | refine below_set ?_ GE391.out) | exact HB.out)); (case side2 => exact Kd.R_tight rfl HO_6.out); rintro e w57 ⟨rfl, hy0, hb, hkp⟩; refine ⟨_, rfl, ?_⟩; have _ := aM (Kd.V_mono (ok' := fun k_ => some k_ ≠ (.slice Ao34 t392.length co34 : Value).ownBlock ∧ some k_ ≠ (.slice Ao31 t408.length co31 : Value).ownBlock ∧ some k_ ≠ (.slice Ao32 t409.length co32 : Value).ownBlock ∧ k_ ≠ gb366 ∧ k_ ≠ gb391) (Kd.V_keptB (HO_4.out) hkp (fun k_ hk_ hs_ => (hk_.1) hs_)) (fun k_ hk_ => by first | exact ⟨hk_.1.1, hk_.1.2.1, hk_.1.2.2.1, hk_.1.2.2.2.1, hk_.1.2.2.2.2⟩ | (simp only [ne_eq] at hk_ ⊢; simp [hk_]))); have _ := aM (Kd.R_reok rfl hy0 (fun k_ e_ => HO_6.out.1 k_ e_)); have _ := aM (Kd.R_mono (ok' := fun k_ => True) (Kd.R_keptB ((Kd.R_apart' HO_392003.out (Kd.R_typed HO_6.out) (by decide))) hkp (fun k_ hk_ hs_ => (hk_.2) hs_)) (fun k_ hk_ => trivial)); have _ := aM (Kd.R_mono (ok' := fun k_ => True) (Kd.R_keptB ((Kd.R_apart' HO_392004.out (Kd.R_typed HO_6.out) (by decide))) hkp (fun k_ hk_ hs_ => (hk_.2) hs_)) (fun k_ hk_ => trivial)); have _ := aM (blk_kept (kA BK366.out) hkp (fun hs_ => (fun e_ => (Kd.R_ne HO_6.out BK366.out (by decide)) e_) hs_)); have _ := aM (blk_kept (kA BK391.out) hkp (fun hs_ => (fun e_ => (Kd.R_ne HO_6.out BK391.out (by decide)) e_) hs_)); have _ := aM (hb); clear HO_4 HO_6 HO_392003 HO_392004 BK366 BK391 HB; rename_i HO_4 HO_6 HO_392003 HO_392004 BK366 BK391 HB; (try clear hb); (try clear hkp); (try clear hy0)) | ((with_reducible refine gate_callee (f := 17) rfl ?_); refine goesL_ (some 48) rfl rfl Try.func17 (by kernel_rfl) rfl #[.slice Ao34 t412.length co34, .int .i64 1] rfl (by (try simp only [List.map_toArray, List.map_cons, List.map_nil]); first | done | (rw [show t412.length = t392.length from (Kd.R_reads' HO_6.out).1.symm] <;> rfl) | rfl | (simp only [List.length_drop, List.length_take]; rfl)) ?_; (with_reducible refine (laws_heldByteS.calls kj16 _ _ t412 1 t413 _ ?side1 ?side2 A47.out).mono ?_); (case side1 => exact cR HO_6.out); (case side2 => rw [show t412.length = t392.length from (Kd.R_reads' HO_6.out).1.symm]; exact (Kd.R_reads' HO_6.out).2.1); rintro e w' ⟨rfl, ⟨nd, rfl⟩⟩; refine ⟨_, rfl, ?_⟩; have hnb58 := NB366_391.out; have hnc58 := NB391_366.out; obtain ⟨hcz59_0, hfz59_0, hcz59_1, hfz59_1, hcz59_2, hfz59_2, hcz59_3, hfz59_3, hcz59_4, hfz59_4, hcz59_5, hfz59_5⟩ := bk6 BK366.out) | ((with_reducible refine gate_callee (f := 9) rfl ?_); refine gL (some 55) rfl rfl Try.func9 (by kernel_rfl) rfl #[.agg #[.int .i64 a0_0, .int .i64 a0_1, .int .i64 a0_2, .slice A0_3 l0_3.length c0_3, .slice A0_4 l0_4.length c0_4, .int .i64 a0_5]] rfl ?_; (with_reducible refine (laws_toReq.calls kj16 a0_0 a0_1 a0_2 _ _ l0_3 _ _ l0_4 a0_5 t414 t415 t416 t417 t420 t423 _ ?side1 ?side2 ?side3 ?side4 A51.out).mono ?_); (case side1 => repeat (first | exact (Kd.C_below HR0_3.out (bS HB.out)) | (with_reducible refine Kd.C_alloc ?_ _) | (with_reducible refine Kd.C_drewN ?_ _) | (with_reducible refine Kd.C_drew ?_))); (case side2 => exact HC0_3.out); (case side3 => repeat (first | exact (Kd.C_below HR0_4.out (bS HB.out)) | (with_reducible refine Kd.C_alloc ?_ _) | (with_reducible refine Kd.C_drewN ?_ _) | (with_reducible refine Kd.C_drew ?_))); (case side4 => exact HC0_4.out); rintro e w60 ⟨v418, v421, rfl, ho0, ho1, hb⟩; refine ⟨_, rfl, ?_⟩; have _ := aM (Kd.V_mono (Kd.V_told (Kd.V_told (Kd.V_old (by (with_reducible repeat (first | apply Kd.V_alloc | apply Kd.V_drewN | apply Kd.V_drew)); exact HO_4.out) hb) (Kd.R_base ho0)) (Kd.R_base ho1)) (fun _ h_ => by first | exact h_.1 | (have h2_ := h_.1; simp only [ne_eq] at h2_ ⊢; simp [h2_]))); have _ := aM (rB HO_6.out hb); have _ := aM (Kd.R_elder' (rA HO_392003.out) (Kd.R_base ho0) hb); have _ := aM (Kd.R_elder' (rA HO_392004.out) (Kd.R_base ho1) hb); have _ := aM (Kd.R_lower (Kd.R_new' ho0 (Kd.R_lt (rA HO_392003.out))) (below_size (bS HB.out))); have _ := aM (Kd.R_lower (Kd.R_new' ho1 (Kd.R_lt (rA HO_392004.out))) (below_size (bS HB.out))); have _ := aM (kB BK366.out hb); have _ := aM (kB BK391.out hb); have _ := aM (below_step (bS HB.out) hb); clear HO_4 HO_6 HO_392003 HO_392004 BK366 BK391 HB; rename_i HO_4 HO_6 HO_392003 HO_392004 HO419 HO422 BK366 BK391 HB; (try clear hb); (try clear ho0); (try clear ho1); obtain ⟨Ao61, co61, eo61⟩ := Kd.R_slice HO419.out; subst eo61; obtain ⟨Ao62, co62, eo62⟩ := Kd.R_slice HO422.out; subst eo62) | ((with_reducible refine gate_callee (f := 13) rfl ?_); refine gL (some 56) rfl rfl Try.func13 (by kernel_rfl) rfl #[.agg #[.int .i64 t414, .int .i64 t415, .int .i64 t416, .slice Ao61 t417.length co61, .slice Ao62 t420.length co62, .int .i64 t423]] rfl ?_; (with_reducible refine (impl_PutReq.calls kj16 t414 t415 t416 _ _ t417 _ _ t420 t423 t424 _ ?side1 ?side2 ?side3 ?side4 A52.out).mono ?_); (case side1 => exact cR HO419.out); (case side2 => exact (Kd.R_reads' HO419.out).2.1); (case side3 => exact cR HO422.out); (case side4 => exact (Kd.R_reads' HO422.out).2.1); rintro e w63 ⟨v425, rfl, ho0, hb⟩; refine ⟨_, rfl, ?_⟩; have _ := aM (Kd.V_elder' (by (with_reducible repeat (first | apply Kd.V_alloc | apply Kd.V_drewN | apply Kd.V_drew)); exact HO_4.out) (Kd.R_base ho0) hb); have _ := aM (Kd.R_elder' (rA HO_6.out) (Kd.R_base ho0) hb); have _ := aM (rB HO_392003.out hb); have _ := aM (rB HO_392004.out hb); have _ := aM (rB HO419.out hb); have _ := aM (rB HO422.out hb); have _ := aM (Kd.R_lower (Kd.R_new' ho0 (Kd.R_lt (rA HO_6.out))) (below_size (bS HB.out))); have _ := aM (kB BK366.out hb); have _ := aM (kB BK391.out hb); have _ := aM (below_step (bS HB.out) hb); clear HO_4 HO_6 HO_392003 HO_392004 HO419 HO422 BK366 BK391 HB; rename_i HO_4 HO_6 HO_392003 HO_392004 HO419 HO422 HO426 BK366 BK391 HB; (try clear hb); (try clear ho0); obtain ⟨Ao64, co64, eo64⟩ := Kd.R_slice HO426.out; subst eo64) | ((with_reducible refine gate_callee (f := 14) rfl ?_); refine gL (some 59) rfl rfl Try.func14 (by kernel_rfl) rfl #[.slice Ao64 t424.length co64, .slice Ao35 t378.length co35] rfl ?_; (with_reducible refine (laws_eqByteS.calls kj16 _ _ t424 _ _ t378 true _ ?side1 ?side2 ?side3 ?side4 A53.out).mono ?_); (case side1 => exact cR HO426.out); (case side2 => exact (Kd.R_reads' HO426.out).2.1); (case side3 => repeat (first | exact (Kd.V_reads' HO_4.out).2.2 | (with_reducible refine Kd.C_alloc ?_ _) | (with_reducible refine Kd.C_drewN ?_ _) | (with_reducible refine Kd.C_drew ?_))); (case side4 => exact (Kd.V_reads' HO_4.out).2.1); rintro e w' ⟨rfl, ⟨nd, rfl⟩⟩; refine ⟨_, rfl, ?_⟩) | ((with_reducible refine gate_callee (f := 17) rfl ?_); refine goesL_ (some 63) rfl rfl Try.func17 (by kernel_rfl) rfl #[.slice Ao34 t412.length co34, .int .i64 1] rfl (by (try simp only [List.map_toArray, List.map_cons, List.map_nil]); first | done | (rw [show t412.length = t392.length from (Kd.R_reads' HO_6.out).1.symm] <;> rfl) | rfl | (simp only [List.length_drop, List.length_take]; rfl)) ?_; (with_reducible refine (laws_heldByteS.calls kj16 _ _ t412 1 t428 _ ?side1 ?side2 A55.out).mono ?_); (case side1 => exact cR HO_6.out); (case side2 => rw [show t412.length = t392.length from (Kd.R_reads' HO_6.out).1.symm]; exact (Kd.R_reads' HO_6.out).2.1); rintro e w' ⟨rfl, ⟨nd, rfl⟩⟩; refine ⟨_, rfl, ?_⟩))
           go_ret
           exact ⟨by first | rfl | (simp [errW_none, errW_some] <;> rfl) | (simp [*, errW_none, errW_some] <;> rfl), bS HB.out⟩
          ·rw [if_neg c56] at H
           have c56b0 : decide (t428 < 0) = false := decide_eq_false c56
           clear c56
           by_cases c65 : t428 = t411
           ·rw [if_pos c65] at H
            have c65b0 : (t428 == t411) = true := beq_iff_eq.mpr c65
            have c65b1 : (t428 != t411) = false := bne_eq_false_iff_eq.mpr c65
            clear c65
            obtain rfl := Option.some.inj H
            go_wp2_with (first | ((with_reducible refine gate_callee (f := 16) rfl ?_); refine gL (some 45) rfl rfl Try.func16 (by kernel_rfl) rfl #[.slice Ao34 t392.length co34, .int .i64 1] rfl ?_; (with_reducible refine (laws_markByteS.calls kj16 (fun k_ => some k_ = (.slice Ao34 t392.length co34 : Value).ownBlock) (.slice Ao34 t392.length co34) t392 1 t411 t412 w _ ?side1 ?side2 A46.out).mono ?_); (case side1 => repeat (first | (with_reducible first | exact HB.out | apply below_alloc | apply pw_below_drewN | apply below_drew1 | refine below_set ?_ GE366.out | refine below_set ?_ GE391.out) | exact HB.out)); (case side2 => exact Kd.R_tight rfl HO_6.out); rintro e w66 ⟨rfl, hy0, hb, hkp⟩; refine ⟨_, rfl, ?_⟩; have _ := aM (Kd.V_mono (ok' := fun k_ => some k_ ≠ (.slice Ao34 t392.length co34 : Value).ownBlock ∧ some k_ ≠ (.slice Ao31 t408.length co31 : Value).ownBlock ∧ some k_ ≠ (.slice Ao32 t409.length co32 : Value).ownBlock ∧ k_ ≠ gb366 ∧ k_ ≠ gb391) (Kd.V_keptB (HO_4.out) hkp (fun k_ hk_ hs_ => (hk_.1) hs_)) (fun k_ hk_ => by first | exact ⟨hk_.1.1, hk_.1.2.1, hk_.1.2.2.1, hk_.1.2.2.2.1, hk_.1.2.2.2.2⟩ | (simp only [ne_eq] at hk_ ⊢; simp [hk_]))); have _ := aM (Kd.R_reok rfl hy0 (fun k_ e_ => HO_6.out.1 k_ e_)); have _ := aM (Kd.R_mono (ok' := fun k_ => True) (Kd.R_keptB ((Kd.R_apart' HO_392003.out (Kd.R_typed HO_6.out) (by decide))) hkp (fun k_ hk_ hs_ => (hk_.2) hs_)) (fun k_ hk_ => trivial)); have _ := aM (Kd.R_mono (ok' := fun k_ => True) (Kd.R_keptB ((Kd.R_apart' HO_392004.out (Kd.R_typed HO_6.out) (by decide))) hkp (fun k_ hk_ hs_ => (hk_.2) hs_)) (fun k_ hk_ => trivial)); have _ := aM (blk_kept (kA BK366.out) hkp (fun hs_ => (fun e_ => (Kd.R_ne HO_6.out BK366.out (by decide)) e_) hs_)); have _ := aM (blk_kept (kA BK391.out) hkp (fun hs_ => (fun e_ => (Kd.R_ne HO_6.out BK391.out (by decide)) e_) hs_)); have _ := aM (hb); clear HO_4 HO_6 HO_392003 HO_392004 BK366 BK391 HB; rename_i HO_4 HO_6 HO_392003 HO_392004 BK366 BK391 HB; (try clear hb); (try clear hkp); (try clear hy0)) | ((with_reducible refine gate_callee (f := 17) rfl ?_); refine goesL_ (some 48) rfl rfl Try.func17 (by kernel_rfl) rfl #[.slice Ao34 t412.length co34, .int .i64 1] rfl (by (try simp only [List.map_toArray, List.map_cons, List.map_nil]); first | done | (rw [show t412.length = t392.length from (Kd.R_reads' HO_6.out).1.symm] <;> rfl) | rfl | (simp only [List.length_drop, List.length_take]; rfl)) ?_; (with_reducible refine (laws_heldByteS.calls kj16 _ _ t412 1 t413 _ ?side1 ?side2 A47.out).mono ?_); (case side1 => exact cR HO_6.out); (case side2 => rw [show t412.length = t392.length from (Kd.R_reads' HO_6.out).1.symm]; exact (Kd.R_reads' HO_6.out).2.1); rintro e w' ⟨rfl, ⟨nd, rfl⟩⟩; refine ⟨_, rfl, ?_⟩; have hnb67 := NB366_391.out; have hnc67 := NB391_366.out; obtain ⟨hcz68_0, hfz68_0, hcz68_1, hfz68_1, hcz68_2, hfz68_2, hcz68_3, hfz68_3, hcz68_4, hfz68_4, hcz68_5, hfz68_5⟩ := bk6 BK366.out) | ((with_reducible refine gate_callee (f := 9) rfl ?_); refine gL (some 55) rfl rfl Try.func9 (by kernel_rfl) rfl #[.agg #[.int .i64 a0_0, .int .i64 a0_1, .int .i64 a0_2, .slice A0_3 l0_3.length c0_3, .slice A0_4 l0_4.length c0_4, .int .i64 a0_5]] rfl ?_; (with_reducible refine (laws_toReq.calls kj16 a0_0 a0_1 a0_2 _ _ l0_3 _ _ l0_4 a0_5 t414 t415 t416 t417 t420 t423 _ ?side1 ?side2 ?side3 ?side4 A51.out).mono ?_); (case side1 => repeat (first | exact (Kd.C_below HR0_3.out (bS HB.out)) | (with_reducible refine Kd.C_alloc ?_ _) | (with_reducible refine Kd.C_drewN ?_ _) | (with_reducible refine Kd.C_drew ?_))); (case side2 => exact HC0_3.out); (case side3 => repeat (first | exact (Kd.C_below HR0_4.out (bS HB.out)) | (with_reducible refine Kd.C_alloc ?_ _) | (with_reducible refine Kd.C_drewN ?_ _) | (with_reducible refine Kd.C_drew ?_))); (case side4 => exact HC0_4.out); rintro e w69 ⟨v418, v421, rfl, ho0, ho1, hb⟩; refine ⟨_, rfl, ?_⟩; have _ := aM (Kd.V_mono (Kd.V_told (Kd.V_told (Kd.V_old (by (with_reducible repeat (first | apply Kd.V_alloc | apply Kd.V_drewN | apply Kd.V_drew)); exact HO_4.out) hb) (Kd.R_base ho0)) (Kd.R_base ho1)) (fun _ h_ => by first | exact h_.1 | (have h2_ := h_.1; simp only [ne_eq] at h2_ ⊢; simp [h2_]))); have _ := aM (rB HO_6.out hb); have _ := aM (Kd.R_elder' (rA HO_392003.out) (Kd.R_base ho0) hb); have _ := aM (Kd.R_elder' (rA HO_392004.out) (Kd.R_base ho1) hb); have _ := aM (Kd.R_lower (Kd.R_new' ho0 (Kd.R_lt (rA HO_392003.out))) (below_size (bS HB.out))); have _ := aM (Kd.R_lower (Kd.R_new' ho1 (Kd.R_lt (rA HO_392004.out))) (below_size (bS HB.out))); have _ := aM (kB BK366.out hb); have _ := aM (kB BK391.out hb); have _ := aM (below_step (bS HB.out) hb); clear HO_4 HO_6 HO_392003 HO_392004 BK366 BK391 HB; rename_i HO_4 HO_6 HO_392003 HO_392004 HO419 HO422 BK366 BK391 HB; (try clear hb); (try clear ho0); (try clear ho1); obtain ⟨Ao70, co70, eo70⟩ := Kd.R_slice HO419.out; subst eo70; obtain ⟨Ao71, co71, eo71⟩ := Kd.R_slice HO422.out; subst eo71) | ((with_reducible refine gate_callee (f := 13) rfl ?_); refine gL (some 56) rfl rfl Try.func13 (by kernel_rfl) rfl #[.agg #[.int .i64 t414, .int .i64 t415, .int .i64 t416, .slice Ao70 t417.length co70, .slice Ao71 t420.length co71, .int .i64 t423]] rfl ?_; (with_reducible refine (impl_PutReq.calls kj16 t414 t415 t416 _ _ t417 _ _ t420 t423 t424 _ ?side1 ?side2 ?side3 ?side4 A52.out).mono ?_); (case side1 => exact cR HO419.out); (case side2 => exact (Kd.R_reads' HO419.out).2.1); (case side3 => exact cR HO422.out); (case side4 => exact (Kd.R_reads' HO422.out).2.1); rintro e w72 ⟨v425, rfl, ho0, hb⟩; refine ⟨_, rfl, ?_⟩; have _ := aM (Kd.V_elder' (by (with_reducible repeat (first | apply Kd.V_alloc | apply Kd.V_drewN | apply Kd.V_drew)); exact HO_4.out) (Kd.R_base ho0) hb); have _ := aM (Kd.R_elder' (rA HO_6.out) (Kd.R_base ho0) hb); have _ := aM (rB HO_392003.out hb); have _ := aM (rB HO_392004.out hb); have _ := aM (rB HO419.out hb); have _ := aM (rB HO422.out hb); have _ := aM (Kd.R_lower (Kd.R_new' ho0 (Kd.R_lt (rA HO_6.out))) (below_size (bS HB.out))); have _ := aM (kB BK366.out hb); have _ := aM (kB BK391.out hb); have _ := aM (below_step (bS HB.out) hb); clear HO_4 HO_6 HO_392003 HO_392004 HO419 HO422 BK366 BK391 HB; rename_i HO_4 HO_6 HO_392003 HO_392004 HO419 HO422 HO426 BK366 BK391 HB; (try clear hb); (try clear ho0); obtain ⟨Ao73, co73, eo73⟩ := Kd.R_slice HO426.out; subst eo73) | ((with_reducible refine gate_callee (f := 14) rfl ?_); refine gL (some 59) rfl rfl Try.func14 (by kernel_rfl) rfl #[.slice Ao73 t424.length co73, .slice Ao35 t378.length co35] rfl ?_; (with_reducible refine (laws_eqByteS.calls kj16 _ _ t424 _ _ t378 true _ ?side1 ?side2 ?side3 ?side4 A53.out).mono ?_); (case side1 => exact cR HO426.out); (case side2 => exact (Kd.R_reads' HO426.out).2.1); (case side3 => repeat (first | exact (Kd.V_reads' HO_4.out).2.2 | (with_reducible refine Kd.C_alloc ?_ _) | (with_reducible refine Kd.C_drewN ?_ _) | (with_reducible refine Kd.C_drew ?_))); (case side4 => exact (Kd.V_reads' HO_4.out).2.1); rintro e w' ⟨rfl, ⟨nd, rfl⟩⟩; refine ⟨_, rfl, ?_⟩) | ((with_reducible refine gate_callee (f := 17) rfl ?_); refine goesL_ (some 63) rfl rfl Try.func17 (by kernel_rfl) rfl #[.slice Ao34 t412.length co34, .int .i64 1] rfl (by (try simp only [List.map_toArray, List.map_cons, List.map_nil]); first | done | (rw [show t412.length = t392.length from (Kd.R_reads' HO_6.out).1.symm] <;> rfl) | rfl | (simp only [List.length_drop, List.length_take]; rfl)) ?_; (with_reducible refine (laws_heldByteS.calls kj16 _ _ t412 1 t428 _ ?side1 ?side2 A55.out).mono ?_); (case side1 => exact cR HO_6.out); (case side2 => rw [show t412.length = t392.length from (Kd.R_reads' HO_6.out).1.symm]; exact (Kd.R_reads' HO_6.out).2.1); rintro e w' ⟨rfl, ⟨nd, rfl⟩⟩; refine ⟨_, rfl, ?_⟩))
            go_ret
            exact ⟨by first | rfl | (simp [errW_none, errW_some] <;> rfl) | (simp [*, errW_none, errW_some] <;> rfl), bS HB.out⟩
           ·rw [if_neg c65] at H
            have c65b0 : (t428 == t411) = false := beq_eq_false_iff_ne.mpr c65
            have c65b1 : (t428 != t411) = true := bne_iff_ne.mpr c65
            obtain rfl := Option.some.inj H
            go_wp2_with (first | ((with_reducible refine gate_callee (f := 16) rfl ?_); refine gL (some 45) rfl rfl Try.func16 (by kernel_rfl) rfl #[.slice Ao34 t392.length co34, .int .i64 1] rfl ?_; (with_reducible refine (laws_markByteS.calls kj16 (fun k_ => some k_ = (.slice Ao34 t392.length co34 : Value).ownBlock) (.slice Ao34 t392.length co34) t392 1 t411 t412 w _ ?side1 ?side2 A46.out).mono ?_); (case side1 => repeat (first | (with_reducible first | exact HB.out | apply below_alloc | apply pw_below_drewN | apply below_drew1 | refine below_set ?_ GE366.out | refine below_set ?_ GE391.out) | exact HB.out)); (case side2 => exact Kd.R_tight rfl HO_6.out); rintro e w74 ⟨rfl, hy0, hb, hkp⟩; refine ⟨_, rfl, ?_⟩; have _ := aM (Kd.V_mono (ok' := fun k_ => some k_ ≠ (.slice Ao34 t392.length co34 : Value).ownBlock ∧ some k_ ≠ (.slice Ao31 t408.length co31 : Value).ownBlock ∧ some k_ ≠ (.slice Ao32 t409.length co32 : Value).ownBlock ∧ k_ ≠ gb366 ∧ k_ ≠ gb391) (Kd.V_keptB (HO_4.out) hkp (fun k_ hk_ hs_ => (hk_.1) hs_)) (fun k_ hk_ => by first | exact ⟨hk_.1.1, hk_.1.2.1, hk_.1.2.2.1, hk_.1.2.2.2.1, hk_.1.2.2.2.2⟩ | (simp only [ne_eq] at hk_ ⊢; simp [hk_]))); have _ := aM (Kd.R_reok rfl hy0 (fun k_ e_ => HO_6.out.1 k_ e_)); have _ := aM (Kd.R_mono (ok' := fun k_ => True) (Kd.R_keptB ((Kd.R_apart' HO_392003.out (Kd.R_typed HO_6.out) (by decide))) hkp (fun k_ hk_ hs_ => (hk_.2) hs_)) (fun k_ hk_ => trivial)); have _ := aM (Kd.R_mono (ok' := fun k_ => True) (Kd.R_keptB ((Kd.R_apart' HO_392004.out (Kd.R_typed HO_6.out) (by decide))) hkp (fun k_ hk_ hs_ => (hk_.2) hs_)) (fun k_ hk_ => trivial)); have _ := aM (blk_kept (kA BK366.out) hkp (fun hs_ => (fun e_ => (Kd.R_ne HO_6.out BK366.out (by decide)) e_) hs_)); have _ := aM (blk_kept (kA BK391.out) hkp (fun hs_ => (fun e_ => (Kd.R_ne HO_6.out BK391.out (by decide)) e_) hs_)); have _ := aM (hb); clear HO_4 HO_6 HO_392003 HO_392004 BK366 BK391 HB; rename_i HO_4 HO_6 HO_392003 HO_392004 BK366 BK391 HB; (try clear hb); (try clear hkp); (try clear hy0)) | ((with_reducible refine gate_callee (f := 17) rfl ?_); refine goesL_ (some 48) rfl rfl Try.func17 (by kernel_rfl) rfl #[.slice Ao34 t412.length co34, .int .i64 1] rfl (by (try simp only [List.map_toArray, List.map_cons, List.map_nil]); first | done | (rw [show t412.length = t392.length from (Kd.R_reads' HO_6.out).1.symm] <;> rfl) | rfl | (simp only [List.length_drop, List.length_take]; rfl)) ?_; (with_reducible refine (laws_heldByteS.calls kj16 _ _ t412 1 t413 _ ?side1 ?side2 A47.out).mono ?_); (case side1 => exact cR HO_6.out); (case side2 => rw [show t412.length = t392.length from (Kd.R_reads' HO_6.out).1.symm]; exact (Kd.R_reads' HO_6.out).2.1); rintro e w' ⟨rfl, ⟨nd, rfl⟩⟩; refine ⟨_, rfl, ?_⟩; have hnb75 := NB366_391.out; have hnc75 := NB391_366.out; obtain ⟨hcz76_0, hfz76_0, hcz76_1, hfz76_1, hcz76_2, hfz76_2, hcz76_3, hfz76_3, hcz76_4, hfz76_4, hcz76_5, hfz76_5⟩ := bk6 BK366.out) | ((with_reducible refine gate_callee (f := 9) rfl ?_); refine gL (some 55) rfl rfl Try.func9 (by kernel_rfl) rfl #[.agg #[.int .i64 a0_0, .int .i64 a0_1, .int .i64 a0_2, .slice A0_3 l0_3.length c0_3, .slice A0_4 l0_4.length c0_4, .int .i64 a0_5]] rfl ?_; (with_reducible refine (laws_toReq.calls kj16 a0_0 a0_1 a0_2 _ _ l0_3 _ _ l0_4 a0_5 t414 t415 t416 t417 t420 t423 _ ?side1 ?side2 ?side3 ?side4 A51.out).mono ?_); (case side1 => repeat (first | exact (Kd.C_below HR0_3.out (bS HB.out)) | (with_reducible refine Kd.C_alloc ?_ _) | (with_reducible refine Kd.C_drewN ?_ _) | (with_reducible refine Kd.C_drew ?_))); (case side2 => exact HC0_3.out); (case side3 => repeat (first | exact (Kd.C_below HR0_4.out (bS HB.out)) | (with_reducible refine Kd.C_alloc ?_ _) | (with_reducible refine Kd.C_drewN ?_ _) | (with_reducible refine Kd.C_drew ?_))); (case side4 => exact HC0_4.out); rintro e w77 ⟨v418, v421, rfl, ho0, ho1, hb⟩; refine ⟨_, rfl, ?_⟩; have _ := aM (Kd.V_mono (Kd.V_told (Kd.V_told (Kd.V_old (by (with_reducible repeat (first | apply Kd.V_alloc | apply Kd.V_drewN | apply Kd.V_drew)); exact HO_4.out) hb) (Kd.R_base ho0)) (Kd.R_base ho1)) (fun _ h_ => by first | exact h_.1 | (have h2_ := h_.1; simp only [ne_eq] at h2_ ⊢; simp [h2_]))); have _ := aM (rB HO_6.out hb); have _ := aM (Kd.R_elder' (rA HO_392003.out) (Kd.R_base ho0) hb); have _ := aM (Kd.R_elder' (rA HO_392004.out) (Kd.R_base ho1) hb); have _ := aM (Kd.R_lower (Kd.R_new' ho0 (Kd.R_lt (rA HO_392003.out))) (below_size (bS HB.out))); have _ := aM (Kd.R_lower (Kd.R_new' ho1 (Kd.R_lt (rA HO_392004.out))) (below_size (bS HB.out))); have _ := aM (kB BK366.out hb); have _ := aM (kB BK391.out hb); have _ := aM (below_step (bS HB.out) hb); clear HO_4 HO_6 HO_392003 HO_392004 BK366 BK391 HB; rename_i HO_4 HO_6 HO_392003 HO_392004 HO419 HO422 BK366 BK391 HB; (try clear hb); (try clear ho0); (try clear ho1); obtain ⟨Ao78, co78, eo78⟩ := Kd.R_slice HO419.out; subst eo78; obtain ⟨Ao79, co79, eo79⟩ := Kd.R_slice HO422.out; subst eo79) | ((with_reducible refine gate_callee (f := 13) rfl ?_); refine gL (some 56) rfl rfl Try.func13 (by kernel_rfl) rfl #[.agg #[.int .i64 t414, .int .i64 t415, .int .i64 t416, .slice Ao78 t417.length co78, .slice Ao79 t420.length co79, .int .i64 t423]] rfl ?_; (with_reducible refine (impl_PutReq.calls kj16 t414 t415 t416 _ _ t417 _ _ t420 t423 t424 _ ?side1 ?side2 ?side3 ?side4 A52.out).mono ?_); (case side1 => exact cR HO419.out); (case side2 => exact (Kd.R_reads' HO419.out).2.1); (case side3 => exact cR HO422.out); (case side4 => exact (Kd.R_reads' HO422.out).2.1); rintro e w80 ⟨v425, rfl, ho0, hb⟩; refine ⟨_, rfl, ?_⟩; have _ := aM (Kd.V_elder' (by (with_reducible repeat (first | apply Kd.V_alloc | apply Kd.V_drewN | apply Kd.V_drew)); exact HO_4.out) (Kd.R_base ho0) hb); have _ := aM (Kd.R_elder' (rA HO_6.out) (Kd.R_base ho0) hb); have _ := aM (rB HO_392003.out hb); have _ := aM (rB HO_392004.out hb); have _ := aM (rB HO419.out hb); have _ := aM (rB HO422.out hb); have _ := aM (Kd.R_lower (Kd.R_new' ho0 (Kd.R_lt (rA HO_6.out))) (below_size (bS HB.out))); have _ := aM (kB BK366.out hb); have _ := aM (kB BK391.out hb); have _ := aM (below_step (bS HB.out) hb); clear HO_4 HO_6 HO_392003 HO_392004 HO419 HO422 BK366 BK391 HB; rename_i HO_4 HO_6 HO_392003 HO_392004 HO419 HO422 HO426 BK366 BK391 HB; (try clear hb); (try clear ho0); obtain ⟨Ao81, co81, eo81⟩ := Kd.R_slice HO426.out; subst eo81) | ((with_reducible refine gate_callee (f := 14) rfl ?_); refine gL (some 59) rfl rfl Try.func14 (by kernel_rfl) rfl #[.slice Ao81 t424.length co81, .slice Ao35 t378.length co35] rfl ?_; (with_reducible refine (laws_eqByteS.calls kj16 _ _ t424 _ _ t378 true _ ?side1 ?side2 ?side3 ?side4 A53.out).mono ?_); (case side1 => exact cR HO426.out); (case side2 => exact (Kd.R_reads' HO426.out).2.1); (case side3 => repeat (first | exact (Kd.V_reads' HO_4.out).2.2 | (with_reducible refine Kd.C_alloc ?_ _) | (with_reducible refine Kd.C_drewN ?_ _) | (with_reducible refine Kd.C_drew ?_))); (case side4 => exact (Kd.V_reads' HO_4.out).2.1); rintro e w' ⟨rfl, ⟨nd, rfl⟩⟩; refine ⟨_, rfl, ?_⟩) | ((with_reducible refine gate_callee (f := 17) rfl ?_); refine goesL_ (some 63) rfl rfl Try.func17 (by kernel_rfl) rfl #[.slice Ao34 t412.length co34, .int .i64 1] rfl (by (try simp only [List.map_toArray, List.map_cons, List.map_nil]); first | done | (rw [show t412.length = t392.length from (Kd.R_reads' HO_6.out).1.symm] <;> rfl) | rfl | (simp only [List.length_drop, List.length_take]; rfl)) ?_; (with_reducible refine (laws_heldByteS.calls kj16 _ _ t412 1 t428 _ ?side1 ?side2 A55.out).mono ?_); (case side1 => exact cR HO_6.out); (case side2 => rw [show t412.length = t392.length from (Kd.R_reads' HO_6.out).1.symm]; exact (Kd.R_reads' HO_6.out).2.1); rintro e w' ⟨rfl, ⟨nd, rfl⟩⟩; refine ⟨_, rfl, ?_⟩))
            go_ret
            exact ⟨by first | rfl | (simp [errW_none, errW_some] <;> rfl) | (simp [*, errW_none, errW_some] <;> rfl), bS HB.out⟩
         ·replace c54 := Bool.eq_false_iff.mpr c54
          subst c54
          have H1 : (some false) = some r := by rw [if_neg (show ¬ (false = true) by decide)] at H; exact H
          clear H
          have H := H1
          clear H1
          obtain rfl := Option.some.inj H
          go_wp2_with (first | ((with_reducible refine gate_callee (f := 16) rfl ?_); refine gL (some 45) rfl rfl Try.func16 (by kernel_rfl) rfl #[.slice Ao34 t392.length co34, .int .i64 1] rfl ?_; (with_reducible refine (laws_markByteS.calls kj16 (fun k_ => some k_ = (.slice Ao34 t392.length co34 : Value).ownBlock) (.slice Ao34 t392.length co34) t392 1 t411 t412 w _ ?side1 ?side2 A46.out).mono ?_); (case side1 => repeat (first | (with_reducible first | exact HB.out | apply below_alloc | apply pw_below_drewN | apply below_drew1 | refine below_set ?_ GE366.out | refine below_set ?_ GE391.out) | exact HB.out)); (case side2 => exact Kd.R_tight rfl HO_6.out); rintro e w82 ⟨rfl, hy0, hb, hkp⟩; refine ⟨_, rfl, ?_⟩; have _ := aM (Kd.V_mono (ok' := fun k_ => some k_ ≠ (.slice Ao34 t392.length co34 : Value).ownBlock ∧ some k_ ≠ (.slice Ao31 t408.length co31 : Value).ownBlock ∧ some k_ ≠ (.slice Ao32 t409.length co32 : Value).ownBlock ∧ k_ ≠ gb366 ∧ k_ ≠ gb391) (Kd.V_keptB (HO_4.out) hkp (fun k_ hk_ hs_ => (hk_.1) hs_)) (fun k_ hk_ => by first | exact ⟨hk_.1.1, hk_.1.2.1, hk_.1.2.2.1, hk_.1.2.2.2.1, hk_.1.2.2.2.2⟩ | (simp only [ne_eq] at hk_ ⊢; simp [hk_]))); have _ := aM (Kd.R_reok rfl hy0 (fun k_ e_ => HO_6.out.1 k_ e_)); have _ := aM (Kd.R_mono (ok' := fun k_ => True) (Kd.R_keptB ((Kd.R_apart' HO_392003.out (Kd.R_typed HO_6.out) (by decide))) hkp (fun k_ hk_ hs_ => (hk_.2) hs_)) (fun k_ hk_ => trivial)); have _ := aM (Kd.R_mono (ok' := fun k_ => True) (Kd.R_keptB ((Kd.R_apart' HO_392004.out (Kd.R_typed HO_6.out) (by decide))) hkp (fun k_ hk_ hs_ => (hk_.2) hs_)) (fun k_ hk_ => trivial)); have _ := aM (blk_kept (kA BK366.out) hkp (fun hs_ => (fun e_ => (Kd.R_ne HO_6.out BK366.out (by decide)) e_) hs_)); have _ := aM (blk_kept (kA BK391.out) hkp (fun hs_ => (fun e_ => (Kd.R_ne HO_6.out BK391.out (by decide)) e_) hs_)); have _ := aM (hb); clear HO_4 HO_6 HO_392003 HO_392004 BK366 BK391 HB; rename_i HO_4 HO_6 HO_392003 HO_392004 BK366 BK391 HB; (try clear hb); (try clear hkp); (try clear hy0)) | ((with_reducible refine gate_callee (f := 17) rfl ?_); refine goesL_ (some 48) rfl rfl Try.func17 (by kernel_rfl) rfl #[.slice Ao34 t412.length co34, .int .i64 1] rfl (by (try simp only [List.map_toArray, List.map_cons, List.map_nil]); first | done | (rw [show t412.length = t392.length from (Kd.R_reads' HO_6.out).1.symm] <;> rfl) | rfl | (simp only [List.length_drop, List.length_take]; rfl)) ?_; (with_reducible refine (laws_heldByteS.calls kj16 _ _ t412 1 t413 _ ?side1 ?side2 A47.out).mono ?_); (case side1 => exact cR HO_6.out); (case side2 => rw [show t412.length = t392.length from (Kd.R_reads' HO_6.out).1.symm]; exact (Kd.R_reads' HO_6.out).2.1); rintro e w' ⟨rfl, ⟨nd, rfl⟩⟩; refine ⟨_, rfl, ?_⟩; have hnb83 := NB366_391.out; have hnc83 := NB391_366.out; obtain ⟨hcz84_0, hfz84_0, hcz84_1, hfz84_1, hcz84_2, hfz84_2, hcz84_3, hfz84_3, hcz84_4, hfz84_4, hcz84_5, hfz84_5⟩ := bk6 BK366.out) | ((with_reducible refine gate_callee (f := 9) rfl ?_); refine gL (some 55) rfl rfl Try.func9 (by kernel_rfl) rfl #[.agg #[.int .i64 a0_0, .int .i64 a0_1, .int .i64 a0_2, .slice A0_3 l0_3.length c0_3, .slice A0_4 l0_4.length c0_4, .int .i64 a0_5]] rfl ?_; (with_reducible refine (laws_toReq.calls kj16 a0_0 a0_1 a0_2 _ _ l0_3 _ _ l0_4 a0_5 t414 t415 t416 t417 t420 t423 _ ?side1 ?side2 ?side3 ?side4 A51.out).mono ?_); (case side1 => repeat (first | exact (Kd.C_below HR0_3.out (bS HB.out)) | (with_reducible refine Kd.C_alloc ?_ _) | (with_reducible refine Kd.C_drewN ?_ _) | (with_reducible refine Kd.C_drew ?_))); (case side2 => exact HC0_3.out); (case side3 => repeat (first | exact (Kd.C_below HR0_4.out (bS HB.out)) | (with_reducible refine Kd.C_alloc ?_ _) | (with_reducible refine Kd.C_drewN ?_ _) | (with_reducible refine Kd.C_drew ?_))); (case side4 => exact HC0_4.out); rintro e w85 ⟨v418, v421, rfl, ho0, ho1, hb⟩; refine ⟨_, rfl, ?_⟩; have _ := aM (Kd.V_mono (Kd.V_told (Kd.V_told (Kd.V_old (by (with_reducible repeat (first | apply Kd.V_alloc | apply Kd.V_drewN | apply Kd.V_drew)); exact HO_4.out) hb) (Kd.R_base ho0)) (Kd.R_base ho1)) (fun _ h_ => by first | exact h_.1 | (have h2_ := h_.1; simp only [ne_eq] at h2_ ⊢; simp [h2_]))); have _ := aM (rB HO_6.out hb); have _ := aM (Kd.R_elder' (rA HO_392003.out) (Kd.R_base ho0) hb); have _ := aM (Kd.R_elder' (rA HO_392004.out) (Kd.R_base ho1) hb); have _ := aM (Kd.R_lower (Kd.R_new' ho0 (Kd.R_lt (rA HO_392003.out))) (below_size (bS HB.out))); have _ := aM (Kd.R_lower (Kd.R_new' ho1 (Kd.R_lt (rA HO_392004.out))) (below_size (bS HB.out))); have _ := aM (kB BK366.out hb); have _ := aM (kB BK391.out hb); have _ := aM (below_step (bS HB.out) hb); clear HO_4 HO_6 HO_392003 HO_392004 BK366 BK391 HB; rename_i HO_4 HO_6 HO_392003 HO_392004 HO419 HO422 BK366 BK391 HB; (try clear hb); (try clear ho0); (try clear ho1); obtain ⟨Ao86, co86, eo86⟩ := Kd.R_slice HO419.out; subst eo86; obtain ⟨Ao87, co87, eo87⟩ := Kd.R_slice HO422.out; subst eo87) | ((with_reducible refine gate_callee (f := 13) rfl ?_); refine gL (some 56) rfl rfl Try.func13 (by kernel_rfl) rfl #[.agg #[.int .i64 t414, .int .i64 t415, .int .i64 t416, .slice Ao86 t417.length co86, .slice Ao87 t420.length co87, .int .i64 t423]] rfl ?_; (with_reducible refine (impl_PutReq.calls kj16 t414 t415 t416 _ _ t417 _ _ t420 t423 t424 _ ?side1 ?side2 ?side3 ?side4 A52.out).mono ?_); (case side1 => exact cR HO419.out); (case side2 => exact (Kd.R_reads' HO419.out).2.1); (case side3 => exact cR HO422.out); (case side4 => exact (Kd.R_reads' HO422.out).2.1); rintro e w88 ⟨v425, rfl, ho0, hb⟩; refine ⟨_, rfl, ?_⟩; have _ := aM (Kd.V_elder' (by (with_reducible repeat (first | apply Kd.V_alloc | apply Kd.V_drewN | apply Kd.V_drew)); exact HO_4.out) (Kd.R_base ho0) hb); have _ := aM (Kd.R_elder' (rA HO_6.out) (Kd.R_base ho0) hb); have _ := aM (rB HO_392003.out hb); have _ := aM (rB HO_392004.out hb); have _ := aM (rB HO419.out hb); have _ := aM (rB HO422.out hb); have _ := aM (Kd.R_lower (Kd.R_new' ho0 (Kd.R_lt (rA HO_6.out))) (below_size (bS HB.out))); have _ := aM (kB BK366.out hb); have _ := aM (kB BK391.out hb); have _ := aM (below_step (bS HB.out) hb); clear HO_4 HO_6 HO_392003 HO_392004 HO419 HO422 BK366 BK391 HB; rename_i HO_4 HO_6 HO_392003 HO_392004 HO419 HO422 HO426 BK366 BK391 HB; (try clear hb); (try clear ho0); obtain ⟨Ao89, co89, eo89⟩ := Kd.R_slice HO426.out; subst eo89) | ((with_reducible refine gate_callee (f := 14) rfl ?_); refine gL (some 59) rfl rfl Try.func14 (by kernel_rfl) rfl #[.slice Ao89 t424.length co89, .slice Ao35 t378.length co35] rfl ?_; (with_reducible refine (laws_eqByteS.calls kj16 _ _ t424 _ _ t378 false _ ?side1 ?side2 ?side3 ?side4 A53.out).mono ?_); (case side1 => exact cR HO426.out); (case side2 => exact (Kd.R_reads' HO426.out).2.1); (case side3 => repeat (first | exact (Kd.V_reads' HO_4.out).2.2 | (with_reducible refine Kd.C_alloc ?_ _) | (with_reducible refine Kd.C_drewN ?_ _) | (with_reducible refine Kd.C_drew ?_))); (case side4 => exact (Kd.V_reads' HO_4.out).2.1); rintro e w' ⟨rfl, ⟨nd, rfl⟩⟩; refine ⟨_, rfl, ?_⟩))
          go_ret
          exact ⟨by first | rfl | (simp [errW_none, errW_some] <;> rfl) | (simp [*, errW_none, errW_some] <;> rfl), bS HB.out⟩
        ·rw [if_neg c50] at H
         have c50b0 : (t413 == t411) = false := beq_eq_false_iff_ne.mpr c50
         have c50b1 : (t413 != t411) = true := bne_iff_ne.mpr c50
         obtain rfl := Option.some.inj H
         go_wp2_with (first | ((with_reducible refine gate_callee (f := 16) rfl ?_); refine gL (some 45) rfl rfl Try.func16 (by kernel_rfl) rfl #[.slice Ao34 t392.length co34, .int .i64 1] rfl ?_; (with_reducible refine (laws_markByteS.calls kj16 (fun k_ => some k_ = (.slice Ao34 t392.length co34 : Value).ownBlock) (.slice Ao34 t392.length co34) t392 1 t411 t412 w _ ?side1 ?side2 A46.out).mono ?_); (case side1 => repeat (first | (with_reducible first | exact HB.out | apply below_alloc | apply pw_below_drewN | apply below_drew1 | refine below_set ?_ GE366.out | refine below_set ?_ GE391.out) | exact HB.out)); (case side2 => exact Kd.R_tight rfl HO_6.out); rintro e w90 ⟨rfl, hy0, hb, hkp⟩; refine ⟨_, rfl, ?_⟩; have _ := aM (Kd.V_mono (ok' := fun k_ => some k_ ≠ (.slice Ao34 t392.length co34 : Value).ownBlock ∧ some k_ ≠ (.slice Ao31 t408.length co31 : Value).ownBlock ∧ some k_ ≠ (.slice Ao32 t409.length co32 : Value).ownBlock ∧ k_ ≠ gb366 ∧ k_ ≠ gb391) (Kd.V_keptB (HO_4.out) hkp (fun k_ hk_ hs_ => (hk_.1) hs_)) (fun k_ hk_ => by first | exact ⟨hk_.1.1, hk_.1.2.1, hk_.1.2.2.1, hk_.1.2.2.2.1, hk_.1.2.2.2.2⟩ | (simp only [ne_eq] at hk_ ⊢; simp [hk_]))); have _ := aM (Kd.R_reok rfl hy0 (fun k_ e_ => HO_6.out.1 k_ e_)); have _ := aM (Kd.R_mono (ok' := fun k_ => True) (Kd.R_keptB ((Kd.R_apart' HO_392003.out (Kd.R_typed HO_6.out) (by decide))) hkp (fun k_ hk_ hs_ => (hk_.2) hs_)) (fun k_ hk_ => trivial)); have _ := aM (Kd.R_mono (ok' := fun k_ => True) (Kd.R_keptB ((Kd.R_apart' HO_392004.out (Kd.R_typed HO_6.out) (by decide))) hkp (fun k_ hk_ hs_ => (hk_.2) hs_)) (fun k_ hk_ => trivial)); have _ := aM (blk_kept (kA BK366.out) hkp (fun hs_ => (fun e_ => (Kd.R_ne HO_6.out BK366.out (by decide)) e_) hs_)); have _ := aM (blk_kept (kA BK391.out) hkp (fun hs_ => (fun e_ => (Kd.R_ne HO_6.out BK391.out (by decide)) e_) hs_)); have _ := aM (hb); clear HO_4 HO_6 HO_392003 HO_392004 BK366 BK391 HB; rename_i HO_4 HO_6 HO_392003 HO_392004 BK366 BK391 HB; (try clear hb); (try clear hkp); (try clear hy0)) | ((with_reducible refine gate_callee (f := 17) rfl ?_); refine goesL_ (some 48) rfl rfl Try.func17 (by kernel_rfl) rfl #[.slice Ao34 t412.length co34, .int .i64 1] rfl (by (try simp only [List.map_toArray, List.map_cons, List.map_nil]); first | done | (rw [show t412.length = t392.length from (Kd.R_reads' HO_6.out).1.symm] <;> rfl) | rfl | (simp only [List.length_drop, List.length_take]; rfl)) ?_; (with_reducible refine (laws_heldByteS.calls kj16 _ _ t412 1 t413 _ ?side1 ?side2 A47.out).mono ?_); (case side1 => exact cR HO_6.out); (case side2 => rw [show t412.length = t392.length from (Kd.R_reads' HO_6.out).1.symm]; exact (Kd.R_reads' HO_6.out).2.1); rintro e w' ⟨rfl, ⟨nd, rfl⟩⟩; refine ⟨_, rfl, ?_⟩))
         go_ret
         exact ⟨by first | rfl | (simp [errW_none, errW_some] <;> rfl) | (simp [*, errW_none, errW_some] <;> rfl), bS HB.out⟩
   ·replace c15 := Bool.eq_false_iff.mpr c15
    subst c15
    have H1 : (some false) = some r := by rw [if_neg (show ¬ (false = true) by decide)] at H; exact H
    clear H
    have H := H1
    clear H1
    obtain rfl := Option.some.inj H
    go_enter Try.func4, Try.ntmps4
    try go_wp2_with (first | ((with_reducible refine gate_dst (N := 1) rfl ?_); refine box_event ?hg (N := 1) ?hd (cs := #[.int .i64 a0_0, .int .i64 a0_1, .int .i64 a0_2, .slice A0_3 l0_3.length c0_3, .slice A0_4 l0_4.length c0_4, .int .i64 a0_5]) (t := 25) ?hr ?_; (case hd => rfl); (case hg => rfl); (case hr => first | (go_simp; done) | (go_simp; rfl)); intro gb366 hg w91 hbox hb; have _ := aM (below_step (bS HB.out) hb); have _ := aM (hbox); have _ := aM (leG hg (bS HB.out)); have _ := aM (leG hg (bS HB.out)); clear HB; rename_i HB BK366 GW366 GE366; clear hb hbox hg; obtain ⟨hcz92_0, hfz92_0, hcz92_1, hfz92_1, hcz92_2, hfz92_2, hcz92_3, hfz92_3, hcz92_4, hfz92_4, hcz92_5, hfz92_5⟩ := bk6 BK366.out) | ((with_reducible refine gate_callee (f := 7) rfl ?_); refine gL (some 13) rfl rfl Try.func7 (by kernel_rfl) rfl #[.agg #[.int .i64 a0_0, .int .i64 a0_1, .int .i64 a0_2, .slice A0_3 l0_3.length c0_3, .slice A0_4 l0_4.length c0_4, .int .i64 a0_5], .int .i64 1048576] rfl ?_; (with_reducible refine (laws_szReq.calls a0_0 a0_1 a0_2 _ _ l0_3 _ _ l0_4 a0_5 1048576 t367 _ ?side1 ?side2 ?side3 ?side4 A2.out).mono ?_); (case side1 => exact cB HR0_3.out HB.out); (case side2 => exact HC0_3.out); (case side3 => exact cB HR0_4.out HB.out); (case side4 => exact HC0_4.out); rintro e w93 ⟨rfl, hb⟩; refine ⟨_, rfl, ?_⟩; have _ := aM (kB BK366.out hb); have _ := aM (below_step (bS HB.out) hb); clear BK366 HB; rename_i BK366 HB; (try clear hb); obtain ⟨hcz94_0, hfz94_0, hcz94_1, hfz94_1, hcz94_2, hfz94_2, hcz94_3, hfz94_3, hcz94_4, hfz94_4, hcz94_5, hfz94_5⟩ := bk6 BK366.out) | ((with_reducible refine gate_callee (f := 9) rfl ?_); refine gL (some 17) rfl rfl Try.func9 (by kernel_rfl) rfl #[.agg #[.int .i64 a0_0, .int .i64 a0_1, .int .i64 a0_2, .slice A0_3 l0_3.length c0_3, .slice A0_4 l0_4.length c0_4, .int .i64 a0_5]] rfl ?_; (with_reducible refine (laws_toReq.calls k a0_0 a0_1 a0_2 _ _ l0_3 _ _ l0_4 a0_5 t368 t369 t370 t371 t374 t377 _ ?side1 ?side2 ?side3 ?side4 A7.out).mono ?_); (case side1 => exact cB HR0_3.out HB.out); (case side2 => exact HC0_3.out); (case side3 => exact cB HR0_4.out HB.out); (case side4 => exact HC0_4.out); rintro e w95 ⟨v372, v375, rfl, ho0, ho1, hb⟩; refine ⟨_, rfl, ?_⟩; have _ := aM (Kd.R_lower ho0 (below_size (bS HB.out))); have _ := aM (Kd.R_lower ho1 (below_size (bS HB.out))); have _ := aM (kB BK366.out hb); have _ := aM (below_step (bS HB.out) hb); clear BK366 HB; rename_i HO373 HO376 BK366 HB; (try clear hb); (try clear ho0); (try clear ho1); obtain ⟨Ao96, co96, eo96⟩ := Kd.R_slice HO373.out; subst eo96; obtain ⟨Ao97, co97, eo97⟩ := Kd.R_slice HO376.out; subst eo97) | ((with_reducible refine gate_callee (f := 12) rfl ?_); refine gL (some 18) rfl rfl Try.func12 (by kernel_rfl) rfl #[.agg #[.int .i64 t368, .int .i64 t369, .int .i64 t370, .slice Ao96 t371.length co96, .slice Ao97 t374.length co97, .int .i64 t377]] rfl ?_; (with_reducible refine (spec_PutReq.calls k t368 t369 t370 _ _ t371 _ _ t374 t377 t378 _ ?side1 ?side2 ?side3 ?side4 A8.out).mono ?_); (case side1 => exact cR HO373.out); (case side2 => exact (Kd.R_reads' HO373.out).2.1); (case side3 => exact cR HO376.out); (case side4 => exact (Kd.R_reads' HO376.out).2.1); rintro e w98 ⟨v379, rfl, ho0, hb⟩; refine ⟨_, rfl, ?_⟩; have _ := aM (rB HO373.out hb); have _ := aM (rB HO376.out hb); have _ := aM (Kd.V_lower (Kd.V_mono (ok' := fun k_ => some k_ ≠ (.slice Ao96 t371.length co96 : Value).ownBlock ∧ some k_ ≠ (.slice Ao97 t374.length co97 : Value).ownBlock ∧ k_ ≠ gb366) ho0 (fun k_ hk_ => ⟨(Kd.fresh' (Kd.R_lt (rA HO373.out)) k_ hk_), (Kd.fresh' (Kd.R_lt (rA HO376.out)) k_ hk_), (Kd.freshB (g := gb366) (o := .cells #[.int .i64 a0_0, .int .i64 a0_1, .int .i64 a0_2, .slice A0_3 l0_3.length c0_3, .slice A0_4 l0_4.length c0_4, .int .i64 a0_5] 25 (0, 0)) (kA BK366.out) k_ hk_)⟩)) (below_size (bS HB.out))); have _ := aM (kB BK366.out hb); have _ := aM (below_step (bS HB.out) hb); clear HO373 HO376 BK366 HB; rename_i HO373 HO376 HO380 BK366 HB; (try clear hb); (try clear ho0); obtain ⟨hcz99_0, hfz99_0, hcz99_1, hfz99_1, hcz99_2, hfz99_2, hcz99_3, hfz99_3, hcz99_4, hfz99_4, hcz99_5, hfz99_5⟩ := bk6 BK366.out) | ((with_reducible refine gate_callee (f := 9) rfl ?_); refine gL (some 20) rfl rfl Try.func9 (by kernel_rfl) rfl #[.agg #[.int .i64 a0_0, .int .i64 a0_1, .int .i64 a0_2, .slice A0_3 l0_3.length c0_3, .slice A0_4 l0_4.length c0_4, .int .i64 a0_5]] rfl ?_; (with_reducible refine (laws_toReq.calls k a0_0 a0_1 a0_2 _ _ l0_3 _ _ l0_4 a0_5 t381 t382 t383 t384 t387 t390 _ ?side1 ?side2 ?side3 ?side4 A9.out).mono ?_); (case side1 => exact cB HR0_3.out HB.out); (case side2 => exact HC0_3.out); (case side3 => exact cB HR0_4.out HB.out); (case side4 => exact HC0_4.out); rintro e w100 ⟨v385, v388, rfl, ho0, ho1, hb⟩; refine ⟨_, rfl, ?_⟩; have _ := aM (Kd.R_elder' (rA HO373.out) (Kd.R_base ho0) hb); have _ := aM (Kd.R_elder' (rA HO376.out) (Kd.R_base ho1) hb); have _ := aM (Kd.V_mono (Kd.V_told (Kd.V_told (Kd.V_old (by (with_reducible repeat (first | apply Kd.V_alloc | apply Kd.V_drewN | apply Kd.V_drew)); exact HO380.out) hb) (Kd.R_base ho0)) (Kd.R_base ho1)) (fun _ h_ => by first | exact h_.1 | (have h2_ := h_.1; simp only [ne_eq] at h2_ ⊢; simp [h2_]))); have _ := aM (Kd.R_lower (Kd.R_new' ho0 (Kd.R_lt (rA HO373.out))) (below_size (bS HB.out))); have _ := aM (Kd.R_lower (Kd.R_new' ho1 (Kd.R_lt (rA HO376.out))) (below_size (bS HB.out))); have _ := aM (kB BK366.out hb); have _ := aM (below_step (bS HB.out) hb); clear HO373 HO376 HO380 BK366 HB; rename_i HO373 HO376 HO380 HO386 HO389 BK366 HB; (try clear hb); (try clear ho0); (try clear ho1)) | ((with_reducible refine gate_dst (N := 5) rfl ?_); refine box_event ?hg (N := 5) ?hd (cs := #[.int .i64 0, .int .i64 0, .int .i64 0, .slice none 0 0, .slice none 0 0, .int .i64 0]) (t := 29) ?hr ?_; (case hd => rfl); (case hg => rfl); (case hr => first | (go_simp; done) | (go_simp; rfl)); intro gb391 hg w101 hbox hb; have _ := aM (rB HO373.out hb); have _ := aM (rB HO376.out hb); have _ := aM (Kd.V_below (Kd.V_elderB (by (with_reducible repeat (first | apply Kd.V_alloc | apply Kd.V_drewN | apply Kd.V_drew)); exact HO380.out) gb391 (Nat.le_of_eq hg.symm)) hb); have _ := aM (rB HO386.out hb); have _ := aM (rB HO389.out hb); have _ := aM (kB BK366.out hb); have _ := aM (below_step (bS HB.out) hb); have _ := aM (hbox); have _ := aM (leG hg (bS HB.out)); have _ := aM (leG hg (bS HB.out)); have _ := aM (neL hg (kA BK366.out)); have _ := aM (neG hg (kA BK366.out)); clear HO373 HO376 HO380 HO386 HO389 BK366 HB; rename_i HO373 HO376 HO380 HO386 HO389 BK366 HB BK391 GW391 GE391 NB366_391 NB391_366; clear hb hbox hg; have hnb102 := NB391_366.out; have hnc102 := NB366_391.out; obtain ⟨hcz103_0, hfz103_0, hcz103_1, hfz103_1, hcz103_2, hfz103_2, hcz103_3, hfz103_3, hcz103_4, hfz103_4, hcz103_5, hfz103_5⟩ := bk6 BK391.out; obtain ⟨Ao104, co104, eo104⟩ := Kd.R_slice HO386.out; subst eo104; obtain ⟨Ao105, co105, eo105⟩ := Kd.R_slice HO389.out; subst eo105) | ((with_reducible refine gate_callee (f := 13) rfl ?_); refine gL (some 22) rfl rfl Try.func13 (by kernel_rfl) rfl #[.agg #[.int .i64 t381, .int .i64 t382, .int .i64 t383, .slice Ao104 t384.length co104, .slice Ao105 t387.length co105, .int .i64 t390]] rfl ?_; (with_reducible refine (impl_PutReq.calls k t381 t382 t383 _ _ t384 _ _ t387 t390 t392 _ ?side1 ?side2 ?side3 ?side4 A10.out).mono ?_); (case side1 => exact (Kd.R_reads' (rF6 HO386.out BK391.out)).2.2); (case side2 => exact (Kd.R_reads' HO386.out).2.1); (case side3 => exact (Kd.R_reads' (rF6 HO389.out BK391.out)).2.2); (case side4 => exact (Kd.R_reads' HO389.out).2.1); rintro e w106 ⟨v393, rfl, ho0, hb⟩; refine ⟨_, rfl, ?_⟩; have _ := aM (Kd.R_below (rF6 HO373.out BK391.out) hb); have _ := aM (Kd.R_below (rF6 HO376.out BK391.out) hb); have _ := aM (Kd.V_elder' (by (with_reducible repeat (first | apply Kd.V_alloc | apply Kd.V_drewN | apply Kd.V_drew)); exact (Kd.V_mono (Kd.V_far (p := ⟨gb391, 5, none⟩) (Kd.V_far (p := ⟨gb391, 4, none⟩) (Kd.V_far (p := ⟨gb391, 3, none⟩) (Kd.V_far (p := ⟨gb391, 2, none⟩) (Kd.V_far (p := ⟨gb391, 1, none⟩) (Kd.V_far (p := ⟨gb391, 0, none⟩) (Kd.V_mono HO380.out (fun k_ hk => (⟨hk, hk.2⟩ : _ ∧ k_ ≠ gb391))) (fun _ hk => hk.2) (.int .i64 t381)) (fun _ hk => hk.2) (.int .i64 t382)) (fun _ hk => hk.2) (.int .i64 t383)) (fun _ hk => hk.2) (.slice Ao104 t384.length co104)) (fun _ hk => hk.2) (.slice Ao105 t387.length co105)) (fun _ hk => hk.2) (.int .i64 t390)) (fun _ h_ => by first | exact h_.1 | (have h2_ := h_.1; simp only [ne_eq] at h2_ ⊢; simp [h2_])))) (Kd.R_base ho0) hb); have _ := aM (Kd.R_below (rF6 HO386.out BK391.out) hb); have _ := aM (Kd.R_below (rF6 HO389.out BK391.out) hb); have _ := aM (Kd.R_lower ho0 (below_size (bS HB.out))); have _ := aM (blk_below (kF6 BK366.out NB366_391.out) hb); have _ := aM (blk_below (kP6 BK391.out) hb); have _ := aM (below_step (bS HB.out) hb); clear HO373 HO376 HO380 HO386 HO389 BK366 BK391 HB; rename_i HO373 HO376 HO380 HO386 HO389 HO394 BK366 BK391 HB; (try clear hb); (try clear hk); (try clear ho0); obtain ⟨Ao107, co107, eo107⟩ := Kd.R_slice HO394.out; subst eo107; obtain ⟨Ao108, co108, eo108⟩ := Kd.V_slice HO380.out; subst eo108) | ((with_reducible refine gate_callee (f := 14) rfl ?_); refine gL (some 25) rfl rfl Try.func14 (by kernel_rfl) rfl #[.slice Ao107 t392.length co107, .slice Ao108 t378.length co108] rfl ?_; (with_reducible refine (laws_eqByteS.calls k _ _ t392 _ _ t378 true _ ?side1 ?side2 ?side3 ?side4 A11.out).mono ?_); (case side1 => exact cR HO394.out); (case side2 => exact (Kd.R_reads' HO394.out).2.1); (case side3 => repeat (first | exact (Kd.V_reads' HO380.out).2.2 | (with_reducible refine Kd.C_alloc ?_ _) | (with_reducible refine Kd.C_drewN ?_ _) | (with_reducible refine Kd.C_drew ?_))); (case side4 => exact (Kd.V_reads' HO380.out).2.1); rintro e w' ⟨rfl, ⟨nd, rfl⟩⟩; refine ⟨_, rfl, ?_⟩))
    (try (rw [drewN_self w106]; generalize hq_ : World.drewN w106 _ = w106; have n0_ : Aside0 (Kd.R (Kd.int .i64) 3 w106 w.heap.size (fun k_ => some k_ ≠ (.slice Ao104 t384.length co104 : Value).ownBlock) (.slice Ao96 t371.length co96) t371) := ⟨by rw [← hq_]; exact (by (with_reducible repeat (first | apply Kd.R_alloc | apply Kd.R_drewN | apply Kd.R_drew)); exact Kd.R_mono HO373.out (fun _ hk => hk.2))⟩; have n1_ : Aside0 (Kd.R Kd.bool 4 w106 w.heap.size (fun k_ => some k_ ≠ (.slice Ao105 t387.length co105 : Value).ownBlock) (.slice Ao97 t374.length co97) t374) := ⟨by rw [← hq_]; exact (by (with_reducible repeat (first | apply Kd.R_alloc | apply Kd.R_drewN | apply Kd.R_drew)); exact Kd.R_mono HO376.out (fun _ hk => hk.2))⟩; have n2_ : Aside0 (Kd.V (Kd.int .u8) 5 w106 w.heap.size (fun k_ => some k_ ≠ (.slice Ao96 t371.length co96 : Value).ownBlock ∧ some k_ ≠ (.slice Ao97 t374.length co97 : Value).ownBlock ∧ some k_ ≠ (.slice Ao104 t384.length co104 : Value).ownBlock ∧ some k_ ≠ (.slice Ao105 t387.length co105 : Value).ownBlock ∧ some k_ ≠ (.slice Ao107 t392.length co107 : Value).ownBlock ∧ k_ ≠ gb366 ∧ k_ ≠ gb391) (.slice Ao108 t378.length co108) t378) := ⟨by rw [← hq_]; exact (by (with_reducible repeat (first | apply Kd.V_alloc | apply Kd.V_drewN | apply Kd.V_drew)); exact Kd.V_mono HO380.out (fun _ hk => by first | exact ⟨hk.1.1.1.1.1, ⟨hk.1.1.1.1.2.1, ⟨hk.1.1.1.2, ⟨hk.1.1.2, ⟨hk.2, ⟨hk.1.1.1.1.2.2, hk.1.2⟩⟩⟩⟩⟩⟩ | (simp only [ne_eq] at hk ⊢; simp [hk])))⟩; have n3_ : Aside0 (Kd.R (Kd.int .i64) 3 w106 w.heap.size (fun k_ => some k_ ≠ (.slice Ao96 t371.length co96 : Value).ownBlock) (.slice Ao104 t384.length co104) t384) := ⟨by rw [← hq_]; exact (by (with_reducible repeat (first | apply Kd.R_alloc | apply Kd.R_drewN | apply Kd.R_drew)); exact Kd.R_mono HO386.out (fun _ hk => hk.2))⟩; have n4_ : Aside0 (Kd.R Kd.bool 4 w106 w.heap.size (fun k_ => some k_ ≠ (.slice Ao97 t374.length co97 : Value).ownBlock) (.slice Ao105 t387.length co105) t387) := ⟨by rw [← hq_]; exact (by (with_reducible repeat (first | apply Kd.R_alloc | apply Kd.R_drewN | apply Kd.R_drew)); exact Kd.R_mono HO389.out (fun _ hk => hk.2))⟩; have n5_ : Aside0 (Kd.R (Kd.int .u8) 5 w106 w.heap.size (fun _ => True) (.slice Ao107 t392.length co107) t392) := ⟨by rw [← hq_]; exact (rA HO394.out)⟩; have n6_ : Aside0 (w106.heap[gb366]? = some (.cells #[.int .i64 a0_0, .int .i64 a0_1, .int .i64 a0_2, .slice A0_3 l0_3.length c0_3, .slice A0_4 l0_4.length c0_4, .int .i64 a0_5] 25 (0, 0))) := ⟨by rw [← hq_]; exact (kA BK366.out)⟩; have n7_ : Aside0 (w106.heap[gb391]? = some (.cells #[.int .i64 t381, .int .i64 t382, .int .i64 t383, .slice Ao104 t384.length co104, .slice Ao105 t387.length co105, .int .i64 t390] 29 (0, 0))) := ⟨by rw [← hq_]; exact (kA BK391.out)⟩; have n8_ : Aside0 (Below w.heap.size w w106) := ⟨by rw [← hq_]; exact (bS HB.out)⟩; clear HO373 HO376 HO380 HO386 HO389 HO394 BK366 BK391 HB hq_; have HO373 := n0_; have HO376 := n1_; have HO380 := n2_; have HO386 := n3_; have HO389 := n4_; have HO394 := n5_; have BK366 := n6_; have BK391 := n7_; have HB := n8_; clear n0_ n1_ n2_ n3_ n4_ n5_ n6_ n7_ n8_; have hcugb366_0 : w106.cell? ⟨gb366, 0, none⟩ = some (.int .i64 a0_0) := (blk_cell BK366.out 0).trans rfl; have hfugb366_0 := blk_frozen BK366.out 0; have hcugb366_1 : w106.cell? ⟨gb366, 1, none⟩ = some (.int .i64 a0_1) := (blk_cell BK366.out 1).trans rfl; have hfugb366_1 := blk_frozen BK366.out 1; have hcugb366_2 : w106.cell? ⟨gb366, 2, none⟩ = some (.int .i64 a0_2) := (blk_cell BK366.out 2).trans rfl; have hfugb366_2 := blk_frozen BK366.out 2; have hcugb366_3 : w106.cell? ⟨gb366, 3, none⟩ = some (.slice A0_3 l0_3.length c0_3) := (blk_cell BK366.out 3).trans rfl; have hfugb366_3 := blk_frozen BK366.out 3; have hcugb366_4 : w106.cell? ⟨gb366, 4, none⟩ = some (.slice A0_4 l0_4.length c0_4) := (blk_cell BK366.out 4).trans rfl; have hfugb366_4 := blk_frozen BK366.out 4; have hcugb366_5 : w106.cell? ⟨gb366, 5, none⟩ = some (.int .i64 a0_5) := (blk_cell BK366.out 5).trans rfl; have hfugb366_5 := blk_frozen BK366.out 5; have hcugb391_0 : w106.cell? ⟨gb391, 0, none⟩ = some (.int .i64 t381) := (blk_cell BK391.out 0).trans rfl; have hfugb391_0 := blk_frozen BK391.out 0; have hcugb391_1 : w106.cell? ⟨gb391, 1, none⟩ = some (.int .i64 t382) := (blk_cell BK391.out 1).trans rfl; have hfugb391_1 := blk_frozen BK391.out 1; have hcugb391_2 : w106.cell? ⟨gb391, 2, none⟩ = some (.int .i64 t383) := (blk_cell BK391.out 2).trans rfl; have hfugb391_2 := blk_frozen BK391.out 2; have hcugb391_3 : w106.cell? ⟨gb391, 3, none⟩ = some (.slice Ao104 t384.length co104) := (blk_cell BK391.out 3).trans rfl; have hfugb391_3 := blk_frozen BK391.out 3; have hcugb391_4 : w106.cell? ⟨gb391, 4, none⟩ = some (.slice Ao105 t387.length co105) := (blk_cell BK391.out 4).trans rfl; have hfugb391_4 := blk_frozen BK391.out 4; have hcugb391_5 : w106.cell? ⟨gb391, 5, none⟩ = some (.int .i64 t390) := (blk_cell BK391.out 5).trans rfl; have hfugb391_5 := blk_frozen BK391.out 5))
    have n0_ := aM (Kd.R_drew HO373.out)
    have n1_ := aM (Kd.R_drew HO376.out)
    have n2_ := aM (Kd.V_drew HO380.out)
    have n3_ := aM (Kd.R_drew HO386.out)
    have n4_ := aM (Kd.R_drew HO389.out)
    have n5_ := aM (Kd.R_drew HO394.out)
    have n6_ := aM (blk_drew BK366.out)
    have n7_ := aM (blk_drew BK391.out)
    have n8_ := aM (below_drew1 HB.out)
    clear HO373
    clear HO376
    clear HO380
    clear HO386
    clear HO389
    clear HO394
    clear BK366
    clear BK391
    clear HB
    have HO373 := n0_
    have HO376 := n1_
    have HO380 := n2_
    have HO386 := n3_
    have HO389 := n4_
    have HO394 := n5_
    have BK366 := n6_
    have BK391 := n7_
    have HB := n8_
    clear n0_ n1_ n2_ n3_ n4_ n5_ n6_ n7_ n8_
    refine start_ (n := 5) (S := fun w' => w'.cell? ⟨gb391, 0, none⟩ = some (.int .i64 t381) ∧ w'.cell? ⟨gb391, 1, none⟩ = some (.int .i64 t382) ∧ w'.cell? ⟨gb391, 2, none⟩ = some (.int .i64 t383) ∧ w'.cell? ⟨gb391, 3, none⟩ = some (.slice Ao104 t384.length co104) ∧ w'.cell? ⟨gb391, 4, none⟩ = some (.slice Ao105 t387.length co105) ∧ w'.cell? ⟨gb391, 5, none⟩ = some (.int .i64 t390) ∧ w'.cell? ⟨gb366, 0, none⟩ = some (.int .i64 a0_0) ∧ w'.cell? ⟨gb366, 1, none⟩ = some (.int .i64 a0_1) ∧ w'.cell? ⟨gb366, 2, none⟩ = some (.int .i64 a0_2) ∧ w'.cell? ⟨gb366, 3, none⟩ = some (.slice A0_3 l0_3.length c0_3) ∧ w'.cell? ⟨gb366, 4, none⟩ = some (.slice A0_4 l0_4.length c0_4) ∧ w'.cell? ⟨gb366, 5, none⟩ = some (.int .i64 a0_5)) (ds := []) #[false, false, false, false, false] (by kernel_rfl) rfl rfl ⟨(blk_cell BK391.out 0).trans rfl, (blk_cell BK391.out 1).trans rfl, (blk_cell BK391.out 2).trans rfl, (blk_cell BK391.out 3).trans rfl, (blk_cell BK391.out 4).trans rfl, (blk_cell BK391.out 5).trans rfl, (blk_cell BK366.out 0).trans rfl, (blk_cell BK366.out 1).trans rfl, (blk_cell BK366.out 2).trans rfl, (blk_cell BK366.out 3).trans rfl, (blk_cell BK366.out 4).trans rfl, (blk_cell BK366.out 5).trans rfl⟩ (fun hHeld => ?_)
    generalize w106.drew = w109 at HO373 HO376 HO380 HO386 HO389 HO394 BK366 BK391 HB hHeld ⊢
    refine take_ (i := 0) (N := some 27) (v := ?_) (a' := ?_) #[true, false, false, false, false] rfl rfl (by kernel_rfl) (fun _ _ _ h => h) (Or.inl ⟨by rfl, ?_⟩) hHeld ?_ ?_
    rotate_left
    ·rintro w' ⟨s0, s1, s2, s3, s4, s5, s6, s7, s8, s9, s10, s11⟩
     go_simp
     with_reducible rfl
    rotate_left
    ·simp only [Act.put, List.setIfInBounds_toArray, List.set_cons_zero, List.set_cons_succ, i64_w, i32_w]
     rfl
    refine take_ (i := 1) (N := some 28) (v := ?_) (a' := ?_) #[true, true, false, false, false] rfl rfl (by kernel_rfl) (fun _ _ _ h => h) (Or.inl ⟨by rfl, ?_⟩) hHeld ?_ ?_
    rotate_left
    ·rintro w' ⟨s0, s1, s2, s3, s4, s5, s6, s7, s8, s9, s10, s11⟩
     go_simp
     with_reducible rfl
    rotate_left
    ·simp only [Act.put, List.setIfInBounds_toArray, List.set_cons_zero, List.set_cons_succ, i64_w, i32_w]
     rfl
    refine one_ (i := 2) (N := some 29) #[true, true, true, false, false] rfl rfl (by kernel_rfl) (by decide) (fun K hK => ?_)
    refine goes_ Try.func9 (by kernel_rfl) rfl #[.agg #[.int .i64 a0_0, .int .i64 a0_1, .int .i64 a0_2, .slice A0_3 l0_3.length c0_3, .slice A0_4 l0_4.length c0_4, .int .i64 a0_5]] (by rfl) rfl rfl (by (try simp only [List.map_toArray, List.map_cons, List.map_nil]); first | done | rfl | (simp only [List.length_drop, List.length_take]; rfl)) ?_
    with_reducible refine (laws_toReq.calls k a0_0 a0_1 a0_2 _ _ l0_3 _ _ l0_4 a0_5 t396 t397 t398 t399 t402 t405 _ ?side1 ?side2 ?side3 ?side4 A13.out).mono ?_
    (case side1 => exact cB HR0_3.out HB.out)
    (case side2 => exact HC0_3.out)
    (case side3 => exact cB HR0_4.out HB.out)
    (case side4 => exact HC0_4.out)
    rintro e w110 ⟨v400, v403, rfl, ho0, ho1, hb⟩
    refine ⟨_, rfl, ?_⟩
    have n0_ := aM (Kd.R_elder' (rA HO373.out) (Kd.R_base ho0) hb)
    have n1_ := aM (Kd.R_elder' (rA HO376.out) (Kd.R_base ho1) hb)
    have n2_ := aM (Kd.V_mono (Kd.V_told (Kd.V_told (Kd.V_old (by (with_reducible repeat (first | apply Kd.V_alloc | apply Kd.V_drewN | apply Kd.V_drew)); exact HO380.out) hb) (Kd.R_base ho0)) (Kd.R_base ho1)) (fun _ h_ => by first | exact h_.1 | (have h2_ := h_.1; simp only [ne_eq] at h2_ ⊢; simp [h2_])))
    have n3_ := aM (Kd.R_elder' (rA HO386.out) (Kd.R_base ho0) hb)
    have n4_ := aM (Kd.R_elder' (rA HO389.out) (Kd.R_base ho1) hb)
    have n5_ := aM (rB HO394.out hb)
    have n6_ := aM (Kd.R_lower (Kd.R_new' (Kd.R_new' ho0 (Kd.R_lt (rA HO373.out))) (Kd.R_lt (rA HO386.out))) (below_size (bS HB.out)))
    have n7_ := aM (Kd.R_lower (Kd.R_new' (Kd.R_new' ho1 (Kd.R_lt (rA HO376.out))) (Kd.R_lt (rA HO389.out))) (below_size (bS HB.out)))
    have n8_ := aM (kB BK366.out hb)
    have n9_ := aM (kB BK391.out hb)
    have n10_ := aM (below_step (bS HB.out) hb)
    clear HO373
    clear HO376
    clear HO380
    clear HO386
    clear HO389
    clear HO394
    clear BK366
    clear BK391
    clear HB
    have HO373 := n0_
    have HO376 := n1_
    have HO380 := n2_
    have HO386 := n3_
    have HO389 := n4_
    have HO394 := n5_
    have HO401 := n6_
    have HO404 := n7_
    have BK366 := n8_
    have BK391 := n9_
    have HB := n10_
    clear n0_ n1_ n2_ n3_ n4_ n5_ n6_ n7_ n8_ n9_ n10_
    (try clear hb)
    (try clear hb2)
    (try clear hk)
    (try clear hi)
    (try clear ho0)
    (try clear ho1)
    obtain ⟨Ao111, co111, eo111⟩ := Kd.R_slice HO401.out
    (first | subst eo111 | (injection eo111 with f1_ f2_ f3_; have f4_ := f1_.symm; have f5_ := f3_.symm; clear f1_ f2_ f3_; subst f4_; subst f5_))
    obtain ⟨Ao112, co112, eo112⟩ := Kd.R_slice HO404.out
    (first | subst eo112 | (injection eo112 with f1_ f2_ f3_; have f4_ := f1_.symm; have f5_ := f3_.symm; clear f1_ f2_ f3_; subst f4_; subst f5_))
    refine hK.out _ _ ⟨(blk_cell BK391.out 0).trans rfl, (blk_cell BK391.out 1).trans rfl, (blk_cell BK391.out 2).trans rfl, (blk_cell BK391.out 3).trans rfl, (blk_cell BK391.out 4).trans rfl, (blk_cell BK391.out 5).trans rfl, (blk_cell BK366.out 0).trans rfl, (blk_cell BK366.out 1).trans rfl, (blk_cell BK366.out 2).trans rfl, (blk_cell BK366.out 3).trans rfl, (blk_cell BK366.out 4).trans rfl, (blk_cell BK366.out 5).trans rfl⟩ (fun hHeld => ?_)
    clear hK K
    refine norm_ (a' := ?_) ?_ ?_
    rotate_left
    ·show Act.put _ (some 29) _ = _
     simp only [Act.put, List.setIfInBounds_toArray, List.set_cons_zero, List.set_cons_succ, i64_w, i32_w]
     rfl
    refine one_ (i := 3) (N := some 30) #[true, true, true, true, false] rfl rfl (by kernel_rfl) (by decide) (fun K hK => ?_)
    refine goes_ Try.func11 (by kernel_rfl) rfl #[.agg #[.int .i64 t381, .int .i64 t382, .int .i64 t383, .slice Ao104 t384.length co104, .slice Ao105 t387.length co105, .int .i64 t390], .agg #[.int .i64 t396, .int .i64 t397, .int .i64 t398, .slice Ao111 t399.length co111, .slice Ao112 t402.length co112, .int .i64 t405]] (by rfl) rfl rfl (by (try simp only [List.map_toArray, List.map_cons, List.map_nil]); first | done | rfl | (simp only [List.length_drop, List.length_take]; rfl)) ?_
    with_reducible refine (laws_eqReq.calls k t381 t382 t383 _ _ t384 _ _ t387 t390 t396 t397 t398 _ _ t399 _ _ t402 t405 false _ ?side1 ?side2 ?side3 ?side4 ?side5 ?side6 ?side7 ?side8 A14.out).mono ?_
    (case side1 => exact cR HO386.out)
    (case side2 => exact (Kd.R_reads' HO386.out).2.1)
    (case side3 => exact cR HO389.out)
    (case side4 => exact (Kd.R_reads' HO389.out).2.1)
    (case side5 => exact cR HO401.out)
    (case side6 => exact (Kd.R_reads' HO401.out).2.1)
    (case side7 => exact cR HO404.out)
    (case side8 => exact (Kd.R_reads' HO404.out).2.1)
    rintro e w113 ⟨rfl, hb⟩
    refine ⟨_, rfl, ?_⟩
    have n0_ := aM (rB HO373.out hb)
    have n1_ := aM (rB HO376.out hb)
    have n2_ := aM (Kd.V_below (by (with_reducible repeat (first | apply Kd.V_alloc | apply Kd.V_drewN | apply Kd.V_drew)); exact HO380.out) hb)
    have n3_ := aM (rB HO386.out hb)
    have n4_ := aM (rB HO389.out hb)
    have n5_ := aM (rB HO394.out hb)
    have n6_ := aM (rB HO401.out hb)
    have n7_ := aM (rB HO404.out hb)
    have n8_ := aM (kB BK366.out hb)
    have n9_ := aM (kB BK391.out hb)
    have n10_ := aM (below_step (bS HB.out) hb)
    clear HO373
    clear HO376
    clear HO380
    clear HO386
    clear HO389
    clear HO394
    clear HO401
    clear HO404
    clear BK366
    clear BK391
    clear HB
    have HO373 := n0_
    have HO376 := n1_
    have HO380 := n2_
    have HO386 := n3_
    have HO389 := n4_
    have HO394 := n5_
    have HO401 := n6_
    have HO404 := n7_
    have BK366 := n8_
    have BK391 := n9_
    have HB := n10_
    clear n0_ n1_ n2_ n3_ n4_ n5_ n6_ n7_ n8_ n9_ n10_
    (try clear hb)
    (try clear hb2)
    (try clear hk)
    (try clear hi)
    refine hK.out _ _ ⟨(blk_cell BK391.out 0).trans rfl, (blk_cell BK391.out 1).trans rfl, (blk_cell BK391.out 2).trans rfl, (blk_cell BK391.out 3).trans rfl, (blk_cell BK391.out 4).trans rfl, (blk_cell BK391.out 5).trans rfl, (blk_cell BK366.out 0).trans rfl, (blk_cell BK366.out 1).trans rfl, (blk_cell BK366.out 2).trans rfl, (blk_cell BK366.out 3).trans rfl, (blk_cell BK366.out 4).trans rfl, (blk_cell BK366.out 5).trans rfl⟩ (fun hHeld => ?_)
    clear hK K
    refine norm_ (a' := ?_) ?_ ?_
    rotate_left
    ·show Act.put _ (some 30) _ = _
     simp only [Act.put, List.setIfInBounds_toArray, List.set_cons_zero, List.set_cons_succ, i64_w, i32_w]
     rfl
    refine pure_ (i := 4) (N := some 31) (v := ?_) (a' := ?_) #[true, true, true, true, true] rfl rfl (by kernel_rfl) (fun _ _ _ h => h) (Or.inl ⟨by rfl, ?_⟩) ?_ ?_
    rotate_left
    ·intro w'
     go_simp
     with_reducible rfl
    rotate_left
    ·simp only [Act.put, List.setIfInBounds_toArray, List.set_cons_zero, List.set_cons_succ, i64_w, i32_w]
     rfl
    refine done_ (by kernel_rfl) ?_
    try go_wp2
    go_ret
    exact ⟨by first | rfl | (simp [errW_none, errW_some] <;> rfl) | (simp [*, errW_none, errW_some] <;> rfl), bS HB.out⟩
  ·replace c12 := Bool.eq_false_iff.mpr c12
   subst c12
   have H1 : (some false) = some r := by rw [if_neg (show ¬ (false = true) by decide)] at H; exact H
   clear H
   have H := H1
   clear H1
   obtain rfl := Option.some.inj H
   go_enter Try.func4, Try.ntmps4
   go_wp2_with (first | ((with_reducible refine gate_dst (N := 1) rfl ?_); refine box_event ?hg (N := 1) ?hd (cs := #[.int .i64 a0_0, .int .i64 a0_1, .int .i64 a0_2, .slice A0_3 l0_3.length c0_3, .slice A0_4 l0_4.length c0_4, .int .i64 a0_5]) (t := 25) ?hr ?_; (case hd => rfl); (case hg => rfl); (case hr => first | (go_simp; done) | (go_simp; rfl)); intro gb366 hg w114 hbox hb; have _ := aM (below_step (bS HB.out) hb); have _ := aM (hbox); have _ := aM (leG hg (bS HB.out)); have _ := aM (leG hg (bS HB.out)); clear HB; rename_i HB BK366 GW366 GE366; clear hb hbox hg; obtain ⟨hcz115_0, hfz115_0, hcz115_1, hfz115_1, hcz115_2, hfz115_2, hcz115_3, hfz115_3, hcz115_4, hfz115_4, hcz115_5, hfz115_5⟩ := bk6 BK366.out) | ((with_reducible refine gate_callee (f := 7) rfl ?_); refine gL (some 13) rfl rfl Try.func7 (by kernel_rfl) rfl #[.agg #[.int .i64 a0_0, .int .i64 a0_1, .int .i64 a0_2, .slice A0_3 l0_3.length c0_3, .slice A0_4 l0_4.length c0_4, .int .i64 a0_5], .int .i64 1048576] rfl ?_; (with_reducible refine (laws_szReq.calls a0_0 a0_1 a0_2 _ _ l0_3 _ _ l0_4 a0_5 1048576 t367 _ ?side1 ?side2 ?side3 ?side4 A2.out).mono ?_); (case side1 => exact cB HR0_3.out HB.out); (case side2 => exact HC0_3.out); (case side3 => exact cB HR0_4.out HB.out); (case side4 => exact HC0_4.out); rintro e w116 ⟨rfl, hb⟩; refine ⟨_, rfl, ?_⟩; have _ := aM (kB BK366.out hb); have _ := aM (below_step (bS HB.out) hb); clear BK366 HB; rename_i BK366 HB; (try clear hb); obtain ⟨hcz117_0, hfz117_0, hcz117_1, hfz117_1, hcz117_2, hfz117_2, hcz117_3, hfz117_3, hcz117_4, hfz117_4, hcz117_5, hfz117_5⟩ := bk6 BK366.out) | ((with_reducible refine gate_callee (f := 9) rfl ?_); refine gL (some 17) rfl rfl Try.func9 (by kernel_rfl) rfl #[.agg #[.int .i64 a0_0, .int .i64 a0_1, .int .i64 a0_2, .slice A0_3 l0_3.length c0_3, .slice A0_4 l0_4.length c0_4, .int .i64 a0_5]] rfl ?_; (with_reducible refine (laws_toReq.calls k a0_0 a0_1 a0_2 _ _ l0_3 _ _ l0_4 a0_5 t368 t369 t370 t371 t374 t377 _ ?side1 ?side2 ?side3 ?side4 A7.out).mono ?_); (case side1 => exact cB HR0_3.out HB.out); (case side2 => exact HC0_3.out); (case side3 => exact cB HR0_4.out HB.out); (case side4 => exact HC0_4.out); rintro e w118 ⟨v372, v375, rfl, ho0, ho1, hb⟩; refine ⟨_, rfl, ?_⟩; have _ := aM (Kd.R_lower ho0 (below_size (bS HB.out))); have _ := aM (Kd.R_lower ho1 (below_size (bS HB.out))); have _ := aM (kB BK366.out hb); have _ := aM (below_step (bS HB.out) hb); clear BK366 HB; rename_i HO373 HO376 BK366 HB; (try clear hb); (try clear ho0); (try clear ho1); obtain ⟨Ao119, co119, eo119⟩ := Kd.R_slice HO373.out; subst eo119; obtain ⟨Ao120, co120, eo120⟩ := Kd.R_slice HO376.out; subst eo120) | ((with_reducible refine gate_callee (f := 12) rfl ?_); refine gL (some 18) rfl rfl Try.func12 (by kernel_rfl) rfl #[.agg #[.int .i64 t368, .int .i64 t369, .int .i64 t370, .slice Ao119 t371.length co119, .slice Ao120 t374.length co120, .int .i64 t377]] rfl ?_; (with_reducible refine (spec_PutReq.calls k t368 t369 t370 _ _ t371 _ _ t374 t377 t378 _ ?side1 ?side2 ?side3 ?side4 A8.out).mono ?_); (case side1 => exact cR HO373.out); (case side2 => exact (Kd.R_reads' HO373.out).2.1); (case side3 => exact cR HO376.out); (case side4 => exact (Kd.R_reads' HO376.out).2.1); rintro e w121 ⟨v379, rfl, ho0, hb⟩; refine ⟨_, rfl, ?_⟩; have _ := aM (rB HO373.out hb); have _ := aM (rB HO376.out hb); have _ := aM (Kd.V_lower (Kd.V_mono (ok' := fun k_ => some k_ ≠ (.slice Ao119 t371.length co119 : Value).ownBlock ∧ some k_ ≠ (.slice Ao120 t374.length co120 : Value).ownBlock ∧ k_ ≠ gb366) ho0 (fun k_ hk_ => ⟨(Kd.fresh' (Kd.R_lt (rA HO373.out)) k_ hk_), (Kd.fresh' (Kd.R_lt (rA HO376.out)) k_ hk_), (Kd.freshB (g := gb366) (o := .cells #[.int .i64 a0_0, .int .i64 a0_1, .int .i64 a0_2, .slice A0_3 l0_3.length c0_3, .slice A0_4 l0_4.length c0_4, .int .i64 a0_5] 25 (0, 0)) (kA BK366.out) k_ hk_)⟩)) (below_size (bS HB.out))); have _ := aM (kB BK366.out hb); have _ := aM (below_step (bS HB.out) hb); clear HO373 HO376 BK366 HB; rename_i HO373 HO376 HO380 BK366 HB; (try clear hb); (try clear ho0); obtain ⟨hcz122_0, hfz122_0, hcz122_1, hfz122_1, hcz122_2, hfz122_2, hcz122_3, hfz122_3, hcz122_4, hfz122_4, hcz122_5, hfz122_5⟩ := bk6 BK366.out) | ((with_reducible refine gate_callee (f := 9) rfl ?_); refine gL (some 20) rfl rfl Try.func9 (by kernel_rfl) rfl #[.agg #[.int .i64 a0_0, .int .i64 a0_1, .int .i64 a0_2, .slice A0_3 l0_3.length c0_3, .slice A0_4 l0_4.length c0_4, .int .i64 a0_5]] rfl ?_; (with_reducible refine (laws_toReq.calls k a0_0 a0_1 a0_2 _ _ l0_3 _ _ l0_4 a0_5 t381 t382 t383 t384 t387 t390 _ ?side1 ?side2 ?side3 ?side4 A9.out).mono ?_); (case side1 => exact cB HR0_3.out HB.out); (case side2 => exact HC0_3.out); (case side3 => exact cB HR0_4.out HB.out); (case side4 => exact HC0_4.out); rintro e w123 ⟨v385, v388, rfl, ho0, ho1, hb⟩; refine ⟨_, rfl, ?_⟩; have _ := aM (Kd.R_elder' (rA HO373.out) (Kd.R_base ho0) hb); have _ := aM (Kd.R_elder' (rA HO376.out) (Kd.R_base ho1) hb); have _ := aM (Kd.V_mono (Kd.V_told (Kd.V_told (Kd.V_old (by (with_reducible repeat (first | apply Kd.V_alloc | apply Kd.V_drewN | apply Kd.V_drew)); exact HO380.out) hb) (Kd.R_base ho0)) (Kd.R_base ho1)) (fun _ h_ => by first | exact h_.1 | (have h2_ := h_.1; simp only [ne_eq] at h2_ ⊢; simp [h2_]))); have _ := aM (Kd.R_lower (Kd.R_new' ho0 (Kd.R_lt (rA HO373.out))) (below_size (bS HB.out))); have _ := aM (Kd.R_lower (Kd.R_new' ho1 (Kd.R_lt (rA HO376.out))) (below_size (bS HB.out))); have _ := aM (kB BK366.out hb); have _ := aM (below_step (bS HB.out) hb); clear HO373 HO376 HO380 BK366 HB; rename_i HO373 HO376 HO380 HO386 HO389 BK366 HB; (try clear hb); (try clear ho0); (try clear ho1)) | ((with_reducible refine gate_dst (N := 5) rfl ?_); refine box_event ?hg (N := 5) ?hd (cs := #[.int .i64 0, .int .i64 0, .int .i64 0, .slice none 0 0, .slice none 0 0, .int .i64 0]) (t := 29) ?hr ?_; (case hd => rfl); (case hg => rfl); (case hr => first | (go_simp; done) | (go_simp; rfl)); intro gb391 hg w124 hbox hb; have _ := aM (rB HO373.out hb); have _ := aM (rB HO376.out hb); have _ := aM (Kd.V_below (Kd.V_elderB (by (with_reducible repeat (first | apply Kd.V_alloc | apply Kd.V_drewN | apply Kd.V_drew)); exact HO380.out) gb391 (Nat.le_of_eq hg.symm)) hb); have _ := aM (rB HO386.out hb); have _ := aM (rB HO389.out hb); have _ := aM (kB BK366.out hb); have _ := aM (below_step (bS HB.out) hb); have _ := aM (hbox); have _ := aM (leG hg (bS HB.out)); have _ := aM (leG hg (bS HB.out)); have _ := aM (neL hg (kA BK366.out)); have _ := aM (neG hg (kA BK366.out)); clear HO373 HO376 HO380 HO386 HO389 BK366 HB; rename_i HO373 HO376 HO380 HO386 HO389 BK366 HB BK391 GW391 GE391 NB366_391 NB391_366; clear hb hbox hg; have hnb125 := NB391_366.out; have hnc125 := NB366_391.out; obtain ⟨hcz126_0, hfz126_0, hcz126_1, hfz126_1, hcz126_2, hfz126_2, hcz126_3, hfz126_3, hcz126_4, hfz126_4, hcz126_5, hfz126_5⟩ := bk6 BK391.out; obtain ⟨Ao127, co127, eo127⟩ := Kd.R_slice HO386.out; subst eo127; obtain ⟨Ao128, co128, eo128⟩ := Kd.R_slice HO389.out; subst eo128) | ((with_reducible refine gate_callee (f := 13) rfl ?_); refine gL (some 22) rfl rfl Try.func13 (by kernel_rfl) rfl #[.agg #[.int .i64 t381, .int .i64 t382, .int .i64 t383, .slice Ao127 t384.length co127, .slice Ao128 t387.length co128, .int .i64 t390]] rfl ?_; (with_reducible refine (impl_PutReq.calls k t381 t382 t383 _ _ t384 _ _ t387 t390 t392 _ ?side1 ?side2 ?side3 ?side4 A10.out).mono ?_); (case side1 => exact (Kd.R_reads' (rF6 HO386.out BK391.out)).2.2); (case side2 => exact (Kd.R_reads' HO386.out).2.1); (case side3 => exact (Kd.R_reads' (rF6 HO389.out BK391.out)).2.2); (case side4 => exact (Kd.R_reads' HO389.out).2.1); rintro e w129 ⟨v393, rfl, ho0, hb⟩; refine ⟨_, rfl, ?_⟩; have _ := aM (Kd.R_below (rF6 HO373.out BK391.out) hb); have _ := aM (Kd.R_below (rF6 HO376.out BK391.out) hb); have _ := aM (Kd.V_elder' (by (with_reducible repeat (first | apply Kd.V_alloc | apply Kd.V_drewN | apply Kd.V_drew)); exact (Kd.V_mono (Kd.V_far (p := ⟨gb391, 5, none⟩) (Kd.V_far (p := ⟨gb391, 4, none⟩) (Kd.V_far (p := ⟨gb391, 3, none⟩) (Kd.V_far (p := ⟨gb391, 2, none⟩) (Kd.V_far (p := ⟨gb391, 1, none⟩) (Kd.V_far (p := ⟨gb391, 0, none⟩) (Kd.V_mono HO380.out (fun k_ hk => (⟨hk, hk.2⟩ : _ ∧ k_ ≠ gb391))) (fun _ hk => hk.2) (.int .i64 t381)) (fun _ hk => hk.2) (.int .i64 t382)) (fun _ hk => hk.2) (.int .i64 t383)) (fun _ hk => hk.2) (.slice Ao127 t384.length co127)) (fun _ hk => hk.2) (.slice Ao128 t387.length co128)) (fun _ hk => hk.2) (.int .i64 t390)) (fun _ h_ => by first | exact h_.1 | (have h2_ := h_.1; simp only [ne_eq] at h2_ ⊢; simp [h2_])))) (Kd.R_base ho0) hb); have _ := aM (Kd.R_below (rF6 HO386.out BK391.out) hb); have _ := aM (Kd.R_below (rF6 HO389.out BK391.out) hb); have _ := aM (Kd.R_lower ho0 (below_size (bS HB.out))); have _ := aM (blk_below (kF6 BK366.out NB366_391.out) hb); have _ := aM (blk_below (kP6 BK391.out) hb); have _ := aM (below_step (bS HB.out) hb); clear HO373 HO376 HO380 HO386 HO389 BK366 BK391 HB; rename_i HO373 HO376 HO380 HO386 HO389 HO394 BK366 BK391 HB; (try clear hb); (try clear hk); (try clear ho0); obtain ⟨Ao130, co130, eo130⟩ := Kd.R_slice HO394.out; subst eo130; obtain ⟨Ao131, co131, eo131⟩ := Kd.V_slice HO380.out; subst eo131) | ((with_reducible refine gate_callee (f := 14) rfl ?_); refine gL (some 25) rfl rfl Try.func14 (by kernel_rfl) rfl #[.slice Ao130 t392.length co130, .slice Ao131 t378.length co131] rfl ?_; (with_reducible refine (laws_eqByteS.calls k _ _ t392 _ _ t378 false _ ?side1 ?side2 ?side3 ?side4 A11.out).mono ?_); (case side1 => exact cR HO394.out); (case side2 => exact (Kd.R_reads' HO394.out).2.1); (case side3 => repeat (first | exact (Kd.V_reads' HO380.out).2.2 | (with_reducible refine Kd.C_alloc ?_ _) | (with_reducible refine Kd.C_drewN ?_ _) | (with_reducible refine Kd.C_drew ?_))); (case side4 => exact (Kd.V_reads' HO380.out).2.1); rintro e w' ⟨rfl, ⟨nd, rfl⟩⟩; refine ⟨_, rfl, ?_⟩))
   go_ret
   exact ⟨by first | rfl | (simp [errW_none, errW_some] <;> rfl) | (simp [*, errW_none, errW_some] <;> rfl), bS HB.out⟩

end Go.Proofs.Yteoghpcgompajaa.PFnExactPutReq
